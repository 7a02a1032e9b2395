/- SameMatrix of the program and of the reference agree for all pairs of matrices, valid or not, and leave their arguments alone (beyond 2^20 elements the law itself asks nothing). -/
import Derived.Test.YtkebapmicgkcdaaPFnExactSameMatrixx2
namespace Go.Proofs.Ytkebapmicgkcdaa.PureFnExactSameMatrix
open Go.RowKit Go.Proofs.Ytkebapmicgkcdaa.PFnExactSameMatrix Go.Proofs.YtkebapmicgkcdaaW.PrintWords Go.Proofs.YtkebapmicgkcdaaW.PrintLast Go.Proofs.YtkebapmicgkcdaaW.PrintMore
theorem w64 {x : Int} (h0 : -9223372036854775808 ≤ x) (h1 : x ≤ 9223372036854775807) : wrap64 x = x := by unfold wrap64; omega
theorem rd_drop (l : List Int) (i : Int) (h0 : 0 ≤ i) (h1 : i < (l.length : Int)) : l.drop i.toNat = rd l i :: l.drop (i + 1).toNat := by
  have hl : i.toNat < l.length := by omega
  rw [List.drop_eq_getElem_cons hl]
  have e : (i + 1).toNat = i.toNat + 1 := by omega
  rw [e]
  congr 1
  unfold rd
  rw [List.getD_eq_getElem?_getD, List.getElem?_eq_getElem hl]; rfl
theorem wf64 {x : Int} (h : (Lit.int .i64 x).wf = true) : -9223372036854775808 ≤ x ∧ x ≤ 9223372036854775807 := by
  simp [Lit.wf, IntKind.min, IntKind.max, IntKind.signed, IntKind.bits] at h; omega
theorem maxLen_eq : maxLen = 9223372036854775807 := by unfold maxLen; rfl
theorem spec_l00Same.tells_l (a b : List Int) (hl : a.length = b.length) (hb : (a.length : Int) ≤ 9223372036854775807) : ∀ (d : Nat) (i : Int) (k : Nat), 0 ≤ i → i ≤ (a.length : Int) → (a.length : Int) - i = d → d < k →
    spec_l00Same.l0 k a b i = some (decide (a.drop i.toNat = b.drop i.toNat)) := by
  intro d
  induction d with
  | zero =>
    intro k' k h0 h1 hd hk
    obtain ⟨k, rfl⟩ : ∃ m, k = m + 1 := ⟨k - 1, by omega⟩
    simp only [spec_l00Same.l0]
    rw [if_neg (by omega), List.drop_eq_nil_of_le (by omega), List.drop_eq_nil_of_le (by omega)]; simp
  | succ d ih =>
    intro i k h0 h1 hd hk
    obtain ⟨k, rfl⟩ : ∃ m, k = m + 1 := ⟨k - 1, by omega⟩
    simp only [spec_l00Same.l0]
    rw [if_pos (by omega), if_pos h0, if_pos (by omega), w64 (by omega) (by omega), rd_drop a i h0 (by omega), rd_drop b i h0 (by omega)]
    by_cases e : rd a i = rd b i
    · rw [if_pos e, ih (i + 1) k (by omega) (by omega) (by omega) (by omega)]
      simp [e]
    · rw [if_neg e]; simp [e]
theorem spec_l00Same.tells (a b : List Int) (hb : a.length ≤ 9223372036854775807) (k : Nat) (hk : a.length < k) : spec_l00Same.f k a b = some (decide (a = b)) := by
  unfold spec_l00Same.f
  by_cases h : (a.length : Int) = (b.length : Int)
  · rw [if_pos h, spec_l00Same.tells_l a b (by omega) (by omega) a.length 0 k (by omega) (by omega) (by omega) hk]
    simp
  · rw [if_neg h]
    have : a ≠ b := fun e => h (by rw [e])
    simp [this]
theorem slices_Equal_int64_int64.tells_l (a b : List Int) (hl : a.length = b.length) (hb : (a.length : Int) ≤ 9223372036854775807) : ∀ (d : Nat) (i : Int) (k : Nat), 0 ≤ i → i ≤ (a.length : Int) → (a.length : Int) - i = d → d < k →
    slices_Equal_int64_int64.l0 k a b (a.length : Int) i = some (decide (a.drop i.toNat = b.drop i.toNat)) := by
  intro d
  induction d with
  | zero =>
    intro k' k h0 h1 hd hk
    obtain ⟨k, rfl⟩ : ∃ m, k = m + 1 := ⟨k - 1, by omega⟩
    simp only [slices_Equal_int64_int64.l0]
    rw [if_neg (by omega), List.drop_eq_nil_of_le (by omega), List.drop_eq_nil_of_le (by omega)]; simp
  | succ d ih =>
    intro i k h0 h1 hd hk
    obtain ⟨k, rfl⟩ : ∃ m, k = m + 1 := ⟨k - 1, by omega⟩
    simp only [slices_Equal_int64_int64.l0]
    rw [if_pos (by omega), if_pos h0, if_pos (by omega), if_pos (by omega), w64 (by omega) (by omega), rd_drop a i h0 (by omega), rd_drop b i h0 (by omega)]
    by_cases e : rd a i = rd b i
    · rw [if_pos e, ih (i + 1) k (by omega) (by omega) (by omega) (by omega)]
      simp [e]
    · rw [if_neg e]; simp [e]
theorem slices_Equal_int64_int64.tells (a b : List Int) (hb : a.length ≤ 9223372036854775807) (k : Nat) (hk : a.length < k) : slices_Equal_int64_int64.f k a b = some (decide (a = b)) := by
  unfold slices_Equal_int64_int64.f
  by_cases h : (a.length : Int) = (b.length : Int)
  · rw [if_pos h, slices_Equal_int64_int64.tells_l a b (by omega) (by omega) a.length 0 k (by omega) (by omega) (by omega) hk]
    simp
  · rw [if_neg h]
    have : a ≠ b := fun e => h (by rw [e])
    simp [this]
theorem laws_eqInt64S.tells_l (a b : List Int) (hl : a.length = b.length) (hb : (a.length : Int) ≤ 9223372036854775807) : ∀ (d : Nat) (i : Int) (k : Nat), 0 ≤ i → i ≤ (a.length : Int) → (a.length : Int) - i = d → d < k →
    laws_eqInt64S.l0 k a b i = some (decide (a.drop i.toNat = b.drop i.toNat)) := by
  intro d
  induction d with
  | zero =>
    intro k' k h0 h1 hd hk
    obtain ⟨k, rfl⟩ : ∃ m, k = m + 1 := ⟨k - 1, by omega⟩
    simp only [laws_eqInt64S.l0]
    rw [if_neg (by omega), List.drop_eq_nil_of_le (by omega), List.drop_eq_nil_of_le (by omega)]; simp
  | succ d ih =>
    intro i k h0 h1 hd hk
    obtain ⟨k, rfl⟩ : ∃ m, k = m + 1 := ⟨k - 1, by omega⟩
    simp only [laws_eqInt64S.l0]
    rw [if_pos (by omega), if_pos h0, if_pos (by omega), w64 (by omega) (by omega), rd_drop a i h0 (by omega), rd_drop b i h0 (by omega)]
    by_cases e : rd a i = rd b i
    · rw [if_pos e, ih (i + 1) k (by omega) (by omega) (by omega) (by omega)]
      simp [e]
    · rw [if_neg e]; simp [e]
theorem laws_eqInt64S.tells (a b : List Int) (hb : a.length ≤ 9223372036854775807) (k : Nat) (hk : a.length < k) : laws_eqInt64S.f k a b = some (decide (a = b)) := by
  unfold laws_eqInt64S.f
  by_cases h : (a.length : Int) = (b.length : Int)
  · rw [if_pos h, laws_eqInt64S.tells_l a b (by omega) (by omega) a.length 0 k (by omega) (by omega) (by omega) hk]
    simp
  · rw [if_neg h]
    have : a ≠ b := fun e => h (by rw [e])
    simp [this]
theorem set_rd (l o : List Int) (i : Int) (h0 : 0 ≤ i) (h1 : i < (l.length : Int)) (ho : o.length = l.length) (he : o.take i.toNat = l.take i.toNat) : (o.set i.toNat (rd l i)).take (i + 1).toNat = l.take (i + 1).toNat := by
  have e : (i + 1).toNat = i.toNat + 1 := by omega
  have hl : i.toNat < l.length := by omega
  have ho' : i.toNat < o.length := by omega
  rw [e, List.take_succ_eq_append_getElem (by simpa using ho'), List.take_succ_eq_append_getElem hl, List.take_set_of_le (Nat.le_refl _), he, List.getElem_set_self]
  congr 2
  unfold rd
  rw [List.getD_eq_getElem?_getD, List.getElem?_eq_getElem hl]; rfl
theorem laws_toInt64S.tells_l (l : List Int) (hb : (l.length : Int) ≤ 9223372036854775807) : ∀ (d : Nat) (i : Int) (o : List Int) (k : Nat), 0 ≤ i → i ≤ (l.length : Int) → (l.length : Int) - i = d → d < k → o.length = l.length → o.take i.toNat = l.take i.toNat →
    laws_toInt64S.l0 k l o i = some l := by
  intro d
  induction d with
  | zero =>
    intro i o k h0 h1 hd hk ho he
    obtain ⟨k, rfl⟩ : ∃ m, k = m + 1 := ⟨k - 1, by omega⟩
    simp only [laws_toInt64S.l0]
    rw [if_neg (by omega)]
    have e : i.toNat = l.length := by omega
    rw [e, List.take_of_length_le (by omega), List.take_of_length_le (by omega)] at he
    rw [he]
  | succ d ih =>
    intro i o k h0 h1 hd hk ho he
    obtain ⟨k, rfl⟩ : ∃ m, k = m + 1 := ⟨k - 1, by omega⟩
    simp only [laws_toInt64S.l0]
    rw [if_pos (by omega), if_pos h0, if_pos (by omega), w64 (by omega) (by omega)]
    exact ih (i + 1) _ k (by omega) (by omega) (by omega) (by omega) (by simpa using ho) (set_rd l o i h0 (by omega) ho he)
theorem laws_toInt64S.tells (l : List Int) (hl : l.length ≤ 1048576) (k : Nat) (hk : l.length < k) : laws_toInt64S.f k l = some l := by
  unfold laws_toInt64S.f
  rw [if_pos (by omega), if_pos (by omega)]
  exact laws_toInt64S.tells_l l (by omega) l.length 0 _ k (by omega) (by omega) (by omega) hk (by simp) (by simp)
theorem laws_szInt64S.tells (l : List Int) (hl : l.length ≤ maxLen) (x : Int) (h0 : 0 ≤ x) (h1 : x ≤ 1048576) : laws_szInt64S.f l x = some (if x < (l.length : Int) then -1 else x - l.length) := by
  rw [maxLen_eq] at hl
  unfold laws_szInt64S.f
  rw [w64 (by omega) (by omega)]
  by_cases h : x < (l.length : Int)
  · rw [if_pos (by omega), if_pos h]
  · rw [if_neg (by omega), if_neg h]
theorem main : laws_FnExactSameMatrix.Pure := by
  intro a la b lb _ hla _ _ hlb _
  refine ⟨la.length + lb.length + 5, ?_⟩
  unfold laws_FnExactSameMatrix.f laws_szMatrix.f
  rw [laws_szInt64S.tells la hla _ (by omega) (by omega)]
  by_cases h1 : (1048576 : Int) < (la.length : Int)
  · simp [h1]
  · have g1 : ¬ ((1048576 : Int) - la.length < 0) := by omega
    simp only [if_neg h1, Option.bind_some, if_neg g1]
    rw [laws_szInt64S.tells lb hlb _ (by omega) (by omega)]
    by_cases h2 : (1048576 : Int) - la.length < (lb.length : Int)
    · simp [h2]
    · have g2 : ¬ ((1048576 : Int) - la.length - lb.length < 0) := by omega
      simp only [if_neg h2, Option.bind_some, if_neg g2]
      unfold laws_toMatrix.f
      rw [laws_toInt64S.tells la (by omega) _ (by omega), laws_toInt64S.tells lb (by omega) _ (by omega)]
      simp only [Option.bind_some]
      unfold spec_SameMatrix.f impl_SameMatrix.f laws_eqMatrix.f
      rw [spec_l00Same.tells la lb (by omega) _ (by omega), slices_Equal_int64_int64.tells la lb (by omega) _ (by omega), laws_eqInt64S.tells la la (by omega) _ (by omega), laws_eqInt64S.tells lb lb (by omega) _ (by omega)]
      by_cases e : a = b <;> simp [e]
end Go.Proofs.Ytkebapmicgkcdaa.PureFnExactSameMatrix
namespace Go.Proofs.Ytkebapmicgkcdaa.Pure
open Go.Proofs.Ytkebapmicgkcdaa.PFnExactSameMatrix
theorem FnExactSameMatrix : laws_FnExactSameMatrix.Pure := PureFnExactSameMatrix.main
end Go.Proofs.Ytkebapmicgkcdaa.Pure
