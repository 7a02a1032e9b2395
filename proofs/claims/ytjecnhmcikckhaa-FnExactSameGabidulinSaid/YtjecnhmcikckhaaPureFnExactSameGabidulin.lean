/- SameGabidulin of the program and of the reference agree for all pairs of codes, valid or not, and leave their arguments alone (beyond 2^20 elements the law itself asks nothing). -/
import Derived.Test.YtjecnhmcikckhaaPFnExactSameGabidulinx4
namespace Go.Proofs.Ytjecnhmcikckhaa.PureFnExactSameGabidulin
open Go.RowKit Go.Proofs.Ytjecnhmcikckhaa.PFnExactSameGabidulin Go.Proofs.YtjecnhmcikckhaaW.PrintWords Go.Proofs.YtjecnhmcikckhaaW.PrintLast Go.Proofs.YtjecnhmcikckhaaW.PrintMore
set_option linter.unusedVariables false
set_option linter.unusedSimpArgs false
theorem w64 {x : Int} (h0 : -9223372036854775808 ≤ x) (h1 : x ≤ 9223372036854775807) : wrap64 x = x := by unfold wrap64; omega
theorem rd_drop (l : List Int) (i : Int) (h0 : 0 ≤ i) (h1 : i < (l.length : Int)) : l.drop i.toNat = rd l i :: l.drop (i + 1).toNat := by
  have hl : i.toNat < l.length := by omega
  rw [List.drop_eq_getElem_cons hl]
  have e : (i + 1).toNat = i.toNat + 1 := by omega
  rw [e]
  congr 1
  unfold rd
  rw [List.getD_eq_getElem?_getD, List.getElem?_eq_getElem hl]; rfl
theorem wf64 {x : Int} (h : (Lit.int .i64 x).wf = true) : -9223372036854775808 ≤ x ∧ x ≤ 9223372036854775807 := by
  simp [Lit.wf, IntKind.min, IntKind.max, IntKind.signed, IntKind.bits] at h; omega
theorem maxLen_eq : maxLen = 9223372036854775807 := by unfold maxLen; rfl
theorem spec_l00Same.tells_l (a b : List Int) (hl : a.length = b.length) (hb : (a.length : Int) ≤ 9223372036854775807) : ∀ (d : Nat) (i : Int) (k : Nat), 0 ≤ i → i ≤ (a.length : Int) → (a.length : Int) - i = d → d < k →
    spec_l00Same.l0 k a b i = some (decide (a.drop i.toNat = b.drop i.toNat)) := by
  intro d
  induction d with
  | zero =>
    intro k' k h0 h1 hd hk
    obtain ⟨k, rfl⟩ : ∃ m, k = m + 1 := ⟨k - 1, by omega⟩
    simp only [spec_l00Same.l0]
    rw [if_neg (by omega), List.drop_eq_nil_of_le (by omega), List.drop_eq_nil_of_le (by omega)]; simp
  | succ d ih =>
    intro i k h0 h1 hd hk
    obtain ⟨k, rfl⟩ : ∃ m, k = m + 1 := ⟨k - 1, by omega⟩
    simp only [spec_l00Same.l0]
    rw [if_pos (by omega), if_pos h0, if_pos (by omega), w64 (by omega) (by omega), rd_drop a i h0 (by omega), rd_drop b i h0 (by omega)]
    by_cases e : rd a i = rd b i
    · rw [if_pos e, ih (i + 1) k (by omega) (by omega) (by omega) (by omega)]
      simp [e]
    · rw [if_neg e]; simp [e]
theorem spec_l00Same.tells (a b : List Int) (hb : a.length ≤ 9223372036854775807) (k : Nat) (hk : a.length < k) : spec_l00Same.f k a b = some (decide (a = b)) := by
  unfold spec_l00Same.f
  by_cases h : (a.length : Int) = (b.length : Int)
  · rw [if_pos h, spec_l00Same.tells_l a b (by omega) (by omega) a.length 0 k (by omega) (by omega) (by omega) hk]
    simp
  · rw [if_neg h]
    have : a ≠ b := fun e => h (by rw [e])
    simp [this]
theorem slices_Equal_int64_int64.tells_l (a b : List Int) (hl : a.length = b.length) (hb : (a.length : Int) ≤ 9223372036854775807) : ∀ (d : Nat) (i : Int) (k : Nat), 0 ≤ i → i ≤ (a.length : Int) → (a.length : Int) - i = d → d < k →
    slices_Equal_int64_int64.l0 k a b (a.length : Int) i = some (decide (a.drop i.toNat = b.drop i.toNat)) := by
  intro d
  induction d with
  | zero =>
    intro k' k h0 h1 hd hk
    obtain ⟨k, rfl⟩ : ∃ m, k = m + 1 := ⟨k - 1, by omega⟩
    simp only [slices_Equal_int64_int64.l0]
    rw [if_neg (by omega), List.drop_eq_nil_of_le (by omega), List.drop_eq_nil_of_le (by omega)]; simp
  | succ d ih =>
    intro i k h0 h1 hd hk
    obtain ⟨k, rfl⟩ : ∃ m, k = m + 1 := ⟨k - 1, by omega⟩
    simp only [slices_Equal_int64_int64.l0]
    rw [if_pos (by omega), if_pos h0, if_pos (by omega), if_pos (by omega), w64 (by omega) (by omega), rd_drop a i h0 (by omega), rd_drop b i h0 (by omega)]
    by_cases e : rd a i = rd b i
    · rw [if_pos e, ih (i + 1) k (by omega) (by omega) (by omega) (by omega)]
      simp [e]
    · rw [if_neg e]; simp [e]
theorem slices_Equal_int64_int64.tells (a b : List Int) (hb : a.length ≤ 9223372036854775807) (k : Nat) (hk : a.length < k) : slices_Equal_int64_int64.f k a b = some (decide (a = b)) := by
  unfold slices_Equal_int64_int64.f
  by_cases h : (a.length : Int) = (b.length : Int)
  · rw [if_pos h, slices_Equal_int64_int64.tells_l a b (by omega) (by omega) a.length 0 k (by omega) (by omega) (by omega) hk]
    simp
  · rw [if_neg h]
    have : a ≠ b := fun e => h (by rw [e])
    simp [this]
theorem laws_eqInt64S.tells_l (a b : List Int) (hl : a.length = b.length) (hb : (a.length : Int) ≤ 9223372036854775807) : ∀ (d : Nat) (i : Int) (k : Nat), 0 ≤ i → i ≤ (a.length : Int) → (a.length : Int) - i = d → d < k →
    laws_eqInt64S.l0 k a b i = some (decide (a.drop i.toNat = b.drop i.toNat)) := by
  intro d
  induction d with
  | zero =>
    intro k' k h0 h1 hd hk
    obtain ⟨k, rfl⟩ : ∃ m, k = m + 1 := ⟨k - 1, by omega⟩
    simp only [laws_eqInt64S.l0]
    rw [if_neg (by omega), List.drop_eq_nil_of_le (by omega), List.drop_eq_nil_of_le (by omega)]; simp
  | succ d ih =>
    intro i k h0 h1 hd hk
    obtain ⟨k, rfl⟩ : ∃ m, k = m + 1 := ⟨k - 1, by omega⟩
    simp only [laws_eqInt64S.l0]
    rw [if_pos (by omega), if_pos h0, if_pos (by omega), w64 (by omega) (by omega), rd_drop a i h0 (by omega), rd_drop b i h0 (by omega)]
    by_cases e : rd a i = rd b i
    · rw [if_pos e, ih (i + 1) k (by omega) (by omega) (by omega) (by omega)]
      simp [e]
    · rw [if_neg e]; simp [e]
theorem laws_eqInt64S.tells (a b : List Int) (hb : a.length ≤ 9223372036854775807) (k : Nat) (hk : a.length < k) : laws_eqInt64S.f k a b = some (decide (a = b)) := by
  unfold laws_eqInt64S.f
  by_cases h : (a.length : Int) = (b.length : Int)
  · rw [if_pos h, laws_eqInt64S.tells_l a b (by omega) (by omega) a.length 0 k (by omega) (by omega) (by omega) hk]
    simp
  · rw [if_neg h]
    have : a ≠ b := fun e => h (by rw [e])
    simp [this]
theorem set_rd (l o : List Int) (i : Int) (h0 : 0 ≤ i) (h1 : i < (l.length : Int)) (ho : o.length = l.length) (he : o.take i.toNat = l.take i.toNat) : (o.set i.toNat (rd l i)).take (i + 1).toNat = l.take (i + 1).toNat := by
  have e : (i + 1).toNat = i.toNat + 1 := by omega
  have hl : i.toNat < l.length := by omega
  have ho' : i.toNat < o.length := by omega
  rw [e, List.take_succ_eq_append_getElem (by simpa using ho'), List.take_succ_eq_append_getElem hl, List.take_set_of_le (Nat.le_refl _), he, List.getElem_set_self]
  congr 2
  unfold rd
  rw [List.getD_eq_getElem?_getD, List.getElem?_eq_getElem hl]; rfl
theorem laws_toInt64S.tells_l (l : List Int) (hb : (l.length : Int) ≤ 9223372036854775807) : ∀ (d : Nat) (i : Int) (o : List Int) (k : Nat), 0 ≤ i → i ≤ (l.length : Int) → (l.length : Int) - i = d → d < k → o.length = l.length → o.take i.toNat = l.take i.toNat →
    laws_toInt64S.l0 k l o i = some l := by
  intro d
  induction d with
  | zero =>
    intro i o k h0 h1 hd hk ho he
    obtain ⟨k, rfl⟩ : ∃ m, k = m + 1 := ⟨k - 1, by omega⟩
    simp only [laws_toInt64S.l0]
    rw [if_neg (by omega)]
    have e : i.toNat = l.length := by omega
    rw [e, List.take_of_length_le (by omega), List.take_of_length_le (by omega)] at he
    rw [he]
  | succ d ih =>
    intro i o k h0 h1 hd hk ho he
    obtain ⟨k, rfl⟩ : ∃ m, k = m + 1 := ⟨k - 1, by omega⟩
    simp only [laws_toInt64S.l0]
    rw [if_pos (by omega), if_pos h0, if_pos (by omega), w64 (by omega) (by omega)]
    exact ih (i + 1) _ k (by omega) (by omega) (by omega) (by omega) (by simpa using ho) (set_rd l o i h0 (by omega) ho he)
theorem laws_toInt64S.tells (l : List Int) (hl : l.length ≤ 1048576) (k : Nat) (hk : l.length < k) : laws_toInt64S.f k l = some l := by
  unfold laws_toInt64S.f
  rw [if_pos (by omega), if_pos (by omega)]
  exact laws_toInt64S.tells_l l (by omega) l.length 0 _ k (by omega) (by omega) (by omega) hk (by simp) (by simp)
theorem laws_szInt64S.tells (l : List Int) (hl : l.length ≤ maxLen) (x : Int) (h0 : 0 ≤ x) (h1 : x ≤ 1048576) : laws_szInt64S.f l x = some (if x < (l.length : Int) then -1 else x - l.length) := by
  rw [maxLen_eq] at hl
  unfold laws_szInt64S.f
  rw [w64 (by omega) (by omega)]
  by_cases h : x < (l.length : Int)
  · rw [if_pos (by omega), if_pos h]
  · rw [if_neg (by omega), if_neg h]
theorem to_tells (a b c : Int) (l : List Int) (hb : l.length ≤ 1048576) (k : Nat) (hk : l.length < k) : laws_toGabidulin.f k a b l c = some (a, b, l, c) := by
  unfold laws_toGabidulin.f laws_toField.f
  rw [laws_toInt64S.tells l hb k hk]; rfl
theorem eq_self (a b c : Int) (l : List Int) (hb : l.length ≤ 1048576) (k : Nat) (hk : l.length < k) : laws_eqGabidulin.f k a b l c a b l c = some true := by
  unfold laws_eqGabidulin.f laws_eqField.f
  rw [laws_eqInt64S.tells l l (by omega) k hk]; simp
theorem j3_tells (a b c : Int) (l : List Int) (hb : l.length ≤ 1048576) (k : Nat) (hk : l.length + 1 < k) : laws_FnExactSameGabidulin.j3 k a b l c a b l c = some true := by
  obtain ⟨k, rfl⟩ : ∃ m, k = m + 1 := ⟨k - 1, by omega⟩
  simp only [laws_FnExactSameGabidulin.j3]
  rw [to_tells a b c l hb k (by omega)]
  simp only [Option.bind_some]
  rw [eq_self a b c l hb k (by omega)]; rfl
theorem j2_tells (a b c : Int) (l : List Int) (hb : l.length ≤ 1048576) (a' b' c' : Int) (l' : List Int) (hb' : l'.length ≤ 1048576) (k : Nat) (hk : l.length + l'.length + 2 < k) : laws_FnExactSameGabidulin.j2 k a b l c a' b' l' c' a b l c a' b' l' c' = some true := by
  obtain ⟨k, rfl⟩ : ∃ m, k = m + 1 := ⟨k - 1, by omega⟩
  simp only [laws_FnExactSameGabidulin.j2]
  rw [to_tells a b c l hb k (by omega)]
  simp only [Option.bind_some]
  rw [eq_self a b c l hb k (by omega)]
  simp only [Option.bind_some]
  rw [if_true, j3_tells a' b' c' l' hb' k (by omega)]
theorem both (a b c : Int) (l : List Int) (hb : l.length ≤ 1048576) (a' b' c' : Int) (l' : List Int) (k : Nat) (hk : l.length < k) : ∃ r, spec_SameGabidulin.f k a b l c a' b' l' c' = some r ∧ impl_SameGabidulin.f k a b l c a' b' l' c' = some r := by
  unfold spec_SameGabidulin.f impl_SameGabidulin.f
  rw [spec_l00Same.tells l l' (by omega) k hk, slices_Equal_int64_int64.tells l l' (by omega) k hk]
  by_cases h1 : (a == a' && (b == b')) = true
  · rw [if_pos h1]
    simp only [Option.bind_some]
    by_cases h2 : l = l'
    · rw [if_pos (decide_eq_true h2)]; exact ⟨_, rfl, rfl⟩
    · rw [if_neg (by simpa using h2)]; exact ⟨_, rfl, rfl⟩
  · rw [if_neg h1]; exact ⟨_, rfl, rfl⟩
theorem main : laws_FnExactSameGabidulin.Pure := by
  intro a b l c a' b' l' c' _ _ hl _ _ _ _ hl' _ _
  refine ⟨l.length + l'.length + 100, ?_⟩
  generalize hK : l.length + l'.length + 100 = K
  unfold laws_FnExactSameGabidulin.f laws_szGabidulin.f
  rw [laws_szInt64S.tells l hl _ (by omega) (by omega)]
  simp only [Option.bind_some]
  by_cases h1 : (1048576 : Int) < (l.length : Int)
  · rw [if_pos h1]; rfl
  · rw [if_neg h1, if_neg (by omega)]
    simp only [Option.bind_some]
    rw [if_neg (by omega)]
    obtain ⟨K, rfl⟩ : ∃ m, K = m + 1 := ⟨K - 1, by omega⟩
    simp only [laws_FnExactSameGabidulin.j0]
    unfold laws_szGabidulin.f
    rw [laws_szInt64S.tells l' hl' _ (by omega) (by omega)]
    simp only [Option.bind_some]
    by_cases h2 : (1048576 : Int) - (l.length : Int) < (l'.length : Int)
    · rw [if_pos h2]; rfl
    · rw [if_neg h2, if_neg (by omega)]
      simp only [Option.bind_some]
      rw [if_neg (by omega)]
      obtain ⟨K, rfl⟩ : ∃ m, K = m + 1 := ⟨K - 1, by omega⟩
      simp only [laws_FnExactSameGabidulin.j1]
      obtain ⟨r, r1, r2⟩ := both a b c l (by omega) a' b' c' l' K (by omega)
      rw [to_tells a b c l (by omega) K (by omega), to_tells a' b' c' l' (by omega) K (by omega)]
      simp only [Option.bind_some]
      rw [r1]
      simp only [Option.bind_some]
      rw [r2]
      simp only [Option.bind_some, bne_self_eq_false]
      rw [if_neg (by decide)]
      exact j2_tells a b c l (by omega) a' b' c' l' (by omega) K (by omega)
end Go.Proofs.Ytjecnhmcikckhaa.PureFnExactSameGabidulin
namespace Go.Proofs.Ytjecnhmcikckhaa.Pure
open Go.Proofs.Ytjecnhmcikckhaa.PFnExactSameGabidulin
theorem FnExactSameGabidulin : laws_FnExactSameGabidulin.Pure := PureFnExactSameGabidulin.main
end Go.Proofs.Ytjecnhmcikckhaa.Pure
