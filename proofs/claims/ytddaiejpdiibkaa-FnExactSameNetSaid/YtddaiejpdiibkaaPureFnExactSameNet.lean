/- SameNet of the program and of the reference agree for all pairs of nets, valid or not, and leave their arguments alone (beyond 2^20 elements the law itself asks nothing). -/
import Derived.Test.YtddaiejpdiibkaaPFnExactSameNetx5
namespace Go.Proofs.Ytddaiejpdiibkaa.PureFnExactSameNet
open Go.RowKit Go.Proofs.Ytddaiejpdiibkaa.PFnExactSameNet Go.Proofs.YtddaiejpdiibkaaW.PrintWords Go.Proofs.YtddaiejpdiibkaaW.PrintLast Go.Proofs.YtddaiejpdiibkaaW.PrintMore
set_option linter.unusedVariables false
set_option linter.unusedSimpArgs false
theorem w64 {x : Int} (h0 : -9223372036854775808 ≤ x) (h1 : x ≤ 9223372036854775807) : wrap64 x = x := by unfold wrap64; omega
theorem rd_drop (l : List Int) (i : Int) (h0 : 0 ≤ i) (h1 : i < (l.length : Int)) : l.drop i.toNat = rd l i :: l.drop (i + 1).toNat := by
  have hl : i.toNat < l.length := by omega
  rw [List.drop_eq_getElem_cons hl]
  have e : (i + 1).toNat = i.toNat + 1 := by omega
  rw [e]
  congr 1
  unfold rd
  rw [List.getD_eq_getElem?_getD, List.getElem?_eq_getElem hl]; rfl
theorem wf64 {x : Int} (h : (Lit.int .i64 x).wf = true) : -9223372036854775808 ≤ x ∧ x ≤ 9223372036854775807 := by
  simp [Lit.wf, IntKind.min, IntKind.max, IntKind.signed, IntKind.bits] at h; omega
theorem maxLen_eq : maxLen = 9223372036854775807 := by unfold maxLen; rfl
theorem spec_l00Same.tells_l (a b : List Int) (hl : a.length = b.length) (hb : (a.length : Int) ≤ 9223372036854775807) : ∀ (d : Nat) (i : Int) (k : Nat), 0 ≤ i → i ≤ (a.length : Int) → (a.length : Int) - i = d → d < k →
    spec_l00Same.l0 k a b i = some (decide (a.drop i.toNat = b.drop i.toNat)) := by
  intro d
  induction d with
  | zero =>
    intro k' k h0 h1 hd hk
    obtain ⟨k, rfl⟩ : ∃ m, k = m + 1 := ⟨k - 1, by omega⟩
    simp only [spec_l00Same.l0]
    rw [if_neg (by omega), List.drop_eq_nil_of_le (by omega), List.drop_eq_nil_of_le (by omega)]; simp
  | succ d ih =>
    intro i k h0 h1 hd hk
    obtain ⟨k, rfl⟩ : ∃ m, k = m + 1 := ⟨k - 1, by omega⟩
    simp only [spec_l00Same.l0]
    rw [if_pos (by omega), if_pos h0, if_pos (by omega), w64 (by omega) (by omega), rd_drop a i h0 (by omega), rd_drop b i h0 (by omega)]
    by_cases e : rd a i = rd b i
    · rw [if_pos e, ih (i + 1) k (by omega) (by omega) (by omega) (by omega)]
      simp [e]
    · rw [if_neg e]; simp [e]
theorem spec_l00Same.tells (a b : List Int) (hb : a.length ≤ 9223372036854775807) (k : Nat) (hk : a.length < k) : spec_l00Same.f k a b = some (decide (a = b)) := by
  unfold spec_l00Same.f
  by_cases h : (a.length : Int) = (b.length : Int)
  · rw [if_pos h, spec_l00Same.tells_l a b (by omega) (by omega) a.length 0 k (by omega) (by omega) (by omega) hk]
    simp
  · rw [if_neg h]
    have : a ≠ b := fun e => h (by rw [e])
    simp [this]
theorem slices_Equal_int64_int64.tells_l (a b : List Int) (hl : a.length = b.length) (hb : (a.length : Int) ≤ 9223372036854775807) : ∀ (d : Nat) (i : Int) (k : Nat), 0 ≤ i → i ≤ (a.length : Int) → (a.length : Int) - i = d → d < k →
    slices_Equal_int64_int64.l0 k a b (a.length : Int) i = some (decide (a.drop i.toNat = b.drop i.toNat)) := by
  intro d
  induction d with
  | zero =>
    intro k' k h0 h1 hd hk
    obtain ⟨k, rfl⟩ : ∃ m, k = m + 1 := ⟨k - 1, by omega⟩
    simp only [slices_Equal_int64_int64.l0]
    rw [if_neg (by omega), List.drop_eq_nil_of_le (by omega), List.drop_eq_nil_of_le (by omega)]; simp
  | succ d ih =>
    intro i k h0 h1 hd hk
    obtain ⟨k, rfl⟩ : ∃ m, k = m + 1 := ⟨k - 1, by omega⟩
    simp only [slices_Equal_int64_int64.l0]
    rw [if_pos (by omega), if_pos h0, if_pos (by omega), if_pos (by omega), w64 (by omega) (by omega), rd_drop a i h0 (by omega), rd_drop b i h0 (by omega)]
    by_cases e : rd a i = rd b i
    · rw [if_pos e, ih (i + 1) k (by omega) (by omega) (by omega) (by omega)]
      simp [e]
    · rw [if_neg e]; simp [e]
theorem slices_Equal_int64_int64.tells (a b : List Int) (hb : a.length ≤ 9223372036854775807) (k : Nat) (hk : a.length < k) : slices_Equal_int64_int64.f k a b = some (decide (a = b)) := by
  unfold slices_Equal_int64_int64.f
  by_cases h : (a.length : Int) = (b.length : Int)
  · rw [if_pos h, slices_Equal_int64_int64.tells_l a b (by omega) (by omega) a.length 0 k (by omega) (by omega) (by omega) hk]
    simp
  · rw [if_neg h]
    have : a ≠ b := fun e => h (by rw [e])
    simp [this]
theorem laws_eqInt64S.tells_l (a b : List Int) (hl : a.length = b.length) (hb : (a.length : Int) ≤ 9223372036854775807) : ∀ (d : Nat) (i : Int) (k : Nat), 0 ≤ i → i ≤ (a.length : Int) → (a.length : Int) - i = d → d < k →
    laws_eqInt64S.l0 k a b i = some (decide (a.drop i.toNat = b.drop i.toNat)) := by
  intro d
  induction d with
  | zero =>
    intro k' k h0 h1 hd hk
    obtain ⟨k, rfl⟩ : ∃ m, k = m + 1 := ⟨k - 1, by omega⟩
    simp only [laws_eqInt64S.l0]
    rw [if_neg (by omega), List.drop_eq_nil_of_le (by omega), List.drop_eq_nil_of_le (by omega)]; simp
  | succ d ih =>
    intro i k h0 h1 hd hk
    obtain ⟨k, rfl⟩ : ∃ m, k = m + 1 := ⟨k - 1, by omega⟩
    simp only [laws_eqInt64S.l0]
    rw [if_pos (by omega), if_pos h0, if_pos (by omega), w64 (by omega) (by omega), rd_drop a i h0 (by omega), rd_drop b i h0 (by omega)]
    by_cases e : rd a i = rd b i
    · rw [if_pos e, ih (i + 1) k (by omega) (by omega) (by omega) (by omega)]
      simp [e]
    · rw [if_neg e]; simp [e]
theorem laws_eqInt64S.tells (a b : List Int) (hb : a.length ≤ 9223372036854775807) (k : Nat) (hk : a.length < k) : laws_eqInt64S.f k a b = some (decide (a = b)) := by
  unfold laws_eqInt64S.f
  by_cases h : (a.length : Int) = (b.length : Int)
  · rw [if_pos h, laws_eqInt64S.tells_l a b (by omega) (by omega) a.length 0 k (by omega) (by omega) (by omega) hk]
    simp
  · rw [if_neg h]
    have : a ≠ b := fun e => h (by rw [e])
    simp [this]
theorem set_rd (l o : List Int) (i : Int) (h0 : 0 ≤ i) (h1 : i < (l.length : Int)) (ho : o.length = l.length) (he : o.take i.toNat = l.take i.toNat) : (o.set i.toNat (rd l i)).take (i + 1).toNat = l.take (i + 1).toNat := by
  have e : (i + 1).toNat = i.toNat + 1 := by omega
  have hl : i.toNat < l.length := by omega
  have ho' : i.toNat < o.length := by omega
  rw [e, List.take_succ_eq_append_getElem (by simpa using ho'), List.take_succ_eq_append_getElem hl, List.take_set_of_le (Nat.le_refl _), he, List.getElem_set_self]
  congr 2
  unfold rd
  rw [List.getD_eq_getElem?_getD, List.getElem?_eq_getElem hl]; rfl
theorem laws_toInt64S.tells_l (l : List Int) (hb : (l.length : Int) ≤ 9223372036854775807) : ∀ (d : Nat) (i : Int) (o : List Int) (k : Nat), 0 ≤ i → i ≤ (l.length : Int) → (l.length : Int) - i = d → d < k → o.length = l.length → o.take i.toNat = l.take i.toNat →
    laws_toInt64S.l0 k l o i = some l := by
  intro d
  induction d with
  | zero =>
    intro i o k h0 h1 hd hk ho he
    obtain ⟨k, rfl⟩ : ∃ m, k = m + 1 := ⟨k - 1, by omega⟩
    simp only [laws_toInt64S.l0]
    rw [if_neg (by omega)]
    have e : i.toNat = l.length := by omega
    rw [e, List.take_of_length_le (by omega), List.take_of_length_le (by omega)] at he
    rw [he]
  | succ d ih =>
    intro i o k h0 h1 hd hk ho he
    obtain ⟨k, rfl⟩ : ∃ m, k = m + 1 := ⟨k - 1, by omega⟩
    simp only [laws_toInt64S.l0]
    rw [if_pos (by omega), if_pos h0, if_pos (by omega), w64 (by omega) (by omega)]
    exact ih (i + 1) _ k (by omega) (by omega) (by omega) (by omega) (by simpa using ho) (set_rd l o i h0 (by omega) ho he)
theorem laws_toInt64S.tells (l : List Int) (hl : l.length ≤ 1048576) (k : Nat) (hk : l.length < k) : laws_toInt64S.f k l = some l := by
  unfold laws_toInt64S.f
  rw [if_pos (by omega), if_pos (by omega)]
  exact laws_toInt64S.tells_l l (by omega) l.length 0 _ k (by omega) (by omega) (by omega) hk (by simp) (by simp)
theorem laws_szInt64S.tells (l : List Int) (hl : l.length ≤ maxLen) (x : Int) (h0 : 0 ≤ x) (h1 : x ≤ 1048576) : laws_szInt64S.f l x = some (if x < (l.length : Int) then -1 else x - l.length) := by
  rw [maxLen_eq] at hl
  unfold laws_szInt64S.f
  rw [w64 (by omega) (by omega)]
  by_cases h : x < (l.length : Int)
  · rw [if_pos (by omega), if_pos h]
  · rw [if_neg (by omega), if_neg h]
theorem rd_L1_drop (l : List (List Int)) (i : Int) (h0 : 0 ≤ i) (h1 : i < (l.length : Int)) : l.drop i.toNat = rd_L1 l i :: l.drop (i + 1).toNat := by
  have hl : i.toNat < l.length := by omega
  rw [List.drop_eq_getElem_cons hl]
  have e : (i + 1).toNat = i.toNat + 1 := by omega
  rw [e]
  congr 1
  unfold rd_L1
  rw [List.getD_eq_getElem?_getD, List.getElem?_eq_getElem hl]; rfl
theorem rd_L1_mem (l : List (List Int)) (i : Int) (h0 : 0 ≤ i) (h1 : i < (l.length : Int)) : rd_L1 l i ∈ l :=
  List.mem_of_mem_drop (i := i.toNat) (by rw [rd_L1_drop l i h0 h1]; exact List.mem_cons_self)
theorem set_rdL (l o : List (List Int)) (i : Int) (h0 : 0 ≤ i) (h1 : i < (l.length : Int)) (ho : o.length = l.length) (he : o.take i.toNat = l.take i.toNat) : (o.set i.toNat (rd_L1 l i)).take (i + 1).toNat = l.take (i + 1).toNat := by
  have e : (i + 1).toNat = i.toNat + 1 := by omega
  have hl : i.toNat < l.length := by omega
  have ho' : i.toNat < o.length := by omega
  rw [e, List.take_succ_eq_append_getElem (by simpa using ho'), List.take_succ_eq_append_getElem hl, List.take_set_of_le (Nat.le_refl _), he, List.getElem_set_self]
  congr 2
  unfold rd_L1
  rw [List.getD_eq_getElem?_getD, List.getElem?_eq_getElem hl]; rfl
theorem laws_toInt64SS.tells_l (l : List (List Int)) (hr : ∀ r ∈ l, r.length ≤ 1048576) (hb : (l.length : Int) ≤ 1048576) : ∀ (d : Nat) (i : Int) (o : List (List Int)) (k : Nat), 0 ≤ i → i ≤ (l.length : Int) → (l.length : Int) - i = d → d + 1048577 < k → o.length = l.length → o.take i.toNat = l.take i.toNat →
    laws_toInt64SS.l0 k l o i = some l := by
  intro d
  induction d with
  | zero =>
    intro i o k h0 h1 hd hk ho he
    obtain ⟨k, rfl⟩ : ∃ m, k = m + 1 := ⟨k - 1, by omega⟩
    simp only [laws_toInt64SS.l0]
    rw [if_neg (by omega)]
    have e : i.toNat = l.length := by omega
    rw [e, List.take_of_length_le (by omega), List.take_of_length_le (by omega)] at he
    rw [he]
  | succ d ih =>
    intro i o k h0 h1 hd hk ho he
    obtain ⟨k, rfl⟩ : ∃ m, k = m + 1 := ⟨k - 1, by omega⟩
    have hm := hr _ (rd_L1_mem l i h0 (by omega))
    simp only [laws_toInt64SS.l0]
    rw [if_pos (by omega), if_pos h0, laws_toInt64S.tells _ hm _ (by omega)]
    simp only [Option.bind_some]
    rw [if_pos (by omega), w64 (by omega) (by omega)]
    exact ih (i + 1) _ k (by omega) (by omega) (by omega) (by omega) (by simpa using ho) (set_rdL l o i h0 (by omega) ho he)
theorem laws_toInt64SS.tells (l : List (List Int)) (hr : ∀ r ∈ l, r.length ≤ 1048576) (hb : l.length ≤ 1048576) (k : Nat) (hk : l.length + 1048577 < k) : laws_toInt64SS.f k l = some l := by
  unfold laws_toInt64SS.f
  rw [if_pos (by omega), if_pos (by omega)]
  exact laws_toInt64SS.tells_l l hr (by omega) l.length 0 _ k (by omega) (by omega) (by omega) hk (by simp) (by simp)
theorem laws_szInt64SS.tells_l (l : List (List Int)) (hr : ∀ r ∈ l, r.length ≤ maxLen) (hb : (l.length : Int) ≤ 1048576) : ∀ (d : Nat) (i x : Int) (k : Nat), 0 ≤ i → i ≤ (l.length : Int) → (l.length : Int) - i = d → d < k → 0 ≤ x → x ≤ 1048576 →
    ∃ t, laws_szInt64SS.l0 k l x i = some t ∧ t ≤ x ∧ (t < 0 ∨ 0 ≤ t ∧ ∀ r ∈ l.drop i.toNat, (r.length : Int) ≤ x) := by
  intro d
  induction d with
  | zero =>
    intro i x k h0 h1 hd hk hx hx2
    obtain ⟨k, rfl⟩ : ∃ m, k = m + 1 := ⟨k - 1, by omega⟩
    simp only [laws_szInt64SS.l0]
    rw [if_neg (by omega), List.drop_eq_nil_of_le (by omega)]
    exact ⟨x, rfl, Int.le_refl _, Or.inr ⟨hx, by simp⟩⟩
  | succ d ih =>
    intro i x k h0 h1 hd hk hx hx2
    obtain ⟨k, rfl⟩ : ∃ m, k = m + 1 := ⟨k - 1, by omega⟩
    have hm := hr _ (rd_L1_mem l i h0 (by omega))
    simp only [laws_szInt64SS.l0]
    rw [if_pos (by omega), if_pos h0, laws_szInt64S.tells _ hm x hx hx2, rd_L1_drop l i h0 (by omega), w64 (x := i + 1) (by omega) (by omega)]
    simp only [Option.bind_some]
    by_cases h : x < ((rd_L1 l i).length : Int)
    · rw [if_pos h, if_pos (by omega)]
      exact ⟨-1, rfl, by omega, Or.inl (by omega)⟩
    · rw [if_neg h, if_neg (by omega)]
      obtain ⟨t, e, hle, hc⟩ := ih (i + 1) (x - ((rd_L1 l i).length : Int)) k (by omega) (by omega) (by omega) (by omega) (by omega) (by omega)
      refine ⟨t, e, by omega, ?_⟩
      rcases hc with hc | ⟨hc, ha⟩
      · exact Or.inl hc
      · refine Or.inr ⟨hc, ?_⟩
        intro r hr'
        rcases List.mem_cons.1 hr' with rfl | hr'
        · omega
        · have := ha r hr'; omega
theorem laws_szInt64SS.tells (l : List (List Int)) (hl : l.length ≤ maxLen) (hr : ∀ r ∈ l, r.length ≤ maxLen) (x : Int) (hx : 0 ≤ x) (hx2 : x ≤ 1048576) (k : Nat) (hk : l.length < k) :
    ∃ t, laws_szInt64SS.f k l x = some t ∧ t ≤ x ∧ (t < 0 ∨ 0 ≤ t ∧ l.length ≤ 1048576 ∧ ∀ r ∈ l, r.length ≤ 1048576) := by
  rw [maxLen_eq] at hl
  unfold laws_szInt64SS.f
  rw [w64 (by omega) (by omega)]
  by_cases h : x - (l.length : Int) < 0
  · rw [if_pos h]; exact ⟨-1, rfl, by omega, Or.inl (by omega)⟩
  · rw [if_neg h]
    obtain ⟨t, e, hle, hc⟩ := laws_szInt64SS.tells_l l hr (by omega) l.length 0 (x - (l.length : Int)) k (by omega) (by omega) (by omega) hk (by omega) (by omega)
    refine ⟨t, e, by omega, ?_⟩
    rcases hc with hc | ⟨hc, ha⟩
    · exact Or.inl hc
    · refine Or.inr ⟨hc, by omega, ?_⟩
      intro r hr'
      have := ha r (by simpa using hr')
      omega
theorem spec_l04SameRows.tells_l (a b : List (List Int)) (hr : ∀ r ∈ a, r.length ≤ 1048576) (hl : a.length = b.length) (hb : (a.length : Int) ≤ 1048576) : ∀ (d : Nat) (i : Int) (k : Nat), 0 ≤ i → i ≤ (a.length : Int) → (a.length : Int) - i = d → d + 1048577 < k →
    spec_l04SameRows.l0 k a b i = some (decide (a.drop i.toNat = b.drop i.toNat)) := by
  intro d
  induction d with
  | zero =>
    intro i k h0 h1 hd hk
    obtain ⟨k, rfl⟩ : ∃ m, k = m + 1 := ⟨k - 1, by omega⟩
    simp only [spec_l04SameRows.l0]
    rw [if_neg (by omega), List.drop_eq_nil_of_le (by omega), List.drop_eq_nil_of_le (by omega)]; simp
  | succ d ih =>
    intro i k h0 h1 hd hk
    obtain ⟨k, rfl⟩ : ∃ m, k = m + 1 := ⟨k - 1, by omega⟩
    have hm := hr _ (rd_L1_mem a i h0 (by omega))
    simp only [spec_l04SameRows.l0]
    rw [if_pos (by omega), if_pos h0, if_pos (by omega), spec_l00Same.tells _ _ (by omega) _ (by omega), w64 (by omega) (by omega), rd_L1_drop a i h0 (by omega), rd_L1_drop b i h0 (by omega)]
    simp only [Option.bind_some]
    by_cases e : rd_L1 a i = rd_L1 b i
    · rw [if_pos (decide_eq_true e), ih (i + 1) k (by omega) (by omega) (by omega) (by omega)]
      simp [e]
    · rw [if_neg (by simpa using e)]; simp [e]
theorem spec_l04SameRows.tells (a b : List (List Int)) (hr : ∀ r ∈ a, r.length ≤ 1048576) (hb : a.length ≤ 1048576) (k : Nat) (hk : a.length + 1048577 < k) : spec_l04SameRows.f k a b = some (decide (a = b)) := by
  unfold spec_l04SameRows.f
  by_cases h : (a.length : Int) = (b.length : Int)
  · rw [if_pos h, spec_l04SameRows.tells_l a b hr (by omega) (by omega) a.length 0 k (by omega) (by omega) (by omega) hk]
    simp
  · rw [if_neg h]
    have : a ≠ b := fun e => h (by rw [e])
    simp [this]
theorem slices_EqualFunc_int64_int64_int64_int64.tells_l (a b : List (List Int)) (hr : ∀ r ∈ a, r.length ≤ 1048576) (hl : a.length = b.length) (hb : (a.length : Int) ≤ 1048576) : ∀ (d : Nat) (i : Int) (k : Nat), 0 ≤ i → i ≤ (a.length : Int) → (a.length : Int) - i = d → d + 1048577 < k →
    slices_EqualFunc_int64_int64_int64_int64.l0 k b a (a.length : Int) i = some (decide (a.drop i.toNat = b.drop i.toNat)) := by
  intro d
  induction d with
  | zero =>
    intro i k h0 h1 hd hk
    obtain ⟨k, rfl⟩ : ∃ m, k = m + 1 := ⟨k - 1, by omega⟩
    simp only [slices_EqualFunc_int64_int64_int64_int64.l0]
    rw [if_neg (by omega), List.drop_eq_nil_of_le (by omega), List.drop_eq_nil_of_le (by omega)]; simp
  | succ d ih =>
    intro i k h0 h1 hd hk
    obtain ⟨k, rfl⟩ : ∃ m, k = m + 1 := ⟨k - 1, by omega⟩
    have hm := hr _ (rd_L1_mem a i h0 (by omega))
    simp only [slices_EqualFunc_int64_int64_int64_int64.l0]
    rw [if_pos (by omega), if_pos h0, if_pos (by omega), if_pos (by omega), slices_Equal_int64_int64.tells _ _ (by omega) _ (by omega), w64 (by omega) (by omega), rd_L1_drop a i h0 (by omega), rd_L1_drop b i h0 (by omega)]
    simp only [Option.bind_some]
    by_cases e : rd_L1 a i = rd_L1 b i
    · rw [if_pos (decide_eq_true e), ih (i + 1) k (by omega) (by omega) (by omega) (by omega)]
      simp [e]
    · rw [if_neg (by simpa using e)]; simp [e]
theorem slices_EqualFunc_int64_int64_int64_int64.tells (a b : List (List Int)) (hr : ∀ r ∈ a, r.length ≤ 1048576) (hb : a.length ≤ 1048576) (k : Nat) (hk : a.length + 1048577 < k) : slices_EqualFunc_int64_int64_int64_int64.f k a b = some (decide (a = b)) := by
  unfold slices_EqualFunc_int64_int64_int64_int64.f
  by_cases h : (a.length : Int) = (b.length : Int)
  · rw [if_pos h, slices_EqualFunc_int64_int64_int64_int64.tells_l a b hr (by omega) (by omega) a.length 0 k (by omega) (by omega) (by omega) hk]
    simp
  · rw [if_neg h]
    have : a ≠ b := fun e => h (by rw [e])
    simp [this]
theorem laws_eqInt64SS.tells_l (a b : List (List Int)) (hr : ∀ r ∈ a, r.length ≤ 1048576) (hl : a.length = b.length) (hb : (a.length : Int) ≤ 1048576) : ∀ (d : Nat) (i : Int) (k : Nat), 0 ≤ i → i ≤ (a.length : Int) → (a.length : Int) - i = d → d + 1048577 < k →
    laws_eqInt64SS.l0 k a b i = some (decide (a.drop i.toNat = b.drop i.toNat)) := by
  intro d
  induction d with
  | zero =>
    intro i k h0 h1 hd hk
    obtain ⟨k, rfl⟩ : ∃ m, k = m + 1 := ⟨k - 1, by omega⟩
    simp only [laws_eqInt64SS.l0]
    rw [if_neg (by omega), List.drop_eq_nil_of_le (by omega), List.drop_eq_nil_of_le (by omega)]; simp
  | succ d ih =>
    intro i k h0 h1 hd hk
    obtain ⟨k, rfl⟩ : ∃ m, k = m + 1 := ⟨k - 1, by omega⟩
    have hm := hr _ (rd_L1_mem a i h0 (by omega))
    simp only [laws_eqInt64SS.l0]
    rw [if_pos (by omega), if_pos h0, if_pos (by omega), laws_eqInt64S.tells _ _ (by omega) _ (by omega), w64 (by omega) (by omega), rd_L1_drop a i h0 (by omega), rd_L1_drop b i h0 (by omega)]
    simp only [Option.bind_some]
    by_cases e : rd_L1 a i = rd_L1 b i
    · rw [if_pos (decide_eq_true e), ih (i + 1) k (by omega) (by omega) (by omega) (by omega)]
      simp [e]
    · rw [if_neg (by simpa using e)]; simp [e]
theorem laws_eqInt64SS.tells (a b : List (List Int)) (hr : ∀ r ∈ a, r.length ≤ 1048576) (hb : a.length ≤ 1048576) (k : Nat) (hk : a.length + 1048577 < k) : laws_eqInt64SS.f k a b = some (decide (a = b)) := by
  unfold laws_eqInt64SS.f
  by_cases h : (a.length : Int) = (b.length : Int)
  · rw [if_pos h, laws_eqInt64SS.tells_l a b hr (by omega) (by omega) a.length 0 k (by omega) (by omega) (by omega) hk]
    simp
  · rw [if_neg h]
    have : a ≠ b := fun e => h (by rw [e])
    simp [this]
def ok (l : List (List Int)) : Prop := (∀ r ∈ l, r.length ≤ 1048576) ∧ l.length ≤ 1048576
theorem to_tells (a b c d : Int) (l m : List (List Int)) (hl : ok l) (hm : ok m) (k : Nat) (hk : l.length + m.length + 1048577 < k) : laws_toNet.f k a b c d l m = some (a, b, c, d, l, m) := by
  unfold laws_toNet.f laws_toField.f
  rw [laws_toInt64SS.tells l hl.1 hl.2 k (by omega), laws_toInt64SS.tells m hm.1 hm.2 k (by omega)]; rfl
theorem eq_self (a b c d : Int) (l m : List (List Int)) (hl : ok l) (hm : ok m) (k : Nat) (hk : l.length + m.length + 1048577 < k) : laws_eqNet.f k a b c d l m a b c d l m = some true := by
  unfold laws_eqNet.f laws_eqField.f
  rw [laws_eqInt64SS.tells l l hl.1 hl.2 k (by omega), laws_eqInt64SS.tells m m hm.1 hm.2 k (by omega)]; simp
theorem j3_tells (a b c d : Int) (l m : List (List Int)) (hl : ok l) (hm : ok m) (k : Nat) (hk : l.length + m.length + 1048578 < k) : laws_FnExactSameNet.j3 k a b c d l m a b c d l m = some true := by
  obtain ⟨k, rfl⟩ : ∃ m, k = m + 1 := ⟨k - 1, by omega⟩
  simp only [laws_FnExactSameNet.j3]
  rw [to_tells a b c d l m hl hm k (by omega)]
  simp only [Option.bind_some]
  rw [eq_self a b c d l m hl hm k (by omega)]; rfl
theorem j2_tells (a b c d : Int) (l m : List (List Int)) (hl : ok l) (hm : ok m) (a' b' c' d' : Int) (l' m' : List (List Int)) (hl' : ok l') (hm' : ok m') (k : Nat) (hk : l.length + m.length + l'.length + m'.length + 1048579 < k) : laws_FnExactSameNet.j2 k a b c d l m a' b' c' d' l' m' a b c d l m a' b' c' d' l' m' = some true := by
  obtain ⟨k, rfl⟩ : ∃ m, k = m + 1 := ⟨k - 1, by omega⟩
  simp only [laws_FnExactSameNet.j2]
  rw [to_tells a b c d l m hl hm k (by omega)]
  simp only [Option.bind_some]
  rw [eq_self a b c d l m hl hm k (by omega)]
  simp only [Option.bind_some]
  rw [if_true, j3_tells a' b' c' d' l' m' hl' hm' k (by omega)]
theorem both (a b c d : Int) (l m : List (List Int)) (hl : ok l) (hm : ok m) (a' b' c' d' : Int) (l' m' : List (List Int)) (k : Nat) (hk : l.length + m.length + 1048577 < k) : ∃ r, spec_SameNet.f k a b c d l m a' b' c' d' l' m' = some r ∧ impl_SameNet.f k a b c d l m a' b' c' d' l' m' = some r := by
  unfold spec_SameNet.f impl_SameNet.f impl_sameRows.f
  rw [spec_l04SameRows.tells l l' hl.1 hl.2 k (by omega), slices_EqualFunc_int64_int64_int64_int64.tells l l' hl.1 hl.2 k (by omega), spec_l04SameRows.tells m m' hm.1 hm.2 k (by omega), slices_EqualFunc_int64_int64_int64_int64.tells m m' hm.1 hm.2 k (by omega)]
  by_cases h1 : (a == a' && (b == b')) = true
  · by_cases h2 : c = c'
    · by_cases h3 : d = d'
      · rw [if_pos h1, if_pos h1, if_pos h2, if_pos h2, if_pos h3, if_pos h3]
        simp only [Option.bind_some]
        by_cases h4 : l = l'
        · rw [if_pos (decide_eq_true h4)]; exact ⟨_, rfl, rfl⟩
        · rw [if_neg (by simpa using h4)]; exact ⟨_, rfl, rfl⟩
      · rw [if_pos h1, if_pos h1, if_pos h2, if_pos h2, if_neg h3, if_neg h3]; exact ⟨_, rfl, rfl⟩
    · rw [if_pos h1, if_pos h1, if_neg h2, if_neg h2]; exact ⟨_, rfl, rfl⟩
  · rw [if_neg h1, if_neg h1]; exact ⟨_, rfl, rfl⟩
theorem sz_tells (a b c d : Int) (l m : List (List Int)) (hl : l.length ≤ maxLen) (hlr : ∀ r ∈ l, r.length ≤ maxLen) (hm : m.length ≤ maxLen) (hmr : ∀ r ∈ m, r.length ≤ maxLen) (x : Int) (hx : 0 ≤ x) (hx2 : x ≤ 1048576) (k : Nat) (hk : l.length + m.length < k) :
    ∃ t, laws_szNet.f k a b c d l m x = some t ∧ t ≤ x ∧ (t < 0 ∨ 0 ≤ t ∧ ok l ∧ ok m) := by
  unfold laws_szNet.f
  obtain ⟨t, e, hle, hc⟩ := laws_szInt64SS.tells l hl hlr x hx hx2 k (by omega)
  rw [e]
  simp only [Option.bind_some]
  rcases hc with hc | ⟨hc, hb, hr⟩
  · rw [if_pos hc]; exact ⟨-1, rfl, by omega, Or.inl (by omega)⟩
  · rw [if_neg (by omega)]
    obtain ⟨t', e', hle', hc'⟩ := laws_szInt64SS.tells m hm hmr t hc (by omega) k (by omega)
    rw [e']
    simp only [Option.bind_some]
    rcases hc' with hc' | ⟨hc', hb', hr'⟩
    · rw [if_pos hc']; exact ⟨-1, rfl, by omega, Or.inl (by omega)⟩
    · rw [if_neg (by omega)]; exact ⟨t', rfl, by omega, Or.inr ⟨hc', ⟨hr, hb⟩, ⟨hr', hb'⟩⟩⟩
theorem main : laws_FnExactSameNet.Pure := by
  intro a b c d l m a' b' c' d' l' m' _ _ _ _ hl hlr hm hmr _ _ _ _ hl' hlr' hm' hmr'
  refine ⟨l.length + m.length + l'.length + m'.length + 1048600, ?_⟩
  generalize hK : l.length + m.length + l'.length + m'.length + 1048600 = K
  unfold laws_FnExactSameNet.f
  obtain ⟨t, e, hle, hc⟩ := sz_tells a b c d l m hl (fun r h => (hlr r h).1) hm (fun r h => (hmr r h).1) 1048576 (by omega) (by omega) K (by omega)
  rw [e]
  simp only [Option.bind_some]
  rcases hc with hc | ⟨hc, h1, h2⟩
  · rw [if_pos hc]
  · rw [if_neg (by omega)]
    obtain ⟨K, rfl⟩ : ∃ m, K = m + 1 := ⟨K - 1, by omega⟩
    simp only [laws_FnExactSameNet.j0]
    obtain ⟨t', e', hle', hc'⟩ := sz_tells a' b' c' d' l' m' hl' (fun r h => (hlr' r h).1) hm' (fun r h => (hmr' r h).1) t hc hle K (by omega)
    rw [e']
    simp only [Option.bind_some]
    rcases hc' with hc' | ⟨hc', h1', h2'⟩
    · rw [if_pos hc']
    · rw [if_neg (by omega)]
      obtain ⟨K, rfl⟩ : ∃ m, K = m + 1 := ⟨K - 1, by omega⟩
      simp only [laws_FnExactSameNet.j1]
      obtain ⟨r, r1, r2⟩ := both a b c d l m h1 h2 a' b' c' d' l' m' K (by omega)
      rw [to_tells a b c d l m h1 h2 K (by omega), to_tells a' b' c' d' l' m' h1' h2' K (by omega)]
      simp only [Option.bind_some]
      rw [r1]
      simp only [Option.bind_some]
      rw [r2]
      simp only [Option.bind_some, bne_self_eq_false]
      rw [if_neg (by decide)]
      exact j2_tells a b c d l m h1 h2 a' b' c' d' l' m' h1' h2' K (by omega)
end Go.Proofs.Ytddaiejpdiibkaa.PureFnExactSameNet
namespace Go.Proofs.Ytddaiejpdiibkaa.Pure
open Go.Proofs.Ytddaiejpdiibkaa.PFnExactSameNet
theorem FnExactSameNet : laws_FnExactSameNet.Pure := PureFnExactSameNet.main
end Go.Proofs.Ytddaiejpdiibkaa.Pure
