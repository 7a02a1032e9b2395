/- SumLinear of the program and of the reference agree for every field and every two lists, valid or not, leave the lists alone, and hand back a list of their own (beyond 2^20 elements the law itself asks nothing). -/
import Derived.Test.YtaopplbahakpgaaPFnExactSumLinearx6
namespace Go.Proofs.Ytaopplbahakpgaa.PureFnExactSumLinear
open Go.RowKit Go.Proofs.Ytaopplbahakpgaa.PFnExactSumLinear Go.Proofs.YtaopplbahakpgaaW.PrintWords Go.Proofs.YtaopplbahakpgaaW.PrintLast Go.Proofs.YtaopplbahakpgaaW.PrintMore
set_option linter.unusedVariables false
set_option linter.unusedSimpArgs false
theorem w64 {x : Int} (h0 : -9223372036854775808 ≤ x) (h1 : x ≤ 9223372036854775807) : wrap64 x = x := by unfold wrap64; omega
theorem rd_drop (l : List Int) (i : Int) (h0 : 0 ≤ i) (h1 : i < (l.length : Int)) : l.drop i.toNat = rd l i :: l.drop (i + 1).toNat := by
  have hl : i.toNat < l.length := by omega
  rw [List.drop_eq_getElem_cons hl]
  have e : (i + 1).toNat = i.toNat + 1 := by omega
  rw [e]
  congr 1
  unfold rd
  rw [List.getD_eq_getElem?_getD, List.getElem?_eq_getElem hl]; rfl
theorem wf64 {x : Int} (h : (Lit.int .i64 x).wf = true) : -9223372036854775808 ≤ x ∧ x ≤ 9223372036854775807 := by
  simp [Lit.wf, IntKind.min, IntKind.max, IntKind.signed, IntKind.bits] at h; omega
theorem maxLen_eq : maxLen = 9223372036854775807 := by unfold maxLen; rfl
def flds : List (Nat × Nat) := [(1, 2), (1, 3), (2, 7), (3, 11), (3, 13), (4, 19), (4, 25), (4, 31), (5, 37), (5, 41), (5, 47), (5, 55), (5, 59), (5, 61)]
def okF (d q : Int) : Bool := decide (1 ≤ d) && decide (d ≤ 5) && decide (0 ≤ q) && decide (q < 64) && flds.contains (d.toNat, q.toNat)
theorem okF_small : ∀ d : Fin 6, ∀ q : Fin 64, impl_ValidField.f 60 (d.val : Int) (q.val : Int) = some (okF (d.val : Int) (q.val : Int)) ∧ spec_l01Ok.f 60 (d.val : Int) (q.val : Int) = some (okF (d.val : Int) (q.val : Int)) := by decide +kernel
theorem okF_off (d q : Int) (h : ¬ ((0 ≤ d ∧ d < 6) ∧ (0 ≤ q ∧ q < 64))) : okF d q = false := by
  unfold okF
  by_cases h0 : 1 ≤ d <;> by_cases h1 : d ≤ 5 <;> by_cases h2 : 0 ≤ q <;> by_cases h3 : q < 64 <;> first | omega | simp [h0, h1, h2, h3]
theorem okF_impl (d q : Int) (k : Nat) (hk : 60 ≤ k) : impl_ValidField.f k d q = some (okF d q) := by
  refine at_rounds (fun k => impl_ValidField.mono d q k) hk ?_
  by_cases h : (0 ≤ d ∧ d < 6) ∧ (0 ≤ q ∧ q < 64)
  · have := (okF_small ⟨d.toNat, by omega⟩ ⟨q.toNat, by omega⟩).1
    have e : ((d.toNat : Nat) : Int) = d := by omega
    have e1 : ((q.toNat : Nat) : Int) = q := by omega
    simp only [e, e1] at this
    exact this
  · rw [okF_off d q h]
    unfold impl_ValidField.f impl_within.f impl_IsIrreducible.f
    by_cases h0 : d ≥ 1
    · by_cases h1 : d ≤ 5
      · by_cases h2 : q < 2
        · simp [h0, h1, h2, impl_IsIrreducible.j0]
        · have h3 : q ≥ 64 := by omega
          simp [h0, h1, h2, h3, impl_IsIrreducible.j0]
      · simp [h0, h1]
    · simp [h0]
theorem okF_spec (d q : Int) (k : Nat) (hk : 60 ≤ k) : spec_l01Ok.f k d q = some (okF d q) := by
  refine at_rounds (fun k => spec_l01Ok.mono d q k) hk ?_
  by_cases h : (0 ≤ d ∧ d < 6) ∧ (0 ≤ q ∧ q < 64)
  · have := (okF_small ⟨d.toNat, by omega⟩ ⟨q.toNat, by omega⟩).2
    have e : ((d.toNat : Nat) : Int) = d := by omega
    have e1 : ((q.toNat : Nat) : Int) = q := by omega
    simp only [e, e1] at this
    exact this
  · rw [okF_off d q h]
    unfold spec_l01Ok.f spec_l00In.f spec_IsIrreducible.f
    by_cases h0 : d ≥ 1
    · by_cases h1 : d ≤ 5
      · by_cases h2 : q > 0
        · have h3 : ¬ q < 64 := by omega
          simp [h0, h1, h2, h3]
        · simp [h0, h1, h2]
      · simp [h0, h1]
    · simp [h0]
def S (d : Int) : Int := 2 ^ d.toNat
theorem okF_range {d q : Int} (h : okF d q = true) : 1 ≤ d ∧ d ≤ 5 ∧ 0 ≤ q ∧ q < 64 ∧ (d.toNat, q.toNat) ∈ flds := by
  simp only [okF, Bool.and_eq_true, decide_eq_true_eq, List.contains_iff_mem] at h
  exact ⟨h.1.1.1.1, h.1.1.1.2, h.1.1.2, h.1.2, h.2⟩
theorem sizes {d : Int} (h1 : 1 ≤ d) (h5 : d ≤ 5) : 0 ≤ IntKind.u64.wrap d ∧ IntKind.u64.wrap d = d ∧ shl .i64 1 d = S d ∧ wrap64 (S d - 1) = S d - 1 ∧ 2 ≤ S d ∧ S d ≤ 32 ∧ wrap64 (S d) = S d := by
  have : d = 1 ∨ d = 2 ∨ d = 3 ∨ d = 4 ∨ d = 5 := by omega
  rcases this with rfl | rfl | rfl | rfl | rfl <;> decide +kernel
def inF (d x : Int) : Bool := decide (0 ≤ x) && decide (x < S d)
theorem inF_iff {d x : Int} : inF d x = true ↔ 0 ≤ x ∧ x < S d := by unfold inF; simp
theorem S_nat (d : Int) : ((2 ^ d.toNat : Nat) : Int) = S d := by unfold S; simp
theorem any_not_inF (d : Int) (l : List Int) : (!l.any fun x => !inF d x) = l.all (inF d) := by
  induction l with
  | nil => rfl
  | cons x l ih => simp only [List.any_cons, List.all_cons, ← ih]; cases inF d x <;> simp
theorem within_inF {d : Int} (h1 : 1 ≤ d) (h5 : d ≤ 5) (x : Int) : impl_within.f x 0 (S d - 1) = some (inF d x) := by
  unfold impl_within.f inF
  by_cases h : x ≥ 0
  · have h0 : 0 ≤ x := h
    rw [if_pos h]
    by_cases h2 : x < S d
    · simp [h0, h2, show x ≤ S d - 1 by omega]
    · simp [h2, show ¬ x ≤ S d - 1 by omega]
  · have h0 : ¬ 0 ≤ x := h
    rw [if_neg h]; simp [h0]
theorem has_tells {d q : Int} (h : okF d q = true) (l : List Int) : impl_Field_has.f d q l = some (l.all (inF d)) := by
  obtain ⟨h1, h5, _⟩ := okF_range h
  obtain ⟨_, _, e, e2, _⟩ := sizes h1 h5
  have e3 := anyO_some (fun x_ => impl_Field_has_1.f x_ d q) (fun x => !inF d x) l (fun x _ => by
    unfold impl_Field_has_1.f impl_Field_count.f
    rw [if_pos (by omega), e]
    simp only [Option.bind_some]
    rw [e2, within_inF h1 h5]; rfl)
  unfold impl_Field_has.f
  rw [e3, ← any_not_inF]; rfl
theorem in_tells {d : Int} (h1 : 1 ≤ d) (h5 : d ≤ 5) (x : Int) : spec_l00In.f x 0 (wrap64 (S d - 1)) = some (inF d x) := by
  obtain ⟨_, _, _, e2, _⟩ := sizes h1 h5
  unfold spec_l00In.f inF
  rw [e2]
  by_cases h : x ≥ 0
  · have h0 : 0 ≤ x := h
    rw [if_pos h]
    by_cases h2 : x < S d
    · simp [h0, h2, show x ≤ S d - 1 by omega]
    · simp [h2, show ¬ x ≤ S d - 1 by omega]
  · have h0 : ¬ 0 ≤ x := h
    rw [if_neg h]; simp [h0]
theorem size_tells {d : Int} (h1 : 1 ≤ d) (h5 : d ≤ 5) (q : Int) : spec_l01Size.f d q = some (S d) := by
  obtain ⟨e0, e1, e, _⟩ := sizes h1 h5
  unfold spec_l01Size.f
  rw [if_pos e0, e1, e]
theorem elements_tells_l {d q : Int} (h : okF d q = true) (l : List Int) (hl : l.length ≤ 1048576) : ∀ (n : Nat) (i : Int) (k : Nat), 0 ≤ i → i ≤ (l.length : Int) → (l.length : Int) - i = n → n < k → spec_l03Elements.l0 k l i d q = some ((l.drop i.toNat).all (inF d)) := by
  obtain ⟨h1, h5, _⟩ := okF_range h
  intro n
  induction n with
  | zero =>
    intro i k h0 h2 hd hk
    obtain ⟨k, rfl⟩ : ∃ m, k = m + 1 := ⟨k - 1, by omega⟩
    simp only [spec_l03Elements.l0]
    rw [if_neg (by omega), List.drop_eq_nil_of_le (by omega)]; rfl
  | succ n ih =>
    intro i k h0 h2 hd hk
    obtain ⟨k, rfl⟩ : ∃ m, k = m + 1 := ⟨k - 1, by omega⟩
    simp only [spec_l03Elements.l0]
    rw [if_pos (by omega), if_pos h0, size_tells h1 h5 q]
    simp only [Option.bind_some]
    rw [in_tells h1 h5, w64 (x := i + 1) (by omega) (by omega), rd_drop l i h0 (by omega)]
    simp only [Option.bind_some, List.all_cons]
    by_cases e : inF d (rd l i) = true
    · rw [if_pos e, ih (i + 1) k (by omega) (by omega) (by omega) (by omega)]; simp [e]
    · rw [if_neg e]; simp [e]
theorem elements_tells {d q : Int} (h : okF d q = true) (l : List Int) (hl : l.length ≤ 1048576) (k : Nat) (hk : l.length < k) : spec_l03Elements.f k d q l = some (l.all (inF d)) := by
  unfold spec_l03Elements.f
  rw [elements_tells_l h l hl l.length 0 k (by omega) (by omega) (by omega) hk]; simp
def okL (d : Int) (l : List Int) : Bool := decide ((l.length : Int) ≤ 12) && (l.all (inF d) && (decide ((l.length : Int) = 0) || (rd l ((l.length : Int) - 1) != 0)))
theorem okL_range {d : Int} {l : List Int} (h : okL d l = true) : l.length ≤ 12 ∧ l.all (inF d) = true := by
  unfold okL at h
  simp only [Bool.and_eq_true, decide_eq_true_eq] at h
  exact ⟨by omega, h.2.1⟩
theorem isLinear_tells {d q : Int} (h : okF d q = true) (l : List Int) : impl_Field_isLinear.f d q l = some (okL d l) := by
  unfold impl_Field_isLinear.f okL
  by_cases h12 : (l.length : Int) ≤ 12
  · rw [if_pos h12, has_tells h]
    simp only [Option.bind_some]
    by_cases ha : l.all (inF d) = true
    · rw [if_pos ha]
      by_cases h0 : (l.length : Int) = 0
      · rw [if_pos h0, ha, decide_eq_true h12, decide_eq_true h0]; rfl
      · rw [if_neg h0, w64 (by omega) (by omega), if_pos (by omega), if_pos (by omega), ha, decide_eq_true h12, decide_eq_false h0]; rfl
    · rw [if_neg ha, Bool.eq_false_iff.2 ha]; simp
  · rw [if_neg h12, decide_eq_false h12]; rfl
theorem l03Ok_tells {d q : Int} (h : okF d q = true) (l : List Int) (k : Nat) (hk : 20 ≤ k) : spec_l03Ok.f k d q l = some (okL d l) := by
  rw [← isLinear_tells h l]
  unfold spec_l03Ok.f impl_Field_isLinear.f
  by_cases h12 : (l.length : Int) ≤ 12
  · rw [if_pos h12, if_pos h12, elements_tells h l (by omega) _ (by omega), has_tells h]
  · rw [if_neg h12, if_neg h12]
theorem laws_eqInt64S.tells_l (a b : List Int) (hl : a.length = b.length) (hb : (a.length : Int) ≤ 9223372036854775807) : ∀ (d : Nat) (i : Int) (k : Nat), 0 ≤ i → i ≤ (a.length : Int) → (a.length : Int) - i = d → d < k →
    laws_eqInt64S.l0 k a b i = some (decide (a.drop i.toNat = b.drop i.toNat)) := by
  intro d
  induction d with
  | zero =>
    intro k' k h0 h1 hd hk
    obtain ⟨k, rfl⟩ : ∃ m, k = m + 1 := ⟨k - 1, by omega⟩
    simp only [laws_eqInt64S.l0]
    rw [if_neg (by omega), List.drop_eq_nil_of_le (by omega), List.drop_eq_nil_of_le (by omega)]; simp
  | succ d ih =>
    intro i k h0 h1 hd hk
    obtain ⟨k, rfl⟩ : ∃ m, k = m + 1 := ⟨k - 1, by omega⟩
    simp only [laws_eqInt64S.l0]
    rw [if_pos (by omega), if_pos h0, if_pos (by omega), w64 (by omega) (by omega), rd_drop a i h0 (by omega), rd_drop b i h0 (by omega)]
    by_cases e : rd a i = rd b i
    · rw [if_pos e, ih (i + 1) k (by omega) (by omega) (by omega) (by omega)]
      simp [e]
    · rw [if_neg e]; simp [e]
theorem laws_eqInt64S.tells (a b : List Int) (hb : a.length ≤ 9223372036854775807) (k : Nat) (hk : a.length < k) : laws_eqInt64S.f k a b = some (decide (a = b)) := by
  unfold laws_eqInt64S.f
  by_cases h : (a.length : Int) = (b.length : Int)
  · rw [if_pos h, laws_eqInt64S.tells_l a b (by omega) (by omega) a.length 0 k (by omega) (by omega) (by omega) hk]
    simp
  · rw [if_neg h]
    have : a ≠ b := fun e => h (by rw [e])
    simp [this]
theorem set_rd (l o : List Int) (i : Int) (h0 : 0 ≤ i) (h1 : i < (l.length : Int)) (ho : o.length = l.length) (he : o.take i.toNat = l.take i.toNat) : (o.set i.toNat (rd l i)).take (i + 1).toNat = l.take (i + 1).toNat := by
  have e : (i + 1).toNat = i.toNat + 1 := by omega
  have hl : i.toNat < l.length := by omega
  have ho' : i.toNat < o.length := by omega
  rw [e, List.take_succ_eq_append_getElem (by simpa using ho'), List.take_succ_eq_append_getElem hl, List.take_set_of_le (Nat.le_refl _), he, List.getElem_set_self]
  congr 2
  unfold rd
  rw [List.getD_eq_getElem?_getD, List.getElem?_eq_getElem hl]; rfl
theorem laws_toInt64S.tells_l (l : List Int) (hb : (l.length : Int) ≤ 9223372036854775807) : ∀ (d : Nat) (i : Int) (o : List Int) (k : Nat), 0 ≤ i → i ≤ (l.length : Int) → (l.length : Int) - i = d → d < k → o.length = l.length → o.take i.toNat = l.take i.toNat →
    laws_toInt64S.l0 k l o i = some l := by
  intro d
  induction d with
  | zero =>
    intro i o k h0 h1 hd hk ho he
    obtain ⟨k, rfl⟩ : ∃ m, k = m + 1 := ⟨k - 1, by omega⟩
    simp only [laws_toInt64S.l0]
    rw [if_neg (by omega)]
    have e : i.toNat = l.length := by omega
    rw [e, List.take_of_length_le (by omega), List.take_of_length_le (by omega)] at he
    rw [he]
  | succ d ih =>
    intro i o k h0 h1 hd hk ho he
    obtain ⟨k, rfl⟩ : ∃ m, k = m + 1 := ⟨k - 1, by omega⟩
    simp only [laws_toInt64S.l0]
    rw [if_pos (by omega), if_pos h0, if_pos (by omega), w64 (by omega) (by omega)]
    exact ih (i + 1) _ k (by omega) (by omega) (by omega) (by omega) (by simpa using ho) (set_rd l o i h0 (by omega) ho he)
theorem laws_toInt64S.tells (l : List Int) (hl : l.length ≤ 1048576) (k : Nat) (hk : l.length < k) : laws_toInt64S.f k l = some l := by
  unfold laws_toInt64S.f
  rw [if_pos (by omega), if_pos (by omega)]
  exact laws_toInt64S.tells_l l (by omega) l.length 0 _ k (by omega) (by omega) (by omega) hk (by simp) (by simp)
theorem rd_set_self (l : List Int) (i x : Int) (h0 : 0 ≤ i) (h1 : i < (l.length : Int)) : rd (l.set i.toNat x) i = x := by
  unfold rd
  rw [List.getD_eq_getElem?_getD, List.getElem?_set_self (by omega)]; rfl
theorem rd_set_ne (l : List Int) (i t x : Int) (h0 : 0 ≤ i) (h1 : 0 ≤ t) (h : t ≠ i) : rd (l.set i.toNat x) t = rd l t := by
  unfold rd
  rw [List.getD_eq_getElem?_getD, List.getD_eq_getElem?_getD, List.getElem?_set_ne (by omega)]
theorem mark_l : ∀ (d : Nat) (l : List Int) (i x : Int) (k : Nat), 0 ≤ i → i + d = (l.length : Int) → 0 ≤ x → x + d ≤ 1099511627776 → i + d ≤ 1099511627776 → d < k →
    ∃ l', laws_markInt64S.l0 k l x i = some (x + d, l') ∧ l'.length = l.length ∧ (∀ t, 0 ≤ t → t < i → rd l' t = rd l t) ∧ ∀ t, i ≤ t → t < (l.length : Int) → rd l' t = x + (t - i) := by
  intro d
  induction d with
  | zero =>
    intro l i x k hi hd hx hx2 hi2 hk
    obtain ⟨k, rfl⟩ : ∃ m, k = m + 1 := ⟨k - 1, by omega⟩
    simp only [laws_markInt64S.l0]
    rw [if_neg (by omega)]
    exact ⟨l, by simp, rfl, fun _ _ _ => rfl, fun t h1 h2 => by omega⟩
  | succ d ih =>
    intro l i x k hi hd hx hx2 hi2 hk
    obtain ⟨k, rfl⟩ : ∃ m, k = m + 1 := ⟨k - 1, by omega⟩
    simp only [laws_markInt64S.l0]
    rw [if_pos (by omega), if_pos hi, w64 (x := x + 1) (by omega) (by omega), w64 (x := i + 1) (by omega) (by omega)]
    obtain ⟨l', e, hl, h1, h2⟩ := ih (l.set i.toNat x) (i + 1) (x + 1) k (by omega) (by simp; omega) (by omega) (by omega) (by omega) (by omega)
    refine ⟨l', by rw [e]; congr 2; omega, by simpa using hl, ?_, ?_⟩
    · intro t h0 ht
      rw [h1 t h0 (by omega), rd_set_ne l i t x hi h0 (by omega)]
    · intro t h0 ht
      by_cases e : t = i
      · rw [e, h1 i hi (by omega), rd_set_self l i x hi (by omega)]; omega
      · rw [h2 t (by omega) (by simpa using ht)]; omega
theorem held_l : ∀ (d : Nat) (l : List Int) (i x : Int) (k : Nat), 0 ≤ i → i + d = (l.length : Int) → 0 ≤ x → x + d ≤ 1099511627776 → i + d ≤ 1099511627776 → d < k → (∀ t, i ≤ t → t < (l.length : Int) → rd l t = x + (t - i)) →
    laws_heldInt64S.l0 k l x i = some (x + d) := by
  intro d
  induction d with
  | zero =>
    intro l i x k hi hd hx hx2 hi2 hk h
    obtain ⟨k, rfl⟩ : ∃ m, k = m + 1 := ⟨k - 1, by omega⟩
    simp only [laws_heldInt64S.l0]
    rw [if_neg (by omega)]; simp
  | succ d ih =>
    intro l i x k hi hd hx hx2 hi2 hk h
    obtain ⟨k, rfl⟩ : ∃ m, k = m + 1 := ⟨k - 1, by omega⟩
    simp only [laws_heldInt64S.l0]
    rw [if_pos (by omega), if_pos hi, if_pos (by rw [h i (by omega) (by omega)]; omega), w64 (x := x + 1) (by omega) (by omega), w64 (x := i + 1) (by omega) (by omega),
      ih l (i + 1) (x + 1) k (by omega) (by omega) (by omega) (by omega) (by omega) (by omega) (fun t h0 ht => by rw [h t (by omega) ht]; omega)]
    congr 1; omega
theorem mark_tells (l : List Int) (hl : l.length ≤ 2097152) (k : Nat) (hk : l.length < k) : ∃ l', laws_markInt64S.f k l 1 = some (1 + (l.length : Int), l') ∧ ∀ k', l.length < k' → laws_heldInt64S.f k' l' 1 = some (1 + (l.length : Int)) := by
  unfold laws_markInt64S.f laws_heldInt64S.f
  obtain ⟨l', e, e2, _, h⟩ := mark_l l.length l 0 1 k (by omega) (by omega) (by omega) (by omega) (by omega) hk
  refine ⟨l', e, fun k' hk' => ?_⟩
  exact held_l l.length l' 0 1 k' (by omega) (by omega) (by omega) (by omega) (by omega) hk' (fun t h0 ht => h t h0 (by omega))
theorem rd_take (l : List Int) (n m : Nat) (h : m < n) : rd (l.take n) (m : Int) = rd l (m : Int) := by
  unfold rd
  rw [List.getD_eq_getElem?_getD, List.getD_eq_getElem?_getD, List.getElem?_take_of_lt (by omega)]
theorem trim_l (l : List Int) (hl : l.length ≤ 1048576) : ∀ n : Nat, n ≤ l.length → ∃ T : List Int, T.length ≤ n ∧ ∀ k, n < k → spec_l03Trim.l0 k l (n : Int) = some (T, l) ∧ impl_trim.l0 k (l.take n) = some T := by
  intro n
  induction n with
  | zero =>
    intro _
    refine ⟨[], Nat.le_refl _, fun k hk => ?_⟩
    obtain ⟨k, rfl⟩ : ∃ m, k = m + 1 := ⟨k - 1, by omega⟩
    constructor
    · simp only [spec_l03Trim.l0]
      rw [if_neg (by omega), if_pos (by omega), if_pos (by omega)]
      simp [spec_l00Own.f]
    · simp only [impl_trim.l0]
      rw [if_neg (by simp)]; simp
  | succ n ih =>
    intro hn
    by_cases e : rd l (n : Int) = 0
    · obtain ⟨T, h1, h2⟩ := ih (by omega)
      refine ⟨T, by omega, fun k hk => ?_⟩
      obtain ⟨k, rfl⟩ : ∃ m, k = m + 1 := ⟨k - 1, by omega⟩
      have hlen : (l.take (n + 1)).length = n + 1 := by rw [List.length_take]; omega
      constructor
      · simp only [spec_l03Trim.l0]
        rw [if_pos (by omega), w64 (by omega) (by omega), show ((n + 1 : Nat) : Int) - 1 = (n : Int) by omega, if_pos (by omega), if_pos (by omega), if_pos e]
        exact (h2 k (by omega)).1
      · simp only [impl_trim.l0]
        rw [hlen, if_pos (by omega), w64 (by omega) (by omega), show ((n + 1 : Nat) : Int) - 1 = (n : Int) by omega, if_pos (by omega), if_pos (by omega), rd_take l _ _ (by omega), if_pos e, if_pos (by omega), List.take_take,
          show min (n : Int).toNat (n + 1) = n by omega]
        exact (h2 k (by omega)).2
    · refine ⟨l.take (n + 1), by rw [List.length_take]; omega, fun k hk => ?_⟩
      obtain ⟨k, rfl⟩ : ∃ m, k = m + 1 := ⟨k - 1, by omega⟩
      have hlen : (l.take (n + 1)).length = n + 1 := by rw [List.length_take]; omega
      constructor
      · simp only [spec_l03Trim.l0]
        rw [if_pos (by omega), w64 (by omega) (by omega), show ((n + 1 : Nat) : Int) - 1 = (n : Int) by omega, if_pos (by omega), if_pos (by omega), if_neg e, if_pos (by omega), if_pos (by omega),
          show ((n + 1 : Nat) : Int).toNat = n + 1 by omega]
        unfold spec_l00Own.f
        simp only [Option.bind_some, List.length_nil]
        rw [if_pos (by omega)]; simp
      · simp only [impl_trim.l0]
        rw [hlen, if_pos (by omega), w64 (by omega) (by omega), show ((n + 1 : Nat) : Int) - 1 = (n : Int) by omega, if_pos (by omega), if_pos (by omega), rd_take l _ _ (by omega), if_neg e]
theorem trim_tells (l : List Int) (hl : l.length ≤ 1048576) : ∃ T : List Int, T.length ≤ l.length ∧ ∀ k, l.length < k → spec_l03Trim.f k l = some (T, l) ∧ impl_trim.f k l = some T := by
  obtain ⟨T, h1, h2⟩ := trim_l l hl l.length (Nat.le_refl _)
  refine ⟨T, h1, fun k hk => ?_⟩
  have := h2 k hk
  rw [List.take_length] at this
  exact this
theorem any_not (d : Int) (L : List (List Int)) : (L.any fun x => !okL d x) = !L.all (okL d) := by
  induction L with
  | nil => rfl
  | cons x l ih => simp only [List.any_cons, List.all_cons, ih]; cases okL d x <;> simp
theorem linearCode_tells (d q : Int) (L : List (List Int)) (k : Nat) (hk : 60 ≤ k) : impl_Field_linearCode.f k d q L = some (if okF d q = true then (if L.all (okL d) = true then 0 else 1) else 1) := by
  unfold impl_Field_linearCode.f
  rw [okF_impl d q k hk]
  simp only [Option.bind_some]
  by_cases h : okF d q = true
  · have e3 := anyO_some (fun x_ => impl_Field_linearCode_1.f x_ d q) (fun x => !okL d x) L (fun x _ => by unfold impl_Field_linearCode_1.f; rw [isLinear_tells h]; rfl)
    rw [if_pos h, if_pos h, e3, any_not]
    simp only [Option.bind_some]
    cases L.all (okL d) <;> simp
  · rw [if_neg h, if_neg h]
theorem pad (l2 : List Int) (h2 : l2.length ≤ 12) : ∀ (n : Nat) (y : List Int) (k : Nat), y.length ≤ 12 → y.length + n = max y.length l2.length → spec_l03Sum.l0 (k + n + 1) l2 y = spec_l03Sum.l1 k l2 (y ++ List.replicate n 0) 0 := by
  intro n
  induction n with
  | zero =>
    intro y k hy hn
    simp only [spec_l03Sum.l0]
    rw [if_neg (by omega)]; simp
  | succ n ih =>
    intro y k hy hn
    rw [show k + (n + 1) + 1 = k + n + 1 + 1 by omega]
    obtain ⟨K, hK⟩ : ∃ K, K = k + n + 1 := ⟨_, rfl⟩
    rw [← hK]
    simp only [spec_l03Sum.l0]
    rw [if_pos (by omega), if_pos (by omega), hK, ih (y ++ [0]) k (by simp; omega) (by simp; omega), List.append_assoc]
    rfl
theorem sum_l (l2 : List Int) (h2 : l2.length ≤ 12) : ∀ (n : Nat) (o : List Int) (i : Int), 0 ≤ i → i + n = (l2.length : Int) → l2.length ≤ o.length → o.length ≤ 12 →
    ∃ T : List Int, T.length ≤ 12 ∧ ∀ k, n + 20 < k → spec_l03Sum.l1 k l2 o i = some T ∧ impl_plus.l0 k o l2 (l2.length : Int) i = some T := by
  intro n
  induction n with
  | zero =>
    intro o i hi hd ho ho2
    obtain ⟨T, t1, t2⟩ := trim_tells o (by omega)
    refine ⟨T, by omega, fun k hk => ?_⟩
    obtain ⟨k, rfl⟩ : ∃ m, k = m + 1 := ⟨k - 1, by omega⟩
    obtain ⟨e1, e2⟩ := t2 k (by omega)
    simp only [spec_l03Sum.l1, impl_plus.l0]
    rw [if_neg (by omega), if_neg (by omega), e1, e2]
    exact ⟨rfl, rfl⟩
  | succ n ih =>
    intro o i hi hd ho ho2
    obtain ⟨T, t1, t2⟩ := ih (o.set i.toNat (Go.bits .xor .i64 (rd o i) (rd l2 i))) (i + 1) (by omega) (by omega) (by simpa using ho) (by simpa using ho2)
    refine ⟨T, t1, fun k hk => ?_⟩
    obtain ⟨k, rfl⟩ : ∃ m, k = m + 1 := ⟨k - 1, by omega⟩
    obtain ⟨e1, e2⟩ := t2 k (by omega)
    simp only [spec_l03Sum.l1, impl_plus.l0]
    constructor
    · rw [if_pos (by omega), if_pos hi, if_pos (by omega), w64 (x := i + 1) (by omega) (by omega)]
      exact e1
    · rw [if_pos (by omega), if_pos hi, if_pos (by omega), if_pos (by omega), w64 (x := i + 1) (by omega) (by omega)]
      exact e2
theorem plus_tells (l1 l2 : List Int) (h1 : l1.length ≤ 12) (h2 : l2.length ≤ 12) : ∃ T : List Int, T.length ≤ 12 ∧ ∀ k, 100 ≤ k → spec_l03Sum.f k l1 l2 = some T ∧ impl_plus.f k l1 l2 = some T := by
  obtain ⟨n, hn⟩ : ∃ n : Nat, n = max l1.length l2.length - l1.length := ⟨_, rfl⟩
  obtain ⟨T, t1, t2⟩ := sum_l l2 h2 l2.length (l1 ++ List.replicate n 0) 0 (by omega) (by omega) (by simp; omega) (by simp; omega)
  refine ⟨T, t1, fun k hk => ?_⟩
  constructor
  · unfold spec_l03Sum.f spec_l00Own.f
    simp only [Option.bind_some, List.length_nil, List.nil_append]
    rw [if_pos (by omega)]
    simp only [Option.bind_some]
    obtain ⟨K, hK⟩ : ∃ K, k = K + n + 1 := ⟨k - n - 1, by omega⟩
    rw [hK, pad l2 h2 n l1 K h1 (by omega)]
    exact (t2 K (by omega)).1
  · have hm : (mx (l1.length : Int) (l2.length : Int)) = ((max l1.length l2.length : Nat) : Int) := by unfold mx; split <;> omega
    unfold impl_plus.f
    rw [hm, if_pos (by omega), if_pos (by omega)]
    unfold copyO.f
    simp only [Option.bind_some, Int.toNat_natCast, List.length_replicate]
    rw [show min l1.length (max l1.length l2.length) = l1.length by omega, List.take_length, List.drop_replicate, ← hn]
    exact (t2 k (by omega)).2
theorem valid_tells (d q : Int) (l : List Int) (k : Nat) (hk : 60 ≤ k) : spec_ValidLinear.f k d q l = some (okF d q && okL d l) := by
  unfold spec_ValidLinear.f
  rw [okF_spec d q _ hk]
  simp only [Option.bind_some]
  by_cases h : okF d q = true
  · rw [if_pos h, l03Ok_tells h l _ (by omega), h]; simp
  · rw [if_neg h, Bool.eq_false_iff.2 h]; rfl
theorem both (d q : Int) (l1 l2 : List Int) : ∃ (R : List Int × Int), R.1.length ≤ 12 ∧ ∀ k, 100 ≤ k → spec_SumLinear.f k d q l1 l2 = some R ∧ impl_SumLinear.f k d q l1 l2 = some R := by
  by_cases h : (okF d q && okL d l1) = true
  · by_cases h' : (okF d q && okL d l2) = true
    · have hL1 := okL_range (Bool.and_eq_true _ _ ▸ h).2
      have hL2 := okL_range (Bool.and_eq_true _ _ ▸ h').2
      obtain ⟨T, t1, t2⟩ := plus_tells l1 l2 hL1.1 hL2.1
      refine ⟨(T, 0), t1, fun k hk => ?_⟩
      obtain ⟨e1, e2⟩ := t2 k hk
      constructor
      · unfold spec_SumLinear.f
        rw [valid_tells d q l1 k (by omega), valid_tells d q l2 k (by omega), h, h']
        simp only [Option.bind_some, if_true]
        rw [e1]; rfl
      · unfold impl_SumLinear.f
        rw [linearCode_tells d q _ k (by omega)]
        simp only [Bool.and_eq_true] at h h'
        simp only [List.all_cons, List.all_nil, h.1, h.2, h'.2, Bool.and_true, if_true, Option.bind_some]
        rw [e2]; rfl
    · refine ⟨([], 1), by simp, fun k hk => ?_⟩
      constructor
      · unfold spec_SumLinear.f
        rw [valid_tells d q l1 k (by omega), valid_tells d q l2 k (by omega), h, Bool.eq_false_iff.2 h']
        simp
      · unfold impl_SumLinear.f
        rw [linearCode_tells d q _ k (by omega)]
        simp only [Bool.and_eq_true, not_and] at h h'
        have := Bool.eq_false_iff.2 (h' h.1)
        simp [List.all_cons, h.1, h.2, this]
  · refine ⟨([], 1), by simp, fun k hk => ?_⟩
    constructor
    · unfold spec_SumLinear.f
      rw [valid_tells d q l1 k (by omega), Bool.eq_false_iff.2 h]
      simp
    · unfold impl_SumLinear.f
      rw [linearCode_tells d q _ k (by omega)]
      simp only [Bool.and_eq_true, not_and] at h
      by_cases hf : okF d q = true
      · have := Bool.eq_false_iff.2 (h hf)
        simp [List.all_cons, this]
      · simp [hf]
theorem mark_from (l : List Int) (x : Int) (hx : 0 ≤ x) (hx2 : x ≤ 2097152) (hl : l.length ≤ 2097152) (k : Nat) (hk : l.length < k) : ∃ l', laws_markInt64S.f k l x = some (x + (l.length : Int), l') := by
  unfold laws_markInt64S.f
  obtain ⟨l', e, _⟩ := mark_l l.length l 0 x k (by omega) (by omega) (by omega) (by omega) (by omega) hk
  exact ⟨l', e⟩
theorem j2_tells (l' : List Int) (t c : Int) (k : Nat) (h : ∀ k', k ≤ k' + 1 → laws_heldInt64S.f k' l' 1 = some t) (ht : 0 ≤ t) (hk : 1 ≤ k) : laws_FnExactSumLinear.j2 k l' t (c != c) = some true := by
  obtain ⟨k, rfl⟩ : ∃ m, k = m + 1 := ⟨k - 1, by omega⟩
  simp only [laws_FnExactSumLinear.j2]
  rw [bne_self_eq_false, if_neg (by decide), h k (by omega)]
  simp only [Option.bind_some]
  rw [if_neg (by omega)]; simp
theorem main : laws_FnExactSumLinear.Pure := by
  intro d q l m _ _ hl _ hm _
  by_cases h1 : (l.length : Int) > 1048576
  · exact ⟨0, by unfold laws_FnExactSumLinear.f; rw [if_pos h1]⟩
  · by_cases h2 : (m.length : Int) > 1048576
    · exact ⟨0, by unfold laws_FnExactSumLinear.f; rw [if_neg h1, if_pos h2]⟩
    · obtain ⟨R, hR, hb⟩ := both d q l m
      obtain ⟨L, c⟩ := R
      simp only at hR
      refine ⟨l.length + m.length + 4000, ?_⟩
      generalize hK : l.length + m.length + 4000 = K
      unfold laws_FnExactSumLinear.f
      rw [if_neg h1, if_neg h2, laws_toInt64S.tells l (by omega) _ (by omega), laws_toInt64S.tells m (by omega) _ (by omega)]
      simp only [Option.bind_some, laws_toField.f]
      rw [(hb K (by omega)).1]
      simp only [Option.bind_some]
      rw [(hb K (by omega)).2]
      simp only [Option.bind_some]
      rw [laws_eqInt64S.tells L L (by omega) _ (by omega)]
      simp only [Option.bind_some]
      rw [if_pos (by simp), bne_self_eq_false]
      obtain ⟨K, rfl⟩ : ∃ m, K = m + 1 := ⟨K - 1, by omega⟩
      simp only [laws_FnExactSumLinear.j0]
      obtain ⟨l', m1⟩ := mark_from l 1 (by omega) (by omega) (by omega) K (by omega)
      obtain ⟨l'', m1'⟩ := mark_from m (1 + (l.length : Int)) (by omega) (by omega) (by omega) K (by omega)
      rw [if_neg (by decide), laws_toInt64S.tells l (by omega) _ (by omega), laws_toInt64S.tells m (by omega) _ (by omega)]
      simp only [Option.bind_some]
      rw [laws_eqInt64S.tells l l (by omega) _ (by omega), laws_eqInt64S.tells m m (by omega) _ (by omega)]
      simp only [Option.bind_some]
      rw [if_pos (by simp), if_pos (by simp), m1]
      simp only [Option.bind_some]
      rw [m1']
      simp only [Option.bind_some]
      rw [if_neg (by omega), laws_eqInt64S.tells L L (by omega) _ (by omega)]
      simp only [Option.bind_some]
      rw [if_pos (by simp), bne_self_eq_false]
      obtain ⟨K, rfl⟩ : ∃ m, K = m + 1 := ⟨K - 1, by omega⟩
      simp only [laws_FnExactSumLinear.j1]
      obtain ⟨L', m2, m3⟩ := mark_tells L (by omega) K (by omega)
      rw [if_neg (by decide), m2]
      simp only [Option.bind_some]
      rw [m3 K (by omega)]
      simp only [Option.bind_some]
      rw [if_neg (by omega), if_true, laws_toInt64S.tells l (by omega) _ (by omega), laws_toInt64S.tells m (by omega) _ (by omega)]
      simp only [Option.bind_some, laws_toField.f]
      rw [(hb K (by omega)).2]
      simp only [Option.bind_some]
      rw [laws_eqInt64S.tells L L (by omega) _ (by omega)]
      simp only [Option.bind_some]
      rw [if_pos (by simp)]
      exact j2_tells L' _ c K (fun k' hk' => m3 k' (by omega)) (by omega) (by omega)
end Go.Proofs.Ytaopplbahakpgaa.PureFnExactSumLinear
namespace Go.Proofs.Ytaopplbahakpgaa.Pure
open Go.Proofs.Ytaopplbahakpgaa.PFnExactSumLinear
theorem FnExactSumLinear : laws_FnExactSumLinear.Pure := PureFnExactSumLinear.main
end Go.Proofs.Ytaopplbahakpgaa.Pure
