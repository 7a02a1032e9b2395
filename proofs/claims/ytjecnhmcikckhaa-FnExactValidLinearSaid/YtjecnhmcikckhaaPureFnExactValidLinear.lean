/- ValidLinear of the program and of the reference agree for every field and every list, and leave the list alone (beyond 2^20 elements the law itself asks nothing). -/
import Derived.Test.YtjecnhmcikckhaaPFnExactValidLinearx4
namespace Go.Proofs.Ytjecnhmcikckhaa.PureFnExactValidLinear
open Go.RowKit Go.Proofs.Ytjecnhmcikckhaa.PFnExactValidLinear Go.Proofs.YtjecnhmcikckhaaW.PrintWords Go.Proofs.YtjecnhmcikckhaaW.PrintLast Go.Proofs.YtjecnhmcikckhaaW.PrintMore
theorem w64 {x : Int} (h0 : -9223372036854775808 ≤ x) (h1 : x ≤ 9223372036854775807) : wrap64 x = x := by unfold wrap64; omega
theorem rd_drop (l : List Int) (i : Int) (h0 : 0 ≤ i) (h1 : i < (l.length : Int)) : l.drop i.toNat = rd l i :: l.drop (i + 1).toNat := by
  have hl : i.toNat < l.length := by omega
  rw [List.drop_eq_getElem_cons hl]
  have e : (i + 1).toNat = i.toNat + 1 := by omega
  rw [e]
  congr 1
  unfold rd
  rw [List.getD_eq_getElem?_getD, List.getElem?_eq_getElem hl]; rfl
theorem wf64 {x : Int} (h : (Lit.int .i64 x).wf = true) : -9223372036854775808 ≤ x ∧ x ≤ 9223372036854775807 := by
  simp [Lit.wf, IntKind.min, IntKind.max, IntKind.signed, IntKind.bits] at h; omega
theorem maxLen_eq : maxLen = 9223372036854775807 := by unfold maxLen; rfl
def flds : List (Nat × Nat) := [(1, 2), (1, 3), (2, 7), (3, 11), (3, 13), (4, 19), (4, 25), (4, 31), (5, 37), (5, 41), (5, 47), (5, 55), (5, 59), (5, 61)]
def okF (d q : Int) : Bool := decide (1 ≤ d) && decide (d ≤ 5) && decide (0 ≤ q) && decide (q < 64) && flds.contains (d.toNat, q.toNat)
theorem okF_small : ∀ d : Fin 6, ∀ q : Fin 64, impl_ValidField.f 60 (d.val : Int) (q.val : Int) = some (okF (d.val : Int) (q.val : Int)) ∧ spec_l01Ok.f 60 (d.val : Int) (q.val : Int) = some (okF (d.val : Int) (q.val : Int)) := by decide +kernel
theorem okF_off (d q : Int) (h : ¬ ((0 ≤ d ∧ d < 6) ∧ (0 ≤ q ∧ q < 64))) : okF d q = false := by
  unfold okF
  by_cases h0 : 1 ≤ d <;> by_cases h1 : d ≤ 5 <;> by_cases h2 : 0 ≤ q <;> by_cases h3 : q < 64 <;> first | omega | simp [h0, h1, h2, h3]
theorem okF_impl (d q : Int) (k : Nat) (hk : 60 ≤ k) : impl_ValidField.f k d q = some (okF d q) := by
  refine at_rounds (fun k => impl_ValidField.mono d q k) hk ?_
  by_cases h : (0 ≤ d ∧ d < 6) ∧ (0 ≤ q ∧ q < 64)
  · have := (okF_small ⟨d.toNat, by omega⟩ ⟨q.toNat, by omega⟩).1
    have e : ((d.toNat : Nat) : Int) = d := by omega
    have e1 : ((q.toNat : Nat) : Int) = q := by omega
    simp only [e, e1] at this
    exact this
  · rw [okF_off d q h]
    unfold impl_ValidField.f impl_within.f impl_IsIrreducible.f
    by_cases h0 : d ≥ 1
    · by_cases h1 : d ≤ 5
      · by_cases h2 : q < 2
        · simp [h0, h1, h2, impl_IsIrreducible.j0]
        · have h3 : q ≥ 64 := by omega
          simp [h0, h1, h2, h3, impl_IsIrreducible.j0]
      · simp [h0, h1]
    · simp [h0]
theorem okF_spec (d q : Int) (k : Nat) (hk : 60 ≤ k) : spec_l01Ok.f k d q = some (okF d q) := by
  refine at_rounds (fun k => spec_l01Ok.mono d q k) hk ?_
  by_cases h : (0 ≤ d ∧ d < 6) ∧ (0 ≤ q ∧ q < 64)
  · have := (okF_small ⟨d.toNat, by omega⟩ ⟨q.toNat, by omega⟩).2
    have e : ((d.toNat : Nat) : Int) = d := by omega
    have e1 : ((q.toNat : Nat) : Int) = q := by omega
    simp only [e, e1] at this
    exact this
  · rw [okF_off d q h]
    unfold spec_l01Ok.f spec_l00In.f spec_IsIrreducible.f
    by_cases h0 : d ≥ 1
    · by_cases h1 : d ≤ 5
      · by_cases h2 : q > 0
        · have h3 : ¬ q < 64 := by omega
          simp [h0, h1, h2, h3]
        · simp [h0, h1, h2]
      · simp [h0, h1]
    · simp [h0]
def S (d : Int) : Int := 2 ^ d.toNat
theorem okF_range {d q : Int} (h : okF d q = true) : 1 ≤ d ∧ d ≤ 5 ∧ 0 ≤ q ∧ q < 64 ∧ (d.toNat, q.toNat) ∈ flds := by
  simp only [okF, Bool.and_eq_true, decide_eq_true_eq, List.contains_iff_mem] at h
  exact ⟨h.1.1.1.1, h.1.1.1.2, h.1.1.2, h.1.2, h.2⟩
theorem sizes {d : Int} (h1 : 1 ≤ d) (h5 : d ≤ 5) : 0 ≤ IntKind.u64.wrap d ∧ IntKind.u64.wrap d = d ∧ shl .i64 1 d = S d ∧ wrap64 (S d - 1) = S d - 1 ∧ 2 ≤ S d ∧ S d ≤ 32 ∧ wrap64 (S d) = S d := by
  have : d = 1 ∨ d = 2 ∨ d = 3 ∨ d = 4 ∨ d = 5 := by omega
  rcases this with rfl | rfl | rfl | rfl | rfl <;> decide +kernel
def inF (d x : Int) : Bool := decide (0 ≤ x) && decide (x < S d)
theorem inF_iff {d x : Int} : inF d x = true ↔ 0 ≤ x ∧ x < S d := by unfold inF; simp
theorem S_nat (d : Int) : ((2 ^ d.toNat : Nat) : Int) = S d := by unfold S; simp
theorem hasP_inF {d : Int} (h1 : 1 ≤ d) (h5 : d ≤ 5) (x : Int) : hasP d x = inF d x := by
  obtain ⟨_, _, e, e2, e3, _⟩ := sizes h1 h5
  unfold hasP inF
  rw [e, e2]
  congr 1
  by_cases h : x < S d
  · simp [h, show x ≤ S d - 1 by omega]
  · simp [h, show ¬ x ≤ S d - 1 by omega]
theorem has_tells {d q : Int} (h : okF d q = true) (l : List Int) : impl_Field_has.f d q l = some (l.all (inF d)) := by
  obtain ⟨h1, h5, _⟩ := okF_range h
  unfold impl_Field_has.f
  rw [if_pos (by omega)]
  congr 2
  funext x
  exact hasP_inF h1 h5 x
theorem in_tells {d : Int} (h1 : 1 ≤ d) (h5 : d ≤ 5) (x : Int) : spec_l00In.f x 0 (wrap64 (S d - 1)) = some (inF d x) := by
  obtain ⟨_, _, _, e2, _⟩ := sizes h1 h5
  unfold spec_l00In.f inF
  rw [e2]
  by_cases h : x ≥ 0
  · have h0 : 0 ≤ x := h
    rw [if_pos h]
    by_cases h2 : x < S d
    · simp [h0, h2, show x ≤ S d - 1 by omega]
    · simp [h2, show ¬ x ≤ S d - 1 by omega]
  · have h0 : ¬ 0 ≤ x := h
    rw [if_neg h]; simp [h0]
theorem size_tells {d : Int} (h1 : 1 ≤ d) (h5 : d ≤ 5) (q : Int) : spec_l01Size.f d q = some (S d) := by
  obtain ⟨e0, e1, e, _⟩ := sizes h1 h5
  unfold spec_l01Size.f
  rw [if_pos e0, e1, e]
theorem elements_tells_l {d q : Int} (h : okF d q = true) (l : List Int) (hl : l.length ≤ 1048576) : ∀ (n : Nat) (i : Int) (k : Nat), 0 ≤ i → i ≤ (l.length : Int) → (l.length : Int) - i = n → n < k → spec_l03Elements.l0 k l i d q = some ((l.drop i.toNat).all (inF d)) := by
  obtain ⟨h1, h5, _⟩ := okF_range h
  intro n
  induction n with
  | zero =>
    intro i k h0 h2 hd hk
    obtain ⟨k, rfl⟩ : ∃ m, k = m + 1 := ⟨k - 1, by omega⟩
    simp only [spec_l03Elements.l0]
    rw [if_neg (by omega), List.drop_eq_nil_of_le (by omega)]; rfl
  | succ n ih =>
    intro i k h0 h2 hd hk
    obtain ⟨k, rfl⟩ : ∃ m, k = m + 1 := ⟨k - 1, by omega⟩
    simp only [spec_l03Elements.l0]
    rw [if_pos (by omega), if_pos h0, size_tells h1 h5 q]
    simp only [Option.bind_some]
    rw [in_tells h1 h5, w64 (x := i + 1) (by omega) (by omega), rd_drop l i h0 (by omega)]
    simp only [Option.bind_some, List.all_cons]
    by_cases e : inF d (rd l i) = true
    · rw [if_pos e, ih (i + 1) k (by omega) (by omega) (by omega) (by omega)]; simp [e]
    · rw [if_neg e]; simp [e]
theorem elements_tells {d q : Int} (h : okF d q = true) (l : List Int) (hl : l.length ≤ 1048576) (k : Nat) (hk : l.length < k) : spec_l03Elements.f k d q l = some (l.all (inF d)) := by
  unfold spec_l03Elements.f
  rw [elements_tells_l h l hl l.length 0 k (by omega) (by omega) (by omega) hk]; simp
theorem laws_eqInt64S.tells_l (a b : List Int) (hl : a.length = b.length) (hb : (a.length : Int) ≤ 9223372036854775807) : ∀ (d : Nat) (i : Int) (k : Nat), 0 ≤ i → i ≤ (a.length : Int) → (a.length : Int) - i = d → d < k →
    laws_eqInt64S.l0 k a b i = some (decide (a.drop i.toNat = b.drop i.toNat)) := by
  intro d
  induction d with
  | zero =>
    intro k' k h0 h1 hd hk
    obtain ⟨k, rfl⟩ : ∃ m, k = m + 1 := ⟨k - 1, by omega⟩
    simp only [laws_eqInt64S.l0]
    rw [if_neg (by omega), List.drop_eq_nil_of_le (by omega), List.drop_eq_nil_of_le (by omega)]; simp
  | succ d ih =>
    intro i k h0 h1 hd hk
    obtain ⟨k, rfl⟩ : ∃ m, k = m + 1 := ⟨k - 1, by omega⟩
    simp only [laws_eqInt64S.l0]
    rw [if_pos (by omega), if_pos h0, if_pos (by omega), w64 (by omega) (by omega), rd_drop a i h0 (by omega), rd_drop b i h0 (by omega)]
    by_cases e : rd a i = rd b i
    · rw [if_pos e, ih (i + 1) k (by omega) (by omega) (by omega) (by omega)]
      simp [e]
    · rw [if_neg e]; simp [e]
theorem laws_eqInt64S.tells (a b : List Int) (hb : a.length ≤ 9223372036854775807) (k : Nat) (hk : a.length < k) : laws_eqInt64S.f k a b = some (decide (a = b)) := by
  unfold laws_eqInt64S.f
  by_cases h : (a.length : Int) = (b.length : Int)
  · rw [if_pos h, laws_eqInt64S.tells_l a b (by omega) (by omega) a.length 0 k (by omega) (by omega) (by omega) hk]
    simp
  · rw [if_neg h]
    have : a ≠ b := fun e => h (by rw [e])
    simp [this]
theorem set_rd (l o : List Int) (i : Int) (h0 : 0 ≤ i) (h1 : i < (l.length : Int)) (ho : o.length = l.length) (he : o.take i.toNat = l.take i.toNat) : (o.set i.toNat (rd l i)).take (i + 1).toNat = l.take (i + 1).toNat := by
  have e : (i + 1).toNat = i.toNat + 1 := by omega
  have hl : i.toNat < l.length := by omega
  have ho' : i.toNat < o.length := by omega
  rw [e, List.take_succ_eq_append_getElem (by simpa using ho'), List.take_succ_eq_append_getElem hl, List.take_set_of_le (Nat.le_refl _), he, List.getElem_set_self]
  congr 2
  unfold rd
  rw [List.getD_eq_getElem?_getD, List.getElem?_eq_getElem hl]; rfl
theorem laws_toInt64S.tells_l (l : List Int) (hb : (l.length : Int) ≤ 9223372036854775807) : ∀ (d : Nat) (i : Int) (o : List Int) (k : Nat), 0 ≤ i → i ≤ (l.length : Int) → (l.length : Int) - i = d → d < k → o.length = l.length → o.take i.toNat = l.take i.toNat →
    laws_toInt64S.l0 k l o i = some l := by
  intro d
  induction d with
  | zero =>
    intro i o k h0 h1 hd hk ho he
    obtain ⟨k, rfl⟩ : ∃ m, k = m + 1 := ⟨k - 1, by omega⟩
    simp only [laws_toInt64S.l0]
    rw [if_neg (by omega)]
    have e : i.toNat = l.length := by omega
    rw [e, List.take_of_length_le (by omega), List.take_of_length_le (by omega)] at he
    rw [he]
  | succ d ih =>
    intro i o k h0 h1 hd hk ho he
    obtain ⟨k, rfl⟩ : ∃ m, k = m + 1 := ⟨k - 1, by omega⟩
    simp only [laws_toInt64S.l0]
    rw [if_pos (by omega), if_pos h0, if_pos (by omega), w64 (by omega) (by omega)]
    exact ih (i + 1) _ k (by omega) (by omega) (by omega) (by omega) (by simpa using ho) (set_rd l o i h0 (by omega) ho he)
theorem laws_toInt64S.tells (l : List Int) (hl : l.length ≤ 1048576) (k : Nat) (hk : l.length < k) : laws_toInt64S.f k l = some l := by
  unfold laws_toInt64S.f
  rw [if_pos (by omega), if_pos (by omega)]
  exact laws_toInt64S.tells_l l (by omega) l.length 0 _ k (by omega) (by omega) (by omega) hk (by simp) (by simp)
theorem main : laws_FnExactValidLinear.Pure := by
  intro d q l _ _ hl _
  refine ⟨l.length + 100, ?_⟩
  unfold laws_FnExactValidLinear.f
  by_cases h1 : (l.length : Int) > 1048576
  · rw [if_pos h1]
  · rw [if_neg h1]
    unfold laws_toField.f
    rw [laws_toInt64S.tells l (by omega) _ (by omega)]
    simp only [Option.bind_some]
    rw [laws_eqInt64S.tells l l (by omega) _ (by omega)]
    unfold spec_ValidLinear.f impl_ValidLinear.f
    rw [okF_spec d q _ (by omega), okF_impl d q _ (by omega)]
    simp only [Option.bind_some]
    by_cases h : okF d q = true
    · rw [if_pos h, if_pos h]
      have e : spec_l03Ok.f (l.length + 100) d q l = impl_Field_isLinear.f d q l := by
        unfold spec_l03Ok.f impl_Field_isLinear.f
        by_cases h12 : (l.length : Int) ≤ 12
        · rw [if_pos h12, if_pos h12, elements_tells h l (by omega) _ (by omega), has_tells h]
        · rw [if_neg h12, if_neg h12]
      have e2 : ∃ b, impl_Field_isLinear.f d q l = some b := by
        unfold impl_Field_isLinear.f
        by_cases h12 : (l.length : Int) ≤ 12
        · rw [if_pos h12, has_tells h]
          simp only [Option.bind_some]
          by_cases ha : l.all (inF d) = true
          · rw [if_pos ha]
            by_cases h0 : (l.length : Int) = 0
            · rw [if_pos h0]; exact ⟨_, rfl⟩
            · rw [if_neg h0, w64 (by omega) (by omega), if_pos (by omega), if_pos (by omega)]; exact ⟨_, rfl⟩
          · rw [if_neg ha]; exact ⟨_, rfl⟩
        · rw [if_neg h12]; exact ⟨_, rfl⟩
      obtain ⟨b, hb⟩ := e2
      rw [e, hb]; simp
    · rw [if_neg h, if_neg h]; simp
end Go.Proofs.Ytjecnhmcikckhaa.PureFnExactValidLinear
namespace Go.Proofs.Ytjecnhmcikckhaa.Pure
open Go.Proofs.Ytjecnhmcikckhaa.PFnExactValidLinear
theorem FnExactValidLinear : laws_FnExactValidLinear.Pure := PureFnExactValidLinear.main
end Go.Proofs.Ytjecnhmcikckhaa.Pure
