/- FirstGabidulin of the program and of the reference agree for every field, length and dimension, valid or not; what is handed back is the program's own. -/
import Derived.Test.YtaopplbahakpgaaPFnExactFirstGabidulinx5
namespace Go.Proofs.Ytaopplbahakpgaa.PureFnExactFirstGabidulin
open Go.RowKit Go.Proofs.Ytaopplbahakpgaa.PFnExactFirstGabidulin Go.Proofs.YtaopplbahakpgaaW.PrintWords Go.Proofs.YtaopplbahakpgaaW.PrintLast Go.Proofs.YtaopplbahakpgaaW.PrintMore
set_option linter.unusedVariables false
set_option linter.unusedSimpArgs false
theorem w64 {x : Int} (h0 : -9223372036854775808 ≤ x) (h1 : x ≤ 9223372036854775807) : wrap64 x = x := by unfold wrap64; omega
theorem rd_drop (l : List Int) (i : Int) (h0 : 0 ≤ i) (h1 : i < (l.length : Int)) : l.drop i.toNat = rd l i :: l.drop (i + 1).toNat := by
  have hl : i.toNat < l.length := by omega
  rw [List.drop_eq_getElem_cons hl]
  have e : (i + 1).toNat = i.toNat + 1 := by omega
  rw [e]
  congr 1
  unfold rd
  rw [List.getD_eq_getElem?_getD, List.getElem?_eq_getElem hl]; rfl
theorem wf64 {x : Int} (h : (Lit.int .i64 x).wf = true) : -9223372036854775808 ≤ x ∧ x ≤ 9223372036854775807 := by
  simp [Lit.wf, IntKind.min, IntKind.max, IntKind.signed, IntKind.bits] at h; omega
theorem maxLen_eq : maxLen = 9223372036854775807 := by unfold maxLen; rfl
def flds : List (Nat × Nat) := [(1, 2), (1, 3), (2, 7), (3, 11), (3, 13), (4, 19), (4, 25), (4, 31), (5, 37), (5, 41), (5, 47), (5, 55), (5, 59), (5, 61)]
def okF (d q : Int) : Bool := decide (1 ≤ d) && decide (d ≤ 5) && decide (0 ≤ q) && decide (q < 64) && flds.contains (d.toNat, q.toNat)
theorem okF_small : ∀ d : Fin 6, ∀ q : Fin 64, impl_ValidField.f 60 (d.val : Int) (q.val : Int) = some (okF (d.val : Int) (q.val : Int)) ∧ spec_l01Ok.f 60 (d.val : Int) (q.val : Int) = some (okF (d.val : Int) (q.val : Int)) := by decide +kernel
theorem okF_off (d q : Int) (h : ¬ ((0 ≤ d ∧ d < 6) ∧ (0 ≤ q ∧ q < 64))) : okF d q = false := by
  unfold okF
  by_cases h0 : 1 ≤ d <;> by_cases h1 : d ≤ 5 <;> by_cases h2 : 0 ≤ q <;> by_cases h3 : q < 64 <;> first | omega | simp [h0, h1, h2, h3]
theorem okF_impl (d q : Int) (k : Nat) (hk : 60 ≤ k) : impl_ValidField.f k d q = some (okF d q) := by
  refine at_rounds (fun k => impl_ValidField.mono d q k) hk ?_
  by_cases h : (0 ≤ d ∧ d < 6) ∧ (0 ≤ q ∧ q < 64)
  · have := (okF_small ⟨d.toNat, by omega⟩ ⟨q.toNat, by omega⟩).1
    have e : ((d.toNat : Nat) : Int) = d := by omega
    have e1 : ((q.toNat : Nat) : Int) = q := by omega
    simp only [e, e1] at this
    exact this
  · rw [okF_off d q h]
    unfold impl_ValidField.f impl_within.f impl_IsIrreducible.f
    by_cases h0 : d ≥ 1
    · by_cases h1 : d ≤ 5
      · by_cases h2 : q < 2
        · simp [h0, h1, h2, impl_IsIrreducible.j0]
        · have h3 : q ≥ 64 := by omega
          simp [h0, h1, h2, h3, impl_IsIrreducible.j0]
      · simp [h0, h1]
    · simp [h0]
theorem okF_spec (d q : Int) (k : Nat) (hk : 60 ≤ k) : spec_l01Ok.f k d q = some (okF d q) := by
  refine at_rounds (fun k => spec_l01Ok.mono d q k) hk ?_
  by_cases h : (0 ≤ d ∧ d < 6) ∧ (0 ≤ q ∧ q < 64)
  · have := (okF_small ⟨d.toNat, by omega⟩ ⟨q.toNat, by omega⟩).2
    have e : ((d.toNat : Nat) : Int) = d := by omega
    have e1 : ((q.toNat : Nat) : Int) = q := by omega
    simp only [e, e1] at this
    exact this
  · rw [okF_off d q h]
    unfold spec_l01Ok.f spec_l00In.f spec_IsIrreducible.f
    by_cases h0 : d ≥ 1
    · by_cases h1 : d ≤ 5
      · by_cases h2 : q > 0
        · have h3 : ¬ q < 64 := by omega
          simp [h0, h1, h2, h3]
        · simp [h0, h1, h2]
      · simp [h0, h1]
    · simp [h0]
def S (d : Int) : Int := 2 ^ d.toNat
theorem okF_range {d q : Int} (h : okF d q = true) : 1 ≤ d ∧ d ≤ 5 ∧ 0 ≤ q ∧ q < 64 ∧ (d.toNat, q.toNat) ∈ flds := by
  simp only [okF, Bool.and_eq_true, decide_eq_true_eq, List.contains_iff_mem] at h
  exact ⟨h.1.1.1.1, h.1.1.1.2, h.1.1.2, h.1.2, h.2⟩
theorem sizes {d : Int} (h1 : 1 ≤ d) (h5 : d ≤ 5) : 0 ≤ IntKind.u64.wrap d ∧ IntKind.u64.wrap d = d ∧ shl .i64 1 d = S d ∧ wrap64 (S d - 1) = S d - 1 ∧ 2 ≤ S d ∧ S d ≤ 32 ∧ wrap64 (S d) = S d := by
  have : d = 1 ∨ d = 2 ∨ d = 3 ∨ d = 4 ∨ d = 5 := by omega
  rcases this with rfl | rfl | rfl | rfl | rfl <;> decide +kernel
def inF (d x : Int) : Bool := decide (0 ≤ x) && decide (x < S d)
theorem inF_iff {d x : Int} : inF d x = true ↔ 0 ≤ x ∧ x < S d := by unfold inF; simp
theorem S_nat (d : Int) : ((2 ^ d.toNat : Nat) : Int) = S d := by unfold S; simp
theorem any_not_inF (d : Int) (l : List Int) : (!l.any fun x => !inF d x) = l.all (inF d) := by
  induction l with
  | nil => rfl
  | cons x l ih => simp only [List.any_cons, List.all_cons, ← ih]; cases inF d x <;> simp
theorem within_inF {d : Int} (h1 : 1 ≤ d) (h5 : d ≤ 5) (x : Int) : impl_within.f x 0 (S d - 1) = some (inF d x) := by
  unfold impl_within.f inF
  by_cases h : x ≥ 0
  · have h0 : 0 ≤ x := h
    rw [if_pos h]
    by_cases h2 : x < S d
    · simp [h0, h2, show x ≤ S d - 1 by omega]
    · simp [h2, show ¬ x ≤ S d - 1 by omega]
  · have h0 : ¬ 0 ≤ x := h
    rw [if_neg h]; simp [h0]
theorem has_tells {d q : Int} (h : okF d q = true) (l : List Int) : impl_Field_has.f d q l = some (l.all (inF d)) := by
  obtain ⟨h1, h5, _⟩ := okF_range h
  obtain ⟨_, _, e, e2, _⟩ := sizes h1 h5
  have e3 := anyO_some (fun x_ => impl_Field_has_1.f x_ d q) (fun x => !inF d x) l (fun x _ => by
    unfold impl_Field_has_1.f impl_Field_count.f
    rw [if_pos (by omega), e]
    simp only [Option.bind_some]
    rw [e2, within_inF h1 h5]; rfl)
  unfold impl_Field_has.f
  rw [e3, ← any_not_inF]; rfl
def codeF (d q : Int) (right : Bool) (l : List Int) : Int := if okF d q = true then (if l.all (inF d) = true then (if right = true then 0 else 2) else 2) else 1
theorem code_tells (d q : Int) (right : Bool) (l : List Int) (k : Nat) (hk : 60 ≤ k) : impl_Field_code.f k d q right l = some (codeF d q right l) := by
  unfold impl_Field_code.f codeF
  rw [okF_impl d q k hk]
  simp only [Option.bind_some]
  by_cases h : okF d q = true
  · rw [if_pos h, if_pos h, has_tells h]
    simp only [Option.bind_some]
    by_cases h2 : l.all (inF d) = true
    · rw [if_pos h2, if_pos h2]
      by_cases h3 : right = true
      · rw [if_pos h3, if_pos h3]
      · rw [if_neg h3, if_neg h3]
    · rw [if_neg h2, if_neg h2]
  · rw [if_neg h, if_neg h]
def firstOK (d q : Nat) : Bool := (List.range 5).all fun a => (List.range 5).all fun b => laws_FnExactFirstGabidulin.f 300 (d : Int) (q : Int) ((a + 1 : Nat) : Int) ((b + 1 : Nat) : Int) == some true
theorem firstOK_1_2 : firstOK 1 2 = true := by decide +kernel
theorem firstOK_1_3 : firstOK 1 3 = true := by decide +kernel
theorem firstOK_2_7 : firstOK 2 7 = true := by decide +kernel
theorem firstOK_3_11 : firstOK 3 11 = true := by decide +kernel
theorem firstOK_3_13 : firstOK 3 13 = true := by decide +kernel
theorem firstOK_4_19 : firstOK 4 19 = true := by decide +kernel
theorem firstOK_4_25 : firstOK 4 25 = true := by decide +kernel
theorem firstOK_4_31 : firstOK 4 31 = true := by decide +kernel
theorem firstOK_5_37 : firstOK 5 37 = true := by decide +kernel
theorem firstOK_5_41 : firstOK 5 41 = true := by decide +kernel
theorem firstOK_5_47 : firstOK 5 47 = true := by decide +kernel
theorem firstOK_5_55 : firstOK 5 55 = true := by decide +kernel
theorem firstOK_5_59 : firstOK 5 59 = true := by decide +kernel
theorem firstOK_5_61 : firstOK 5 61 = true := by decide +kernel
theorem firstOK_all : flds.all (fun f => firstOK f.1 f.2) = true := by
  unfold flds
  simp only [List.all_cons, List.all_nil, firstOK_1_2, firstOK_1_3, firstOK_2_7, firstOK_3_11, firstOK_3_13, firstOK_4_19, firstOK_4_25, firstOK_4_31, firstOK_5_37, firstOK_5_41, firstOK_5_47, firstOK_5_55, firstOK_5_59, firstOK_5_61, Bool.and_self]
theorem good {d q a b : Int} (h : okF d q = true) (ha : 1 ≤ a) (ha2 : a ≤ 5) (hb : 1 ≤ b) (hb2 : b ≤ 5) : laws_FnExactFirstGabidulin.f 300 d q a b = some true := by
  obtain ⟨h1, h5, h0, _, hm⟩ := okF_range h
  have ed : ((d.toNat : Nat) : Int) = d := by omega
  have eq : ((q.toNat : Nat) : Int) = q := by omega
  have ea : ((((a - 1).toNat + 1 : Nat)) : Int) = a := by omega
  have eb : ((((b - 1).toNat + 1 : Nat)) : Int) = b := by omega
  have h1 := List.all_eq_true.1 firstOK_all _ hm
  unfold firstOK at h1
  have h2 := List.all_eq_true.1 (List.all_eq_true.1 h1 (a - 1).toNat (List.mem_range.2 (by omega))) (b - 1).toNat (List.mem_range.2 (by omega))
  simp only [ea, eb, ed, eq, beq_iff_eq] at h2
  exact h2
theorem bad {d q a b c : Int} (hs : ∀ k, 60 ≤ k → spec_FirstGabidulin.f k d q a b = some (0, 0, ([] : List Int), 0, c)) (hi : ∀ k, 60 ≤ k → impl_FirstGabidulin.f k d q a b = some (0, 0, ([] : List Int), 0, c)) : laws_FnExactFirstGabidulin.f 300 d q a b = some true := by
  have e1 : laws_eqGabidulin.f 300 0 0 ([] : List Int) 0 0 0 ([] : List Int) 0 = some true := by decide +kernel
  have e2 : laws_eqGabidulin.f 299 0 0 ([] : List Int) 0 0 0 ([] : List Int) 0 = some true := by decide +kernel
  have e3 : laws_markGabidulin.f 299 0 0 ([] : List Int) 0 1 = some (1, []) := by decide +kernel
  have e4 : laws_heldGabidulin.f 299 0 0 ([] : List Int) 0 1 = some 1 := by decide +kernel
  have e5 : laws_heldGabidulin.f 298 0 0 ([] : List Int) 0 1 = some 1 := by decide +kernel
  unfold laws_FnExactFirstGabidulin.f laws_toField.f
  simp only [Option.bind_some, hs 300 (by omega), hi 300 (by omega), e1, if_true, laws_FnExactFirstGabidulin.j0, bne_self_eq_false, e3, e4, laws_toField.f, hi 299 (by omega), e2, laws_FnExactFirstGabidulin.j1, e5]
  simp
theorem spec_in (x a b : Int) : spec_l00In.f x a b = some (decide (a ≤ x) && decide (x ≤ b)) := by
  unfold spec_l00In.f
  by_cases h : x ≥ a
  · have h' : a ≤ x := h
    rw [if_pos h]; simp [h']
  · have h' : ¬ a ≤ x := h
    rw [if_neg h]; simp [h']
theorem impl_in (x a b : Int) : impl_within.f x a b = some (decide (a ≤ x) && decide (x ≤ b)) := by
  unfold impl_within.f
  by_cases h : x ≥ a
  · have h' : a ≤ x := h
    rw [if_pos h]; simp [h']
  · have h' : ¬ a ≤ x := h
    rw [if_neg h]; simp [h']
theorem main : laws_FnExactFirstGabidulin.Pure := by
  intro d q a b _ _ _ _
  refine ⟨300, ?_⟩
  by_cases h : okF d q = true
  · obtain ⟨h1, h5, _⟩ := okF_range h
    cases ha : decide (1 ≤ a) && decide (a ≤ d) with
    | true =>
      cases hb : decide (1 ≤ b) && decide (b ≤ a) with
      | true =>
        simp only [Bool.and_eq_true, decide_eq_true_eq] at ha hb
        exact good h ha.1 (by omega) hb.1 (by omega)
      | false =>
        refine bad (c := 2) (fun k hk => ?_) (fun k hk => ?_)
        · unfold spec_FirstGabidulin.f
          rw [okF_spec d q k hk, spec_in, spec_in, ha, hb, h]; simp
        · unfold impl_FirstGabidulin.f
          rw [impl_in, impl_in, ha, hb]
          simp only [Option.bind_some, if_true]
          rw [code_tells d q _ _ k hk]
          simp [codeF, h]
    | false =>
      refine bad (c := 2) (fun k hk => ?_) (fun k hk => ?_)
      · unfold spec_FirstGabidulin.f
        rw [okF_spec d q k hk, spec_in, ha, h]; simp
      · unfold impl_FirstGabidulin.f
        rw [impl_in, ha]
        simp only [Option.bind_some]
        rw [if_neg (by decide), code_tells d q _ _ k hk]
        simp [codeF, h]
  · refine bad (c := 1) (fun k hk => ?_) (fun k hk => ?_)
    · unfold spec_FirstGabidulin.f
      rw [okF_spec d q k hk, Bool.eq_false_iff.2 h]; simp
    · unfold impl_FirstGabidulin.f
      rw [impl_in]
      simp only [Option.bind_some]
      cases decide (1 ≤ a) && decide (a ≤ d)
      · rw [if_neg (by decide), code_tells d q _ _ k hk]
        simp [codeF, h]
      · rw [if_pos rfl, impl_in]
        simp only [Option.bind_some]
        rw [code_tells d q _ _ k hk]
        simp [codeF, h]
end Go.Proofs.Ytaopplbahakpgaa.PureFnExactFirstGabidulin
namespace Go.Proofs.Ytaopplbahakpgaa.Pure
open Go.Proofs.Ytaopplbahakpgaa.PFnExactFirstGabidulin
theorem FnExactFirstGabidulin : laws_FnExactFirstGabidulin.Pure := PureFnExactFirstGabidulin.main
end Go.Proofs.Ytaopplbahakpgaa.Pure
