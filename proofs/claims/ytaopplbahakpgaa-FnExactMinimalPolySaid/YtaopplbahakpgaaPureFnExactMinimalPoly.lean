/- MinimalPoly of the program and of the reference agree for every field (valid or not) and every number (elements of fields by reckoning, all others by their codes). -/
import Derived.Test.YtaopplbahakpgaaPFnExactMinimalPolyx5
namespace Go.Proofs.Ytaopplbahakpgaa.PureFnExactMinimalPoly
open Go.RowKit Go.Proofs.Ytaopplbahakpgaa.PFnExactMinimalPoly Go.Proofs.YtaopplbahakpgaaW.PrintWords Go.Proofs.YtaopplbahakpgaaW.PrintLast Go.Proofs.YtaopplbahakpgaaW.PrintMore
theorem w64 {x : Int} (h0 : -9223372036854775808 ≤ x) (h1 : x ≤ 9223372036854775807) : wrap64 x = x := by unfold wrap64; omega
theorem rd_drop (l : List Int) (i : Int) (h0 : 0 ≤ i) (h1 : i < (l.length : Int)) : l.drop i.toNat = rd l i :: l.drop (i + 1).toNat := by
  have hl : i.toNat < l.length := by omega
  rw [List.drop_eq_getElem_cons hl]
  have e : (i + 1).toNat = i.toNat + 1 := by omega
  rw [e]
  congr 1
  unfold rd
  rw [List.getD_eq_getElem?_getD, List.getElem?_eq_getElem hl]; rfl
theorem wf64 {x : Int} (h : (Lit.int .i64 x).wf = true) : -9223372036854775808 ≤ x ∧ x ≤ 9223372036854775807 := by
  simp [Lit.wf, IntKind.min, IntKind.max, IntKind.signed, IntKind.bits] at h; omega
theorem maxLen_eq : maxLen = 9223372036854775807 := by unfold maxLen; rfl
def flds : List (Nat × Nat) := [(1, 2), (1, 3), (2, 7), (3, 11), (3, 13), (4, 19), (4, 25), (4, 31), (5, 37), (5, 41), (5, 47), (5, 55), (5, 59), (5, 61)]
def okF (d q : Int) : Bool := decide (1 ≤ d) && decide (d ≤ 5) && decide (0 ≤ q) && decide (q < 64) && flds.contains (d.toNat, q.toNat)
theorem okF_small : ∀ d : Fin 6, ∀ q : Fin 64, impl_ValidField.f 60 (d.val : Int) (q.val : Int) = some (okF (d.val : Int) (q.val : Int)) ∧ spec_l01Ok.f 60 (d.val : Int) (q.val : Int) = some (okF (d.val : Int) (q.val : Int)) := by decide +kernel
theorem okF_off (d q : Int) (h : ¬ ((0 ≤ d ∧ d < 6) ∧ (0 ≤ q ∧ q < 64))) : okF d q = false := by
  unfold okF
  by_cases h0 : 1 ≤ d <;> by_cases h1 : d ≤ 5 <;> by_cases h2 : 0 ≤ q <;> by_cases h3 : q < 64 <;> first | omega | simp [h0, h1, h2, h3]
theorem okF_impl (d q : Int) (k : Nat) (hk : 60 ≤ k) : impl_ValidField.f k d q = some (okF d q) := by
  refine at_rounds (fun k => impl_ValidField.mono d q k) hk ?_
  by_cases h : (0 ≤ d ∧ d < 6) ∧ (0 ≤ q ∧ q < 64)
  · have := (okF_small ⟨d.toNat, by omega⟩ ⟨q.toNat, by omega⟩).1
    have e : ((d.toNat : Nat) : Int) = d := by omega
    have e1 : ((q.toNat : Nat) : Int) = q := by omega
    simp only [e, e1] at this
    exact this
  · rw [okF_off d q h]
    unfold impl_ValidField.f impl_within.f impl_IsIrreducible.f
    by_cases h0 : d ≥ 1
    · by_cases h1 : d ≤ 5
      · by_cases h2 : q < 2
        · simp [h0, h1, h2, impl_IsIrreducible.j0]
        · have h3 : q ≥ 64 := by omega
          simp [h0, h1, h2, h3, impl_IsIrreducible.j0]
      · simp [h0, h1]
    · simp [h0]
theorem okF_spec (d q : Int) (k : Nat) (hk : 60 ≤ k) : spec_l01Ok.f k d q = some (okF d q) := by
  refine at_rounds (fun k => spec_l01Ok.mono d q k) hk ?_
  by_cases h : (0 ≤ d ∧ d < 6) ∧ (0 ≤ q ∧ q < 64)
  · have := (okF_small ⟨d.toNat, by omega⟩ ⟨q.toNat, by omega⟩).2
    have e : ((d.toNat : Nat) : Int) = d := by omega
    have e1 : ((q.toNat : Nat) : Int) = q := by omega
    simp only [e, e1] at this
    exact this
  · rw [okF_off d q h]
    unfold spec_l01Ok.f spec_l00In.f spec_IsIrreducible.f
    by_cases h0 : d ≥ 1
    · by_cases h1 : d ≤ 5
      · by_cases h2 : q > 0
        · have h3 : ¬ q < 64 := by omega
          simp [h0, h1, h2, h3]
        · simp [h0, h1, h2]
      · simp [h0, h1]
    · simp [h0]
def S (d : Int) : Int := 2 ^ d.toNat
theorem okF_range {d q : Int} (h : okF d q = true) : 1 ≤ d ∧ d ≤ 5 ∧ 0 ≤ q ∧ q < 64 ∧ (d.toNat, q.toNat) ∈ flds := by
  simp only [okF, Bool.and_eq_true, decide_eq_true_eq, List.contains_iff_mem] at h
  exact ⟨h.1.1.1.1, h.1.1.1.2, h.1.1.2, h.1.2, h.2⟩
theorem sizes {d : Int} (h1 : 1 ≤ d) (h5 : d ≤ 5) : 0 ≤ IntKind.u64.wrap d ∧ IntKind.u64.wrap d = d ∧ shl .i64 1 d = S d ∧ wrap64 (S d - 1) = S d - 1 ∧ 2 ≤ S d ∧ S d ≤ 32 ∧ wrap64 (S d) = S d := by
  have : d = 1 ∨ d = 2 ∨ d = 3 ∨ d = 4 ∨ d = 5 := by omega
  rcases this with rfl | rfl | rfl | rfl | rfl <;> decide +kernel
def inF (d x : Int) : Bool := decide (0 ≤ x) && decide (x < S d)
theorem inF_iff {d x : Int} : inF d x = true ↔ 0 ≤ x ∧ x < S d := by unfold inF; simp
theorem S_nat (d : Int) : ((2 ^ d.toNat : Nat) : Int) = S d := by unfold S; simp
theorem hasP_inF {d : Int} (h1 : 1 ≤ d) (h5 : d ≤ 5) (x : Int) : hasP d x = inF d x := by
  obtain ⟨_, _, e, e2, e3, _⟩ := sizes h1 h5
  unfold hasP inF
  rw [e, e2]
  congr 1
  by_cases h : x < S d
  · simp [h, show x ≤ S d - 1 by omega]
  · simp [h, show ¬ x ≤ S d - 1 by omega]
def codeF (d q : Int) (right : Bool) (l : List Int) : Int := if okF d q = true then (if l.all (inF d) = true then (if right = true then 0 else 2) else 2) else 1
theorem has_tells {d q : Int} (h : okF d q = true) (l : List Int) : impl_Field_has.f d q l = some (l.all (inF d)) := by
  obtain ⟨h1, h5, _⟩ := okF_range h
  unfold impl_Field_has.f
  rw [if_pos (by omega)]
  congr 2
  funext x
  exact hasP_inF h1 h5 x
theorem code_tells (d q : Int) (right : Bool) (l : List Int) (k : Nat) (hk : 60 ≤ k) : impl_Field_code.f k d q right l = some (codeF d q right l) := by
  unfold impl_Field_code.f codeF
  rw [okF_impl d q k hk]
  simp only [Option.bind_some]
  by_cases h : okF d q = true
  · rw [if_pos h, if_pos h, has_tells h]
    simp only [Option.bind_some]
    by_cases h2 : l.all (inF d) = true
    · rw [if_pos h2, if_pos h2]
      by_cases h3 : right = true
      · rw [if_pos h3, if_pos h3]
      · rw [if_neg h3, if_neg h3]
    · rw [if_neg h2, if_neg h2]
  · rw [if_neg h, if_neg h]
theorem in_tells {d : Int} (h1 : 1 ≤ d) (h5 : d ≤ 5) (x : Int) : spec_l00In.f x 0 (wrap64 (S d - 1)) = some (inF d x) := by
  obtain ⟨_, _, _, e2, _⟩ := sizes h1 h5
  unfold spec_l00In.f inF
  rw [e2]
  by_cases h : x ≥ 0
  · have h0 : 0 ≤ x := h
    rw [if_pos h]
    by_cases h2 : x < S d
    · simp [h0, h2, show x ≤ S d - 1 by omega]
    · simp [h2, show ¬ x ≤ S d - 1 by omega]
  · have h0 : ¬ 0 ≤ x := h
    rw [if_neg h]; simp [h0]
theorem size_tells {d : Int} (h1 : 1 ≤ d) (h5 : d ≤ 5) (q : Int) : spec_l01Size.f d q = some (S d) := by
  obtain ⟨e0, e1, e, _⟩ := sizes h1 h5
  unfold spec_l01Size.f
  rw [if_pos e0, e1, e]
theorem given_tells (d q a b : Int) (k : Nat) (hk : 60 ≤ k) : spec_l01Given.f k d q a b = some (codeF d q true [a, b]) := by
  unfold spec_l01Given.f codeF
  rw [okF_spec d q k hk]
  simp only [Option.bind_some]
  by_cases h : okF d q = true
  · obtain ⟨h1, h5, _⟩ := okF_range h
    rw [if_pos h, if_pos h, size_tells h1 h5 q]
    simp only [Option.bind_some]
    rw [in_tells h1 h5 a, in_tells h1 h5 b]
    cases ha : inF d a <;> cases hb : inF d b <;> simp [ha, hb]
  · rw [if_neg h, if_neg h]
def elemOK (d q : Nat) : Bool := (List.range (2 ^ d)).all fun a => laws_FnExactMinimalPoly.f 300 (d : Int) (q : Int) (a : Int) == some true
theorem elemOK_1_2 : elemOK 1 2 = true := by decide +kernel
theorem elemOK_1_3 : elemOK 1 3 = true := by decide +kernel
theorem elemOK_2_7 : elemOK 2 7 = true := by decide +kernel
theorem elemOK_3_11 : elemOK 3 11 = true := by decide +kernel
theorem elemOK_3_13 : elemOK 3 13 = true := by decide +kernel
theorem elemOK_4_19 : elemOK 4 19 = true := by decide +kernel
theorem elemOK_4_25 : elemOK 4 25 = true := by decide +kernel
theorem elemOK_4_31 : elemOK 4 31 = true := by decide +kernel
theorem elemOK_5_37 : elemOK 5 37 = true := by decide +kernel
theorem elemOK_5_41 : elemOK 5 41 = true := by decide +kernel
theorem elemOK_5_47 : elemOK 5 47 = true := by decide +kernel
theorem elemOK_5_55 : elemOK 5 55 = true := by decide +kernel
theorem elemOK_5_59 : elemOK 5 59 = true := by decide +kernel
theorem elemOK_5_61 : elemOK 5 61 = true := by decide +kernel
theorem elemOK_all : flds.all (fun f => elemOK f.1 f.2) = true := by
  unfold flds
  simp only [List.all_cons, List.all_nil, elemOK_1_2, elemOK_1_3, elemOK_2_7, elemOK_3_11, elemOK_3_13, elemOK_4_19, elemOK_4_25, elemOK_4_31, elemOK_5_37, elemOK_5_41, elemOK_5_47, elemOK_5_55, elemOK_5_59, elemOK_5_61, Bool.and_self]
theorem small {d q a : Int} (h : okF d q = true) (ha : inF d a = true) : laws_FnExactMinimalPoly.f 300 d q a = some true := by
  obtain ⟨h1, h5, h0, _, hm⟩ := okF_range h
  rw [inF_iff] at ha
  have ea : ((a.toNat : Nat) : Int) = a := by omega
  have ed : ((d.toNat : Nat) : Int) = d := by omega
  have eq : ((q.toNat : Nat) : Int) = q := by omega
  have la : a.toNat < 2 ^ d.toNat := Int.ofNat_lt.1 (by rw [ea, S_nat]; exact ha.2)
  have h1 := List.all_eq_true.1 elemOK_all _ hm
  unfold elemOK at h1
  have h2 := List.all_eq_true.1 h1 a.toNat (List.mem_range.2 la)
  simpa [ea, ed, eq] using h2
theorem zero_in {d : Int} : inF d 0 = true := by
  rw [inF_iff]
  refine ⟨Int.le_refl _, ?_⟩
  rw [← S_nat]
  exact Int.ofNat_lt.2 (Nat.two_pow_pos _)
theorem codes (d q a : Int) (h : ¬ (okF d q = true ∧ inF d a = true)) : ∃ c, codeF d q true [a, 0] = c ∧ codeF d q true [a] = c ∧ (c = 1 ∨ c = 2) := by
  unfold codeF
  by_cases h1 : okF d q = true
  · have h2 : inF d a = false := by cases e : inF d a with | false => rfl | true => exact absurd ⟨h1, e⟩ h
    refine ⟨2, ?_, ?_, Or.inr rfl⟩ <;> simp [h1, h2]
  · refine ⟨1, ?_, ?_, Or.inl rfl⟩ <;> simp [h1]
theorem main : laws_FnExactMinimalPoly.Pure := by
  intro d q a _ _ _
  refine ⟨300, ?_⟩
  by_cases h : okF d q = true ∧ inF d a = true
  · exact small h.1 h.2
  · obtain ⟨c, h1, h2, h3⟩ := codes d q a h
    unfold laws_FnExactMinimalPoly.f laws_toField.f spec_MinimalPoly.f impl_MinimalPoly.f
    simp only [Option.bind_some]
    rw [given_tells d q a 0 300 (by omega), code_tells d q true [a] 300 (by omega), h1, h2]
    rcases h3 with rfl | rfl <;> simp
end Go.Proofs.Ytaopplbahakpgaa.PureFnExactMinimalPoly
namespace Go.Proofs.Ytaopplbahakpgaa.Pure
open Go.Proofs.Ytaopplbahakpgaa.PFnExactMinimalPoly
theorem FnExactMinimalPoly : laws_FnExactMinimalPoly.Pure := PureFnExactMinimalPoly.main
end Go.Proofs.Ytaopplbahakpgaa.Pure
