/- FirstPrimitive of the program and of the reference agree for every field (the valid ones by reckoning). -/
import Derived.Test.YtjecnhmcikckhaaPFnExactFirstPrimitivex4
namespace Go.Proofs.Ytjecnhmcikckhaa.PureFnExactFirstPrimitive
open Go.RowKit Go.Proofs.Ytjecnhmcikckhaa.PFnExactFirstPrimitive Go.Proofs.YtjecnhmcikckhaaW.PrintWords Go.Proofs.YtjecnhmcikckhaaW.PrintLast Go.Proofs.YtjecnhmcikckhaaW.PrintMore
theorem w64 {x : Int} (h0 : -9223372036854775808 ≤ x) (h1 : x ≤ 9223372036854775807) : wrap64 x = x := by unfold wrap64; omega
theorem rd_drop (l : List Int) (i : Int) (h0 : 0 ≤ i) (h1 : i < (l.length : Int)) : l.drop i.toNat = rd l i :: l.drop (i + 1).toNat := by
  have hl : i.toNat < l.length := by omega
  rw [List.drop_eq_getElem_cons hl]
  have e : (i + 1).toNat = i.toNat + 1 := by omega
  rw [e]
  congr 1
  unfold rd
  rw [List.getD_eq_getElem?_getD, List.getElem?_eq_getElem hl]; rfl
theorem wf64 {x : Int} (h : (Lit.int .i64 x).wf = true) : -9223372036854775808 ≤ x ∧ x ≤ 9223372036854775807 := by
  simp [Lit.wf, IntKind.min, IntKind.max, IntKind.signed, IntKind.bits] at h; omega
theorem maxLen_eq : maxLen = 9223372036854775807 := by unfold maxLen; rfl
def flds : List (Nat × Nat) := [(1, 2), (1, 3), (2, 7), (3, 11), (3, 13), (4, 19), (4, 25), (4, 31), (5, 37), (5, 41), (5, 47), (5, 55), (5, 59), (5, 61)]
def okF (d q : Int) : Bool := decide (1 ≤ d) && decide (d ≤ 5) && decide (0 ≤ q) && decide (q < 64) && flds.contains (d.toNat, q.toNat)
theorem okF_small : ∀ d : Fin 6, ∀ q : Fin 64, impl_ValidField.f 60 (d.val : Int) (q.val : Int) = some (okF (d.val : Int) (q.val : Int)) ∧ spec_l01Ok.f 60 (d.val : Int) (q.val : Int) = some (okF (d.val : Int) (q.val : Int)) := by decide +kernel
theorem okF_off (d q : Int) (h : ¬ ((0 ≤ d ∧ d < 6) ∧ (0 ≤ q ∧ q < 64))) : okF d q = false := by
  unfold okF
  by_cases h0 : 1 ≤ d <;> by_cases h1 : d ≤ 5 <;> by_cases h2 : 0 ≤ q <;> by_cases h3 : q < 64 <;> first | omega | simp [h0, h1, h2, h3]
theorem okF_impl (d q : Int) (k : Nat) (hk : 60 ≤ k) : impl_ValidField.f k d q = some (okF d q) := by
  refine at_rounds (fun k => impl_ValidField.mono d q k) hk ?_
  by_cases h : (0 ≤ d ∧ d < 6) ∧ (0 ≤ q ∧ q < 64)
  · have := (okF_small ⟨d.toNat, by omega⟩ ⟨q.toNat, by omega⟩).1
    have e : ((d.toNat : Nat) : Int) = d := by omega
    have e1 : ((q.toNat : Nat) : Int) = q := by omega
    simp only [e, e1] at this
    exact this
  · rw [okF_off d q h]
    unfold impl_ValidField.f impl_within.f impl_IsIrreducible.f
    by_cases h0 : d ≥ 1
    · by_cases h1 : d ≤ 5
      · by_cases h2 : q < 2
        · simp [h0, h1, h2, impl_IsIrreducible.j0]
        · have h3 : q ≥ 64 := by omega
          simp [h0, h1, h2, h3, impl_IsIrreducible.j0]
      · simp [h0, h1]
    · simp [h0]
theorem okF_spec (d q : Int) (k : Nat) (hk : 60 ≤ k) : spec_l01Ok.f k d q = some (okF d q) := by
  refine at_rounds (fun k => spec_l01Ok.mono d q k) hk ?_
  by_cases h : (0 ≤ d ∧ d < 6) ∧ (0 ≤ q ∧ q < 64)
  · have := (okF_small ⟨d.toNat, by omega⟩ ⟨q.toNat, by omega⟩).2
    have e : ((d.toNat : Nat) : Int) = d := by omega
    have e1 : ((q.toNat : Nat) : Int) = q := by omega
    simp only [e, e1] at this
    exact this
  · rw [okF_off d q h]
    unfold spec_l01Ok.f spec_l00In.f spec_IsIrreducible.f
    by_cases h0 : d ≥ 1
    · by_cases h1 : d ≤ 5
      · by_cases h2 : q > 0
        · have h3 : ¬ q < 64 := by omega
          simp [h0, h1, h2, h3]
        · simp [h0, h1, h2]
      · simp [h0, h1]
    · simp [h0]
def S (d : Int) : Int := 2 ^ d.toNat
theorem okF_range {d q : Int} (h : okF d q = true) : 1 ≤ d ∧ d ≤ 5 ∧ 0 ≤ q ∧ q < 64 ∧ (d.toNat, q.toNat) ∈ flds := by
  simp only [okF, Bool.and_eq_true, decide_eq_true_eq, List.contains_iff_mem] at h
  exact ⟨h.1.1.1.1, h.1.1.1.2, h.1.1.2, h.1.2, h.2⟩
theorem sizes {d : Int} (h1 : 1 ≤ d) (h5 : d ≤ 5) : 0 ≤ IntKind.u64.wrap d ∧ IntKind.u64.wrap d = d ∧ shl .i64 1 d = S d ∧ wrap64 (S d - 1) = S d - 1 ∧ 2 ≤ S d ∧ S d ≤ 32 ∧ wrap64 (S d) = S d := by
  have : d = 1 ∨ d = 2 ∨ d = 3 ∨ d = 4 ∨ d = 5 := by omega
  rcases this with rfl | rfl | rfl | rfl | rfl <;> decide +kernel
def inF (d x : Int) : Bool := decide (0 ≤ x) && decide (x < S d)
theorem inF_iff {d x : Int} : inF d x = true ↔ 0 ≤ x ∧ x < S d := by unfold inF; simp
theorem S_nat (d : Int) : ((2 ^ d.toNat : Nat) : Int) = S d := by unfold S; simp
theorem hasP_inF {d : Int} (h1 : 1 ≤ d) (h5 : d ≤ 5) (x : Int) : hasP d x = inF d x := by
  obtain ⟨_, _, e, e2, e3, _⟩ := sizes h1 h5
  unfold hasP inF
  rw [e, e2]
  congr 1
  by_cases h : x < S d
  · simp [h, show x ≤ S d - 1 by omega]
  · simp [h, show ¬ x ≤ S d - 1 by omega]
def codeF (d q : Int) (right : Bool) (l : List Int) : Int := if okF d q = true then (if l.all (inF d) = true then (if right = true then 0 else 2) else 2) else 1
theorem has_tells {d q : Int} (h : okF d q = true) (l : List Int) : impl_Field_has.f d q l = some (l.all (inF d)) := by
  obtain ⟨h1, h5, _⟩ := okF_range h
  unfold impl_Field_has.f
  rw [if_pos (by omega)]
  congr 2
  funext x
  exact hasP_inF h1 h5 x
theorem code_tells (d q : Int) (right : Bool) (l : List Int) (k : Nat) (hk : 60 ≤ k) : impl_Field_code.f k d q right l = some (codeF d q right l) := by
  unfold impl_Field_code.f codeF
  rw [okF_impl d q k hk]
  simp only [Option.bind_some]
  by_cases h : okF d q = true
  · rw [if_pos h, if_pos h, has_tells h]
    simp only [Option.bind_some]
    by_cases h2 : l.all (inF d) = true
    · rw [if_pos h2, if_pos h2]
      by_cases h3 : right = true
      · rw [if_pos h3, if_pos h3]
      · rw [if_neg h3, if_neg h3]
    · rw [if_neg h2, if_neg h2]
  · rw [if_neg h, if_neg h]
theorem small0 : flds.all (fun f => laws_FnExactFirstPrimitive.f 200 (f.1 : Int) (f.2 : Int) == some true) = true := by decide +kernel
theorem main : laws_FnExactFirstPrimitive.Pure := by
  intro d q _ _
  refine ⟨200, ?_⟩
  by_cases h : okF d q = true
  · obtain ⟨h1, h5, h0, _, hm⟩ := okF_range h
    have h2 := List.all_eq_true.1 small0 _ hm
    have ed : ((d.toNat : Nat) : Int) = d := by omega
    have eq : ((q.toNat : Nat) : Int) = q := by omega
    simpa [ed, eq] using h2
  · unfold laws_FnExactFirstPrimitive.f laws_toField.f spec_FirstPrimitive.f impl_FirstPrimitive.f
    simp only [Option.bind_some]
    rw [okF_spec d q 200 (by omega), code_tells d q _ _ 200 (by omega)]
    unfold codeF
    simp [h]
end Go.Proofs.Ytjecnhmcikckhaa.PureFnExactFirstPrimitive
namespace Go.Proofs.Ytjecnhmcikckhaa.Pure
open Go.Proofs.Ytjecnhmcikckhaa.PFnExactFirstPrimitive
theorem FnExactFirstPrimitive : laws_FnExactFirstPrimitive.Pure := PureFnExactFirstPrimitive.main
end Go.Proofs.Ytjecnhmcikckhaa.Pure
