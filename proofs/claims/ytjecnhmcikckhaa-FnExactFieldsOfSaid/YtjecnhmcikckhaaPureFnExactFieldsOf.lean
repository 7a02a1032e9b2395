/- FieldsOf of the program and of the reference agree for every degree, and what it returns is new memory each time (0 to 5 by reckoning, all others are out of range). -/
import Derived.Test.YtjecnhmcikckhaaPFnExactFieldsOfx3
namespace Go.Proofs.Ytjecnhmcikckhaa.PureFnExactFieldsOf
open Go.RowKit Go.Proofs.Ytjecnhmcikckhaa.PFnExactFieldsOf Go.Proofs.YtjecnhmcikckhaaW.PrintWords Go.Proofs.YtjecnhmcikckhaaW.PrintLast Go.Proofs.YtjecnhmcikckhaaW.PrintMore
theorem small : ∀ d : Fin 6, laws_FnExactFieldsOf.f 200 (d.val : Int) = some true := by decide +kernel
theorem out_of_range (d : Int) (h : ¬ (1 ≤ d ∧ d ≤ 5)) (k : Nat) : spec_FieldsOf.f k d = some ([], 2) ∧ impl_FieldsOf.f k d = some ([], 2) := by
  unfold spec_FieldsOf.f impl_FieldsOf.f spec_l00In.f impl_within.f
  by_cases h0 : d ≥ 1
  · have h1 : ¬ d ≤ 5 := by omega
    simp [h0, h1]
  · simp [h0]
theorem out_law (d : Int) (h : ¬ (1 ≤ d ∧ d ≤ 5)) : laws_FnExactFieldsOf.f (197 + 1 + 1 + 1) d = some true := by
  obtain ⟨h1, h2⟩ := out_of_range d h 200
  obtain ⟨_, h4⟩ := out_of_range d h 199
  have e1 : laws_eqFieldS.f 200 [] [] = some true := by decide +kernel
  have e2 : laws_eqFieldS.f 199 [] [] = some true := by decide +kernel
  have e3 : laws_markFieldS.f 199 [] 1 = some (1, []) := by rfl
  have e4 : laws_heldFieldS.f 199 [] 1 = some 1 := by decide +kernel
  have e5 : laws_heldFieldS.f 198 [] 1 = some 1 := by decide +kernel
  unfold laws_FnExactFieldsOf.f
  simp only [h1, h2, Option.bind_some, e1, if_true]
  simp only [laws_FnExactFieldsOf.j0, h4, e3, e4, e2, Option.bind_some, laws_FnExactFieldsOf.j1, e5]
  simp
theorem main : laws_FnExactFieldsOf.Pure := by
  intro d _
  refine ⟨200, ?_⟩
  by_cases h : 0 ≤ d ∧ d < 6
  · have := small ⟨d.toNat, by omega⟩
    have e : ((d.toNat : Nat) : Int) = d := by omega
    simp only [e] at this
    exact this
  · exact out_law d (by omega)
end Go.Proofs.Ytjecnhmcikckhaa.PureFnExactFieldsOf
namespace Go.Proofs.Ytjecnhmcikckhaa.Pure
open Go.Proofs.Ytjecnhmcikckhaa.PFnExactFieldsOf
theorem FnExactFieldsOf : laws_FnExactFieldsOf.Pure := PureFnExactFieldsOf.main
end Go.Proofs.Ytjecnhmcikckhaa.Pure
