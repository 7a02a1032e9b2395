/- FieldOf of the program and of the reference agree for every degree (0 to 5 by reckoning, all others are out of range). -/
import Derived.Test.YtjecnhmcikckhaaPFnExactFieldOfx2
namespace Go.Proofs.Ytjecnhmcikckhaa.PureFnExactFieldOf
open Go.RowKit Go.Proofs.Ytjecnhmcikckhaa.PFnExactFieldOf Go.Proofs.YtjecnhmcikckhaaW.PrintWords Go.Proofs.YtjecnhmcikckhaaW.PrintLast Go.Proofs.YtjecnhmcikckhaaW.PrintMore
theorem small : ∀ d : Fin 6, laws_FnExactFieldOf.f 200 (d.val : Int) = some true := by decide +kernel
theorem main : laws_FnExactFieldOf.Pure := by
  intro d _
  refine ⟨200, ?_⟩
  by_cases h : 0 ≤ d ∧ d < 6
  · have := small ⟨d.toNat, by omega⟩
    have e : ((d.toNat : Nat) : Int) = d := by omega
    simp only [e] at this
    exact this
  · unfold laws_FnExactFieldOf.f spec_FieldOf.f impl_FieldOf.f impl_FieldsOf.f spec_l00In.f impl_within.f
    by_cases h0 : d ≥ 1
    · have h1 : ¬ d ≤ 5 := by omega
      simp [h0, h1, laws_eqField.f]
    · simp [h0, laws_eqField.f]
end Go.Proofs.Ytjecnhmcikckhaa.PureFnExactFieldOf
namespace Go.Proofs.Ytjecnhmcikckhaa.Pure
open Go.Proofs.Ytjecnhmcikckhaa.PFnExactFieldOf
theorem FnExactFieldOf : laws_FnExactFieldOf.Pure := PureFnExactFieldOf.main
end Go.Proofs.Ytjecnhmcikckhaa.Pure
