/- ValidField of the program and of the reference agree for every field (degrees 1 to 5 with polynomials 0 to 63 by reckoning, all others are no fields). -/
import Derived.Test.YtkebapmicgkcdaaPFnExactValidFieldx2
namespace Go.Proofs.Ytkebapmicgkcdaa.PureFnExactValidField
open Go.RowKit Go.Proofs.Ytkebapmicgkcdaa.PFnExactValidField Go.Proofs.YtkebapmicgkcdaaW.PrintWords Go.Proofs.YtkebapmicgkcdaaW.PrintLast Go.Proofs.YtkebapmicgkcdaaW.PrintMore
theorem small : ∀ d : Fin 6, ∀ q : Fin 64, laws_FnExactValidField.f 60 (d.val : Int) (q.val : Int) = some true := by decide +kernel
theorem main : laws_FnExactValidField.Pure := by
  intro d q _ _
  refine ⟨60, ?_⟩
  by_cases h : (0 ≤ d ∧ d < 6) ∧ (0 ≤ q ∧ q < 64)
  · have := small ⟨d.toNat, by omega⟩ ⟨q.toNat, by omega⟩
    have e : ((d.toNat : Nat) : Int) = d := by omega
    have e1 : ((q.toNat : Nat) : Int) = q := by omega
    simp only [e, e1] at this
    exact this
  · have hs : spec_ValidField.f 60 d q = some false := by
      unfold spec_ValidField.f spec_l01Ok.f spec_l00In.f spec_IsIrreducible.f
      by_cases h0 : d ≥ 1
      · by_cases h1 : d ≤ 5
        · by_cases h2 : q > 0
          · have h3 : ¬ q < 64 := by omega
            simp [h0, h1, h2, h3]
          · simp [h0, h1, h2]
        · simp [h0, h1]
      · simp [h0]
    have hi : impl_ValidField.f 60 d q = some false := by
      unfold impl_ValidField.f impl_within.f impl_IsIrreducible.f
      by_cases h0 : d ≥ 1
      · by_cases h1 : d ≤ 5
        · by_cases h2 : q < 2
          · simp [h0, h1, h2, impl_IsIrreducible.j0]
          · have h3 : q ≥ 64 := by omega
            simp [h0, h1, h2, h3, impl_IsIrreducible.j0]
        · simp [h0, h1]
      · simp [h0]
    unfold laws_FnExactValidField.f laws_toField.f
    simp [hs, hi]
end Go.Proofs.Ytkebapmicgkcdaa.PureFnExactValidField
namespace Go.Proofs.Ytkebapmicgkcdaa.Pure
open Go.Proofs.Ytkebapmicgkcdaa.PFnExactValidField
theorem FnExactValidField : laws_FnExactValidField.Pure := PureFnExactValidField.main
end Go.Proofs.Ytkebapmicgkcdaa.Pure
