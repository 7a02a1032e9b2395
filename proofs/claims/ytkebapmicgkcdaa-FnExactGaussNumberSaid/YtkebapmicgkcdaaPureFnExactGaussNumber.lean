/- GaussNumber of the program and of the reference agree for all pairs of int64 (0 to 10 by reckoning, all others are out of range). -/
import Derived.Test.YtkebapmicgkcdaaPFnExactGaussNumberx1
namespace Go.Proofs.Ytkebapmicgkcdaa.Pure
open Go.RowKit Go.Proofs.Ytkebapmicgkcdaa.PFnExactGaussNumber Go.Proofs.YtkebapmicgkcdaaW.PrintWords Go.Proofs.YtkebapmicgkcdaaW.PrintLast
theorem small : ∀ n k : Fin 11, laws_FnExactGaussNumber.f 200 (n.val : Int) (k.val : Int) = some true := by decide +kernel
theorem FnExactGaussNumber : laws_FnExactGaussNumber.Pure := by
  intro a0 a1 _ _
  refine ⟨200, ?_⟩
  by_cases h : (0 ≤ a0 ∧ a0 < 11) ∧ (0 ≤ a1 ∧ a1 < 11)
  · have := small ⟨a0.toNat, by omega⟩ ⟨a1.toNat, by omega⟩
    have e : ((a0.toNat : Nat) : Int) = a0 := by omega
    have e1 : ((a1.toNat : Nat) : Int) = a1 := by omega
    simp only [e, e1] at this
    exact this
  · unfold laws_FnExactGaussNumber.f spec_GaussNumber.f impl_GaussNumber.f spec_l00In.f impl_within.f
    by_cases h0 : a0 ≥ 1 <;> by_cases h1 : a0 ≤ 10 <;> by_cases h2 : a1 ≥ 0 <;> by_cases h3 : a1 ≤ a0 <;> first | omega | simp [h0, h1, h2, h3]
end Go.Proofs.Ytkebapmicgkcdaa.Pure
