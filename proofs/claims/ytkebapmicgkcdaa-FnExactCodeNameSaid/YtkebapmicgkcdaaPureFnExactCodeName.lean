/- CodeName of the program and of the reference agree for every int64 (nine codes by reckoning, every other number by its bounds). -/
import Derived.Test.YtkebapmicgkcdaaPFnExactCodeNamex1
namespace Go.Proofs.Ytkebapmicgkcdaa.Pure
open Go.RowKit Go.Proofs.Ytkebapmicgkcdaa.PFnExactCodeName Go.Proofs.YtkebapmicgkcdaaW.PrintWords Go.Proofs.YtkebapmicgkcdaaW.PrintLast
theorem small : ∀ n : Fin 9, laws_FnExactCodeName.f (n.val : Int) = some true := by decide +kernel
theorem FnExactCodeName : laws_FnExactCodeName.Pure := by
  intro a0 _
  by_cases h : 0 ≤ a0 ∧ a0 < 9
  · have := small ⟨a0.toNat, by omega⟩
    have e : ((a0.toNat : Nat) : Int) = a0 := by omega
    simp only [e] at this
    exact this
  · unfold laws_FnExactCodeName.f spec_CodeName.f impl_CodeName.f impl_size_string.f spec_l00In.f impl_within.f
    simp only [Option.bind_some, List.length_cons, List.length_nil]
    by_cases h0 : a0 ≥ 0
    · have h1 : ¬ a0 ≤ 8 := by omega
      have h2 : ¬ a0 ≤ wrap64 (8 : Int) := by
        rw [show wrap64 (8 : Int) = 8 by decide +kernel]; exact h1
      simp [h0, h1, h2]
    · simp [h0]
end Go.Proofs.Ytkebapmicgkcdaa.Pure
