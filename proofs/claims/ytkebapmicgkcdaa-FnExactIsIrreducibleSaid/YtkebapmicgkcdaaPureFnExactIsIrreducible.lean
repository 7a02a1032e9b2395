/- IsIrreducible of the program and of the reference agree for every int64 (0 to 63 by reckoning, every other number by its bounds). -/
import Derived.Test.YtkebapmicgkcdaaPFnExactIsIrreduciblex1
namespace Go.Proofs.Ytkebapmicgkcdaa.Pure
open Go.RowKit Go.Proofs.Ytkebapmicgkcdaa.PFnExactIsIrreducible Go.Proofs.YtkebapmicgkcdaaW.PrintWords Go.Proofs.YtkebapmicgkcdaaW.PrintLast
theorem small : ∀ n : Fin 64, laws_FnExactIsIrreducible.f 60 (n.val : Int) = some true := by decide +kernel
theorem FnExactIsIrreducible : laws_FnExactIsIrreducible.Pure := by
  intro a0 _
  refine ⟨60, ?_⟩
  by_cases h : 0 ≤ a0 ∧ a0 < 64
  · have := small ⟨a0.toNat, by omega⟩
    have e : ((a0.toNat : Nat) : Int) = a0 := by omega
    simp only [e] at this
    exact this
  · by_cases h2 : a0 < 0
    · have g1 : ¬ (a0 > 0) := by omega
      have g2 : a0 < 2 := by omega
      unfold laws_FnExactIsIrreducible.f spec_IsIrreducible.f impl_IsIrreducible.f
      rw [if_neg g1, if_pos g2]; rfl
    · have g1 : a0 > 0 := by omega
      have g2 : ¬ a0 < 64 := by omega
      have g3 : ¬ a0 < 2 := by omega
      have g4 : decide (a0 ≥ 64) = true := decide_eq_true (by omega)
      unfold laws_FnExactIsIrreducible.f spec_IsIrreducible.f impl_IsIrreducible.f
      rw [if_pos g1, if_neg g2, if_neg g3, g4]; rfl
end Go.Proofs.Ytkebapmicgkcdaa.Pure
