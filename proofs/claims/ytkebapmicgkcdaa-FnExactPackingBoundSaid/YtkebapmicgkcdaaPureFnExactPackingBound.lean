/- PackingBound of the program and of the reference agree for all triples of int64 (small ones by reckoning, all others are out of range). -/
import Derived.Test.YtkebapmicgkcdaaPFnExactPackingBoundx2
namespace Go.Proofs.Ytkebapmicgkcdaa.Pure
open Go.RowKit Go.Proofs.Ytkebapmicgkcdaa.PFnExactPackingBound Go.Proofs.YtkebapmicgkcdaaW.PrintWords Go.Proofs.YtkebapmicgkcdaaW.PrintLast
theorem small : ∀ n k : Fin 11, ∀ d : Fin 21, laws_FnExactPackingBound.f 200 (n.val : Int) (k.val : Int) (d.val : Int) = some true := by decide +kernel
theorem FnExactPackingBound : laws_FnExactPackingBound.Pure := by
  intro a0 a1 a2 _ _ _
  refine ⟨200, ?_⟩
  by_cases h : (0 ≤ a0 ∧ a0 < 11) ∧ (0 ≤ a1 ∧ a1 < 11) ∧ (0 ≤ a2 ∧ a2 < 21)
  · have := small ⟨a0.toNat, by omega⟩ ⟨a1.toNat, by omega⟩ ⟨a2.toNat, by omega⟩
    have e : ((a0.toNat : Nat) : Int) = a0 := by omega
    have e1 : ((a1.toNat : Nat) : Int) = a1 := by omega
    have e2 : ((a2.toNat : Nat) : Int) = a2 := by omega
    simp only [e, e1, e2] at this
    exact this
  · unfold laws_FnExactPackingBound.f spec_PackingBound.f impl_PackingBound.f spec_l06Distance.f impl_distanceCode.f spec_l06Side.f spec_l00In.f impl_within.f
    by_cases h0 : a0 ≥ 1
    · by_cases h1 : a0 ≤ 10
      · by_cases h2 : a1 ≥ 0
        · by_cases h3 : a1 ≤ a0
          · have e : wrap64 (2 * a1) = 2 * a1 := by unfold wrap64; omega
            by_cases h4 : a2 ≥ 2 <;> by_cases h5 : a2 ≤ 2 * a1 <;> first | omega | simp [h0, h1, h2, h3, h4, h5, e]
          · simp [h0, h1, h2, h3]
        · simp [h0, h1, h2]
      · simp [h0, h1]
    · simp [h0]
end Go.Proofs.Ytkebapmicgkcdaa.Pure
