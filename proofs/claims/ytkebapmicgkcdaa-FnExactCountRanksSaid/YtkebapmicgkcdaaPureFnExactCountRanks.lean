/- CountRanks of the program and of the reference agree for all triples of int64 (small ones by reckoning, all others are out of range or 0). -/
import Derived.Test.YtkebapmicgkcdaaPFnExactCountRanksx2
namespace Go.Proofs.Ytkebapmicgkcdaa.Pure
open Go.RowKit Go.Proofs.Ytkebapmicgkcdaa.PFnExactCountRanks Go.Proofs.YtkebapmicgkcdaaW.PrintWords Go.Proofs.YtkebapmicgkcdaaW.PrintLast
theorem small : ∀ n k r : Fin 6, laws_FnExactCountRanks.f 200 (n.val : Int) (k.val : Int) (r.val : Int) = some true := by decide +kernel
theorem big : ∀ (x y z : Int), x ≤ 5 → z > 5 → (spec_l00Min.f x y).bind (fun t104 => (if z > t104 then (some ((0 : Int), (0 : Int))) else ((spec_l04Gauss.f 199 x z).bind fun t105 => (spec_CountRanks.l0 199 y z t105 0)))) = some (0, 0) := by
  intro x y z hx hz
  unfold spec_l00Min.f
  by_cases h : x < y
  · have : z > x := by omega
    simp [h, this]
  · have : z > y := by omega
    simp [h, this]
theorem FnExactCountRanks : laws_FnExactCountRanks.Pure := by
  intro a0 a1 a2 _ _ _
  refine ⟨200, ?_⟩
  by_cases h : (0 ≤ a0 ∧ a0 < 6) ∧ (0 ≤ a1 ∧ a1 < 6) ∧ (0 ≤ a2 ∧ a2 < 6)
  · have := small ⟨a0.toNat, by omega⟩ ⟨a1.toNat, by omega⟩ ⟨a2.toNat, by omega⟩
    have e : ((a0.toNat : Nat) : Int) = a0 := by omega
    have e1 : ((a1.toNat : Nat) : Int) = a1 := by omega
    have e2 : ((a2.toNat : Nat) : Int) = a2 := by omega
    simp only [e, e1, e2] at this
    exact this
  · unfold laws_FnExactCountRanks.f spec_CountRanks.f impl_CountRanks.f spec_l00In.f impl_within.f
    by_cases h0 : a0 ≥ 1
    · by_cases h1 : a0 ≤ 5
      · by_cases h2 : a1 ≥ 1
        · by_cases h3 : a1 ≤ 5
          · by_cases h4 : a2 < 0
            · simp [h0, h1, h2, h3, h4, spec_CountRanks.j0, impl_CountRanks.j0]
            · have h5 : a2 > a0 := by omega
              have hb := big a0 a1 a2 h1 (by omega)
              simp [h0, h1, h2, h3, h4, spec_CountRanks.j0, impl_CountRanks.j0, h5] at hb ⊢
              simp [hb]
          · simp [h0, h1, h2, h3, spec_CountRanks.j0, impl_CountRanks.j0]
        · simp [h0, h1, h2, spec_CountRanks.j0, impl_CountRanks.j0]
      · simp [h0, h1, spec_CountRanks.j0, impl_CountRanks.j0]
    · simp [h0, spec_CountRanks.j0, impl_CountRanks.j0]
end Go.Proofs.Ytkebapmicgkcdaa.Pure
