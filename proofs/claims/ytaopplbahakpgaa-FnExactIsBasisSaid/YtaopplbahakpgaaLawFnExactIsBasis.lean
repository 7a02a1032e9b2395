-- Written by this session's driver wip/tools/myprint.py over the kit's print, out of Lean's print of the translation, with own texts for what the print does not take. Lean checks it.
import Derived.Test.YtaopplbahakpgaaRows
import Derived.Test.YtaopplbahakpgaaSOpen
import Derived.Test.YtaopplbahakpgaaPFnExactIsBasisx4
import Derived.Test.YtaopplbahakpgaaPureFnExactIsBasis
import Derived.WalkKit
import Derived.ProofKit
import Derived.OpenShut
import Derived.ShutString
import Derived.ChangeOld
import Derived.Below
import Derived.SizedLaws
import Derived.Carry
import Derived.Lib.SmallJoins
namespace Go.Proofs.Ytaopplbahakpgaa.fnExactIsBasis
open Go.ChangeShapes Go.WideShapes Go.ChangeAt Go.RowKit Go.Proofs.Ytaopplbahakpgaa
set_option linter.unusedVariables false
theorem own : ownKnob Try.prog.godebug = none := by kernel_rfl
theorem laidOut : laidOutB Try.prog = true := by kernel_rfl
theorem cells2 : Try.prog.cellsOf 2 = 1 := by kernel_rfl
theorem cells23 : Try.prog.cellsOf 23 = 2 := by kernel_rfl
theorem cells29 : Try.prog.cellsOf 29 = 1 := by kernel_rfl
set_option maxRecDepth 100000 in
theorem lifted (os : Os) (started : os.Started) (H : Type) (enc : TypeId × Value → H) :
    ReturnsInHanded {} Try.checked os 10 .any (Rows.fnExactIsBasisSpec.pre6 enc Try.prog Try.f10 Rows.fnExactIsBasisRow.domain false) (Rows.fnExactIsBasisSpec.post enc Try.prog Try.f10 false true false false) := by
  refine returnsInHanded_of_change_sized (C := Try.checked) own started (by kernel_rfl) Try.func10
    (ChangeSpec.witness6 (enc := enc) (C := Try.checked) false ⟨#[], #[.agg #[.int .i64 0, .int .i64 0], .slice none 0 0], []⟩ 8 (by kernel_rfl) (by kernel_rfl) (by kernel_rfl) (by kernel_rfl)) ?_
  intro W base args ds gs before hval0 hW hcnd hsz0 _
  have hval : ∀ (j : Nat) t v, Try.f10.params[j]? = some t → args[j]? = some v → Value.okWide Try.prog W .any base t v := hval0
  have hW' := hW
  obtain ⟨p, q, hA0, hV, rfl, hfz, hnd⟩ := hW
  have hA : DataW.TrodAll enc Try.prog W 0 (fun _ => true) true Try.f10.params.toList args.toList ds p := hA0
  rw [Try.params10] at hA hval
  obtain ⟨v0, vs0, d0, ds0, p0, q0, hargs, rfl, rfl, h0, r0⟩ := trodAll_cons hA
  obtain ⟨v1, vs1, d1, ds1, p1, q1, rfl, rfl, rfl, h1, r1⟩ := trodAll_cons r0
  obtain ⟨rfl, rfl, rfl⟩ := trodAll_nil r1
  obtain rfl : args = #[v0, v1] := by cases args; simp_all
  obtain ⟨rfl, rfl⟩ := trodVars_none hV
  have k0 := h0
  have lt0 : ∀ x ∈ p0, x.block < W.heap.size := by obtain ⟨m, hm⟩ := k0; exact DataW.trod_lt m _ _ _ hm
  obtain ⟨cs0, rfl, sz0⟩ := okWide_struct Try.underlying23 (hval 0 23 v0 rfl rfl)
  obtain ⟨u0_0, u0_1, rfl⟩ := Open.arr2 (sz0.trans cells23)
  obtain ⟨fu0, g0⟩ := h0
  obtain ⟨y0_1, m0_1, hy0_1⟩ := Open.sub Try.underlying23 g0
  have e0_1_0 : DataW.trod enc Try.prog W 0 (fun _ => true) true m0_1 2 [u0_0] = some (y0_1 0) := hy0_1 0 _ rfl 1 cells2
  obtain ⟨a0_0, q0_0, _, w0_0⟩ := DataW.trod_int Try.underlying2 e0_1_0
  obtain rfl : u0_0 = .int .i64 a0_0 := by simpa using q0_0
  have e0_1_1 : DataW.trod enc Try.prog W 0 (fun _ => true) true m0_1 2 [u0_1] = some (y0_1 1) := hy0_1 1 _ rfl 1 cells2
  obtain ⟨a0_1, q0_1, _, w0_1⟩ := DataW.trod_int Try.underlying2 e0_1_1
  obtain rfl : u0_1 = .int .i64 a0_1 := by simpa using q0_1
  have k1 := h1
  have lt1 : ∀ x ∈ p1, x.block < W.heap.size := by obtain ⟨m, hm⟩ := k1; exact DataW.trod_lt m _ _ _ hm
  obtain ⟨A1', len1', cap1', rfl⟩ := okWide_slice Try.underlying29 (hval 1 29 v1 rfl rfl)
  obtain ⟨fu1, g1⟩ := h1
  obtain ⟨A1, c1, l1, q1, hc1, hm1, hw1, hr1⟩ := Open.ints Try.underlying29 Try.underlying2 cells2 g1
  obtain ⟨rfl, rfl, rfl⟩ : A1' = A1 ∧ len1' = l1.length ∧ cap1' = c1 := by simpa [Value.cells] using q1
  clear hA0 hval0 hsz0
  obtain ⟨k, hk⟩ := Pure.FnExactIsBasis a0_0 a0_1 l1 w0_0 w0_1 hm1 hw1
  refine (PFnExactIsBasis.laws_FnExactIsBasis.calls k a0_0 a0_1 _ _ l1 true W hr1 hc1 hk).mono fun e W' ⟨he, bel0⟩ => ?_
  have bel : Below W.heap.size W W' := bel0
  subst he
  exact ⟨_, rfl, _, _, _, [], _, [], hW', trodAll_mk1 (shut_bool Try.underlying4 _), (trodAll_cons_mk (Below.trod laidOut (by kernel_rfl) (of_decide_eq_true (by kernel_rfl)) k0 bel lt0) (trodAll_cons_mk (Below.trod laidOut (by kernel_rfl) (of_decide_eq_true (by kernel_rfl)) k1 bel lt1) trodAll_mk0)), rfl, bel.frame _, fun h => by cases h⟩
theorem over : Rows.fnExactIsBasisRow.holds Try.pinned (OpenSpec.ofChange Rows.fnExactIsBasisSpec) :=
  OpenClaim.holds_of_wide 10 Try.f10 rfl rfl rfl rfl rfl rfl rfl ⟨rfl, rfl, rfl, rfl, rfl⟩ rfl rfl rfl rfl rfl (by kernel_rfl) Try.func10 (by kernel_rfl)
    (of_decide_eq_true (by kernel_rfl)) (by unfold Func.isWrapper; first | (rw [if_pos (by decide +kernel)]; kernel_rfl) | (rw [if_neg (by decide +kernel)]; exact ⟨rfl, rfl⟩))
    (fun os started H enc _ => lifted os started H enc)
theorem proved : Rows.FnExactIsBasisSaid := over
#print axioms proved
end Go.Proofs.Ytaopplbahakpgaa.fnExactIsBasis
namespace Go.Proofs.Ytaopplbahakpgaa
/-- The row, under a short name, for the claim. -/
theorem fnExactIsBasis_holds : Rows.FnExactIsBasisSaid := fnExactIsBasis.proved
end Go.Proofs.Ytaopplbahakpgaa
