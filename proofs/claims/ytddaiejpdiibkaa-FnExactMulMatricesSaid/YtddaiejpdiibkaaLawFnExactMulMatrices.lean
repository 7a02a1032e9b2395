-- Written by this session's driver wip/tools/myprint.py over the kit's print, out of Lean's print of the translation, with own texts for what the print does not take. Lean checks it.
import Derived.Test.YtddaiejpdiibkaaRows
import Derived.Test.YtddaiejpdiibkaaSOpen
import Derived.Test.YtddaiejpdiibkaaPFnExactMulMatricesx7
import Derived.Test.YtddaiejpdiibkaaPureFnExactMulMatrices
import Derived.WalkKit
import Derived.ProofKit
import Derived.OpenShut
import Derived.ShutString
import Derived.ChangeOld
import Derived.Below
import Derived.SizedLaws
import Derived.Carry
import Derived.Lib.SmallJoins
namespace Go.Proofs.Ytddaiejpdiibkaa.fnExactMulMatrices
open Go.ChangeShapes Go.WideShapes Go.ChangeAt Go.RowKit Go.Proofs.Ytddaiejpdiibkaa
set_option linter.unusedVariables false
theorem own : ownKnob Try.prog.godebug = none := by kernel_rfl
theorem laidOut : laidOutB Try.prog = true := by kernel_rfl
theorem cells2 : Try.prog.cellsOf 2 = 1 := by kernel_rfl
theorem cells31 : Try.prog.cellsOf 31 = 1 := by kernel_rfl
theorem cells41 : Try.prog.cellsOf 41 = 2 := by kernel_rfl
set_option maxRecDepth 100000 in
theorem lifted (os : Os) (started : os.Started) (H : Type) (enc : TypeId × Value → H) :
    ReturnsInHanded {} Try.checked os 14 .any (Rows.fnExactMulMatricesSpec.pre6 enc Try.prog Try.f14 Rows.fnExactMulMatricesRow.domain false) (Rows.fnExactMulMatricesSpec.post enc Try.prog Try.f14 false true false false) := by
  refine returnsInHanded_of_change_sized (C := Try.checked) own started (by kernel_rfl) Try.func14
    (ChangeSpec.witness6 (enc := enc) (C := Try.checked) false ⟨#[], #[.agg #[.int .i64 0, .slice none 0 0], .agg #[.int .i64 0, .slice none 0 0]], []⟩ 8 (by kernel_rfl) (by kernel_rfl) (by kernel_rfl) (by kernel_rfl)) ?_
  intro W base args ds gs before hval0 hW hcnd hsz0 _
  have hval : ∀ (j : Nat) t v, Try.f14.params[j]? = some t → args[j]? = some v → Value.okWide Try.prog W .any base t v := hval0
  have hW' := hW
  obtain ⟨p, q, hA0, hV, rfl, hfz, hnd⟩ := hW
  have hA : DataW.TrodAll enc Try.prog W 0 (fun _ => true) true Try.f14.params.toList args.toList ds p := hA0
  rw [Try.params14] at hA hval
  obtain ⟨v0, vs0, d0, ds0, p0, q0, hargs, rfl, rfl, h0, r0⟩ := trodAll_cons hA
  obtain ⟨v1, vs1, d1, ds1, p1, q1, rfl, rfl, rfl, h1, r1⟩ := trodAll_cons r0
  obtain ⟨rfl, rfl, rfl⟩ := trodAll_nil r1
  obtain rfl : args = #[v0, v1] := by cases args; simp_all
  obtain ⟨rfl, rfl⟩ := trodVars_none hV
  have k0 := h0
  have lt0 : ∀ x ∈ p0, x.block < W.heap.size := by obtain ⟨m, hm⟩ := k0; exact DataW.trod_lt m _ _ _ hm
  obtain ⟨cs0, rfl, sz0⟩ := okWide_struct Try.underlying41 (hval 0 41 v0 rfl rfl)
  obtain ⟨u0_0, u0_1, rfl⟩ := Open.arr2 (sz0.trans cells41)
  obtain ⟨fu0, g0⟩ := h0
  obtain ⟨y0_1, m0_1, hy0_1⟩ := Open.sub Try.underlying41 g0
  have e0_1_0 : DataW.trod enc Try.prog W 0 (fun _ => true) true m0_1 2 [u0_0] = some (y0_1 0) := hy0_1 0 _ rfl 1 cells2
  obtain ⟨a0_0, q0_0, _, w0_0⟩ := DataW.trod_int Try.underlying2 e0_1_0
  obtain rfl : u0_0 = .int .i64 a0_0 := by simpa using q0_0
  have e0_1_1 : DataW.trod enc Try.prog W 0 (fun _ => true) true m0_1 31 [u0_1] = some (y0_1 1) := hy0_1 1 _ rfl 1 cells31
  obtain ⟨A0_1, c0_1, l0_1, q0_1, hc0_1, hm0_1, hw0_1, hr0_1⟩ := Open.ints Try.underlying31 Try.underlying2 cells2 e0_1_1
  obtain rfl : u0_1 = .slice A0_1 l0_1.length c0_1 := by simpa using q0_1
  have k1 := h1
  have lt1 : ∀ x ∈ p1, x.block < W.heap.size := by obtain ⟨m, hm⟩ := k1; exact DataW.trod_lt m _ _ _ hm
  obtain ⟨cs1, rfl, sz1⟩ := okWide_struct Try.underlying41 (hval 1 41 v1 rfl rfl)
  obtain ⟨u1_0, u1_1, rfl⟩ := Open.arr2 (sz1.trans cells41)
  obtain ⟨fu1, g1⟩ := h1
  obtain ⟨y1_1, m1_1, hy1_1⟩ := Open.sub Try.underlying41 g1
  have e1_1_0 : DataW.trod enc Try.prog W 0 (fun _ => true) true m1_1 2 [u1_0] = some (y1_1 0) := hy1_1 0 _ rfl 1 cells2
  obtain ⟨a1_0, q1_0, _, w1_0⟩ := DataW.trod_int Try.underlying2 e1_1_0
  obtain rfl : u1_0 = .int .i64 a1_0 := by simpa using q1_0
  have e1_1_1 : DataW.trod enc Try.prog W 0 (fun _ => true) true m1_1 31 [u1_1] = some (y1_1 1) := hy1_1 1 _ rfl 1 cells31
  obtain ⟨A1_1, c1_1, l1_1, q1_1, hc1_1, hm1_1, hw1_1, hr1_1⟩ := Open.ints Try.underlying31 Try.underlying2 cells2 e1_1_1
  obtain rfl : u1_1 = .slice A1_1 l1_1.length c1_1 := by simpa using q1_1
  clear hA0 hval0 hsz0
  obtain ⟨k, hk⟩ := Pure.FnExactMulMatrices a0_0 l0_1 a1_0 l1_1 w0_0 hm0_1 hw0_1 w1_0 hm1_1 hw1_1
  refine (PFnExactMulMatrices.laws_FnExactMulMatrices.calls k a0_0 _ _ l0_1 a1_0 _ _ l1_1 true W hr0_1 hc0_1 hr1_1 hc1_1 hk).mono fun e W' ⟨he, bel0⟩ => ?_
  have bel : Below W.heap.size W W' := bel0
  subst he
  exact ⟨_, rfl, _, _, _, [], _, [], hW', trodAll_mk1 (shut_bool Try.underlying4 _), (trodAll_cons_mk (Below.trod laidOut (by kernel_rfl) (of_decide_eq_true (by kernel_rfl)) k0 bel lt0) (trodAll_cons_mk (Below.trod laidOut (by kernel_rfl) (of_decide_eq_true (by kernel_rfl)) k1 bel lt1) trodAll_mk0)), rfl, bel.frame _, fun h => by cases h⟩
theorem over : Rows.fnExactMulMatricesRow.holds Try.pinned (OpenSpec.ofChange Rows.fnExactMulMatricesSpec) :=
  OpenClaim.holds_of_wide 14 Try.f14 rfl rfl rfl rfl rfl rfl rfl ⟨rfl, rfl, rfl, rfl, rfl⟩ rfl rfl rfl rfl rfl (by kernel_rfl) Try.func14 (by kernel_rfl)
    (of_decide_eq_true (by kernel_rfl)) (by unfold Func.isWrapper; first | (rw [if_pos (by decide +kernel)]; kernel_rfl) | (rw [if_neg (by decide +kernel)]; exact ⟨rfl, rfl⟩))
    (fun os started H enc _ => lifted os started H enc)
theorem proved : Rows.FnExactMulMatricesSaid := over
#print axioms proved
end Go.Proofs.Ytddaiejpdiibkaa.fnExactMulMatrices
namespace Go.Proofs.Ytddaiejpdiibkaa
/-- The row, under a short name, for the claim. -/
theorem fnExactMulMatrices_holds : Rows.FnExactMulMatricesSaid := fnExactMulMatrices.proved
end Go.Proofs.Ytddaiejpdiibkaa
