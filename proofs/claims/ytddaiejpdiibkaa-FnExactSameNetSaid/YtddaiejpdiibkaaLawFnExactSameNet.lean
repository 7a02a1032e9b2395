-- Written by this session's driver wip/tools/myprint.py over the kit's print, out of Lean's print of the translation, with own texts for what the print does not take. Lean checks it.
import Derived.Test.YtddaiejpdiibkaaRows
import Derived.Test.YtddaiejpdiibkaaSOpen
import Derived.Test.YtddaiejpdiibkaaPFnExactSameNetx5
import Derived.Test.YtddaiejpdiibkaaPureFnExactSameNet
import Derived.WalkKit
import Derived.ProofKit
import Derived.OpenShut
import Derived.ShutString
import Derived.ChangeOld
import Derived.Below
import Derived.SizedLaws
import Derived.Carry
import Derived.Lib.SmallJoins
namespace Go.Proofs.Ytddaiejpdiibkaa.fnExactSameNet
open Go.ChangeShapes Go.WideShapes Go.ChangeAt Go.RowKit Go.Proofs.Ytddaiejpdiibkaa
set_option linter.unusedVariables false
theorem own : ownKnob Try.prog.godebug = none := by kernel_rfl
theorem laidOut : laidOutB Try.prog = true := by kernel_rfl
theorem cells2 : Try.prog.cellsOf 2 = 1 := by kernel_rfl
theorem cells23 : Try.prog.cellsOf 23 = 2 := by kernel_rfl
theorem cells31 : Try.prog.cellsOf 31 = 1 := by kernel_rfl
theorem cells48 : Try.prog.cellsOf 48 = 1 := by kernel_rfl
theorem cells50 : Try.prog.cellsOf 50 = 6 := by kernel_rfl
set_option maxRecDepth 100000 in
theorem lifted (os : Os) (started : os.Started) (H : Type) (enc : TypeId × Value → H) :
    ReturnsInHanded {} Try.checked os 10 .any (Rows.fnExactSameNetSpec.pre6 enc Try.prog Try.f10 Rows.fnExactSameNetRow.domain false) (Rows.fnExactSameNetSpec.post enc Try.prog Try.f10 false true false false) := by
  refine returnsInHanded_of_change_sized (C := Try.checked) own started (by kernel_rfl) Try.func10
    (ChangeSpec.witness6 (enc := enc) (C := Try.checked) false ⟨#[], #[.agg #[.int .i64 0, .int .i64 0, .int .i64 0, .int .i64 0, .slice none 0 0, .slice none 0 0], .agg #[.int .i64 0, .int .i64 0, .int .i64 0, .int .i64 0, .slice none 0 0, .slice none 0 0]], []⟩ 8 (by kernel_rfl) (by kernel_rfl) (by kernel_rfl) (by kernel_rfl)) ?_
  intro W base args ds gs before hval0 hW hcnd hsz0 _
  have hval : ∀ (j : Nat) t v, Try.f10.params[j]? = some t → args[j]? = some v → Value.okWide Try.prog W .any base t v := hval0
  have hW' := hW
  obtain ⟨p, q, hA0, hV, rfl, hfz, hnd⟩ := hW
  have hA : DataW.TrodAll enc Try.prog W 0 (fun _ => true) true Try.f10.params.toList args.toList ds p := hA0
  rw [Try.params10] at hA hval
  obtain ⟨v0, vs0, d0, ds0, p0, q0, hargs, rfl, rfl, h0, r0⟩ := trodAll_cons hA
  obtain ⟨v1, vs1, d1, ds1, p1, q1, rfl, rfl, rfl, h1, r1⟩ := trodAll_cons r0
  obtain ⟨rfl, rfl, rfl⟩ := trodAll_nil r1
  obtain rfl : args = #[v0, v1] := by cases args; simp_all
  obtain ⟨rfl, rfl⟩ := trodVars_none hV
  have k0 := h0
  have lt0 : ∀ x ∈ p0, x.block < W.heap.size := by obtain ⟨m, hm⟩ := k0; exact DataW.trod_lt m _ _ _ hm
  obtain ⟨cs0, rfl, sz0⟩ := okWide_struct Try.underlying50 (hval 0 50 v0 rfl rfl)
  obtain ⟨u0_0, u0_1, u0_2, u0_3, u0_4, u0_5, rfl⟩ := Open.arr6 (sz0.trans cells50)
  obtain ⟨fu0, g0⟩ := h0
  obtain ⟨y0_1, m0_1, hy0_1⟩ := Open.sub Try.underlying50 g0
  have e0_1_0 : DataW.trod enc Try.prog W 0 (fun _ => true) true m0_1 23 [u0_0, u0_1] = some (y0_1 0) := hy0_1 0 _ rfl 2 cells23
  obtain ⟨y0_2, m0_2, hy0_2⟩ := Open.sub Try.underlying23 e0_1_0
  have e0_2_0 : DataW.trod enc Try.prog W 0 (fun _ => true) true m0_2 2 [u0_0] = some (y0_2 0) := hy0_2 0 _ rfl 1 cells2
  obtain ⟨a0_0, q0_0, _, w0_0⟩ := DataW.trod_int Try.underlying2 e0_2_0
  obtain rfl : u0_0 = .int .i64 a0_0 := by simpa using q0_0
  have e0_2_1 : DataW.trod enc Try.prog W 0 (fun _ => true) true m0_2 2 [u0_1] = some (y0_2 1) := hy0_2 1 _ rfl 1 cells2
  obtain ⟨a0_1, q0_1, _, w0_1⟩ := DataW.trod_int Try.underlying2 e0_2_1
  obtain rfl : u0_1 = .int .i64 a0_1 := by simpa using q0_1
  have e0_1_1 : DataW.trod enc Try.prog W 0 (fun _ => true) true m0_1 2 [u0_2] = some (y0_1 1) := hy0_1 1 _ rfl 1 cells2
  obtain ⟨a0_2, q0_2, _, w0_2⟩ := DataW.trod_int Try.underlying2 e0_1_1
  obtain rfl : u0_2 = .int .i64 a0_2 := by simpa using q0_2
  have e0_1_2 : DataW.trod enc Try.prog W 0 (fun _ => true) true m0_1 2 [u0_3] = some (y0_1 2) := hy0_1 2 _ rfl 1 cells2
  obtain ⟨a0_3, q0_3, _, w0_3⟩ := DataW.trod_int Try.underlying2 e0_1_2
  obtain rfl : u0_3 = .int .i64 a0_3 := by simpa using q0_3
  have e0_1_3 : DataW.trod enc Try.prog W 0 (fun _ => true) true m0_1 48 [u0_4] = some (y0_1 3) := hy0_1 3 _ rfl 1 cells48
  obtain ⟨A0_4, c0_4, l0_4, q0_4, hc0_4, hm0_4, hw0_4, hr0_4⟩ := Open.rows Try.underlying48 Try.underlying31 Try.underlying2 cells31 cells2 e0_1_3
  obtain rfl : u0_4 = .slice A0_4 l0_4.length c0_4 := by simpa using q0_4
  have e0_1_4 : DataW.trod enc Try.prog W 0 (fun _ => true) true m0_1 48 [u0_5] = some (y0_1 4) := hy0_1 4 _ rfl 1 cells48
  obtain ⟨A0_5, c0_5, l0_5, q0_5, hc0_5, hm0_5, hw0_5, hr0_5⟩ := Open.rows Try.underlying48 Try.underlying31 Try.underlying2 cells31 cells2 e0_1_4
  obtain rfl : u0_5 = .slice A0_5 l0_5.length c0_5 := by simpa using q0_5
  have k1 := h1
  have lt1 : ∀ x ∈ p1, x.block < W.heap.size := by obtain ⟨m, hm⟩ := k1; exact DataW.trod_lt m _ _ _ hm
  obtain ⟨cs1, rfl, sz1⟩ := okWide_struct Try.underlying50 (hval 1 50 v1 rfl rfl)
  obtain ⟨u1_0, u1_1, u1_2, u1_3, u1_4, u1_5, rfl⟩ := Open.arr6 (sz1.trans cells50)
  obtain ⟨fu1, g1⟩ := h1
  obtain ⟨y1_1, m1_1, hy1_1⟩ := Open.sub Try.underlying50 g1
  have e1_1_0 : DataW.trod enc Try.prog W 0 (fun _ => true) true m1_1 23 [u1_0, u1_1] = some (y1_1 0) := hy1_1 0 _ rfl 2 cells23
  obtain ⟨y1_2, m1_2, hy1_2⟩ := Open.sub Try.underlying23 e1_1_0
  have e1_2_0 : DataW.trod enc Try.prog W 0 (fun _ => true) true m1_2 2 [u1_0] = some (y1_2 0) := hy1_2 0 _ rfl 1 cells2
  obtain ⟨a1_0, q1_0, _, w1_0⟩ := DataW.trod_int Try.underlying2 e1_2_0
  obtain rfl : u1_0 = .int .i64 a1_0 := by simpa using q1_0
  have e1_2_1 : DataW.trod enc Try.prog W 0 (fun _ => true) true m1_2 2 [u1_1] = some (y1_2 1) := hy1_2 1 _ rfl 1 cells2
  obtain ⟨a1_1, q1_1, _, w1_1⟩ := DataW.trod_int Try.underlying2 e1_2_1
  obtain rfl : u1_1 = .int .i64 a1_1 := by simpa using q1_1
  have e1_1_1 : DataW.trod enc Try.prog W 0 (fun _ => true) true m1_1 2 [u1_2] = some (y1_1 1) := hy1_1 1 _ rfl 1 cells2
  obtain ⟨a1_2, q1_2, _, w1_2⟩ := DataW.trod_int Try.underlying2 e1_1_1
  obtain rfl : u1_2 = .int .i64 a1_2 := by simpa using q1_2
  have e1_1_2 : DataW.trod enc Try.prog W 0 (fun _ => true) true m1_1 2 [u1_3] = some (y1_1 2) := hy1_1 2 _ rfl 1 cells2
  obtain ⟨a1_3, q1_3, _, w1_3⟩ := DataW.trod_int Try.underlying2 e1_1_2
  obtain rfl : u1_3 = .int .i64 a1_3 := by simpa using q1_3
  have e1_1_3 : DataW.trod enc Try.prog W 0 (fun _ => true) true m1_1 48 [u1_4] = some (y1_1 3) := hy1_1 3 _ rfl 1 cells48
  obtain ⟨A1_4, c1_4, l1_4, q1_4, hc1_4, hm1_4, hw1_4, hr1_4⟩ := Open.rows Try.underlying48 Try.underlying31 Try.underlying2 cells31 cells2 e1_1_3
  obtain rfl : u1_4 = .slice A1_4 l1_4.length c1_4 := by simpa using q1_4
  have e1_1_4 : DataW.trod enc Try.prog W 0 (fun _ => true) true m1_1 48 [u1_5] = some (y1_1 4) := hy1_1 4 _ rfl 1 cells48
  obtain ⟨A1_5, c1_5, l1_5, q1_5, hc1_5, hm1_5, hw1_5, hr1_5⟩ := Open.rows Try.underlying48 Try.underlying31 Try.underlying2 cells31 cells2 e1_1_4
  obtain rfl : u1_5 = .slice A1_5 l1_5.length c1_5 := by simpa using q1_5
  clear hA0 hval0 hsz0
  obtain ⟨k, hk⟩ := Pure.FnExactSameNet a0_0 a0_1 a0_2 a0_3 l0_4 l0_5 a1_0 a1_1 a1_2 a1_3 l1_4 l1_5 w0_0 w0_1 w0_2 w0_3 hm0_4 hw0_4 hm0_5 hw0_5 w1_0 w1_1 w1_2 w1_3 hm1_4 hw1_4 hm1_5 hw1_5
  refine (PFnExactSameNet.laws_FnExactSameNet.calls k a0_0 a0_1 a0_2 a0_3 _ _ l0_4 _ _ l0_5 a1_0 a1_1 a1_2 a1_3 _ _ l1_4 _ _ l1_5 true W hr0_4 hc0_4 hr0_5 hc0_5 hr1_4 hc1_4 hr1_5 hc1_5 hk).mono fun e W' ⟨he, bel0⟩ => ?_
  have bel : Below W.heap.size W W' := bel0
  subst he
  exact ⟨_, rfl, _, _, _, [], _, [], hW', trodAll_mk1 (shut_bool Try.underlying4 _), (trodAll_cons_mk (Below.trod laidOut (by kernel_rfl) (of_decide_eq_true (by kernel_rfl)) k0 bel lt0) (trodAll_cons_mk (Below.trod laidOut (by kernel_rfl) (of_decide_eq_true (by kernel_rfl)) k1 bel lt1) trodAll_mk0)), rfl, bel.frame _, fun h => by cases h⟩
theorem over : Rows.fnExactSameNetRow.holds Try.pinned (OpenSpec.ofChange Rows.fnExactSameNetSpec) :=
  OpenClaim.holds_of_wide 10 Try.f10 rfl rfl rfl rfl rfl rfl rfl ⟨rfl, rfl, rfl, rfl, rfl⟩ rfl rfl rfl rfl rfl (by kernel_rfl) Try.func10 (by kernel_rfl)
    (of_decide_eq_true (by kernel_rfl)) (by unfold Func.isWrapper; first | (rw [if_pos (by decide +kernel)]; kernel_rfl) | (rw [if_neg (by decide +kernel)]; exact ⟨rfl, rfl⟩))
    (fun os started H enc _ => lifted os started H enc)
theorem proved : Rows.FnExactSameNetSaid := over
#print axioms proved
end Go.Proofs.Ytddaiejpdiibkaa.fnExactSameNet
namespace Go.Proofs.Ytddaiejpdiibkaa
/-- The row, under a short name, for the claim. -/
theorem fnExactSameNet_holds : Rows.FnExactSameNetSaid := fnExactSameNet.proved
end Go.Proofs.Ytddaiejpdiibkaa
