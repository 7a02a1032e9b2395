-- Written by this session's driver wip/tools/myprint.py over the kit's print, out of Lean's print of the translation, with own texts for what the print does not take. Lean checks it.
import Derived.Test.YtaopplbahakpgaaPFnExactFirstGabidulinx0
import Derived.Test.YtaopplbahakpgaaPFnExactFirstGabidulinx1
import Derived.Test.YtaopplbahakpgaaPFnExactFirstGabidulinx3
import Derived.Test.YtaopplbahakpgaaPFnExactFirstGabidulinx4
namespace Go.Proofs.Ytaopplbahakpgaa.PFnExactFirstGabidulin
open Go.RowKit Go.Proofs.YtaopplbahakpgaaW.PrintWords Go.Proofs.YtaopplbahakpgaaW.PrintLast Go.Proofs.YtaopplbahakpgaaW.PrintMore
attribute [local go_sem] max2_int min2_int max_two min_two max_three min_three max_four min_four   -- for this text's walks alone
set_option linter.unusedVariables false
set_option linter.unusedSimpArgs false

/-! ### laws_FnExactFirstGabidulin: function 9 -/
mutual
def laws_FnExactFirstGabidulin.j0 : Nat → Int → Int → Int → Bool → Int → Int → Int → Int → List Int → Int → Int → Int → List Int → Int → Option (Bool)
  | 0, _, _, _, _, _, _, _, _, _, _, _, _, _, _ => none
  | k + 1, x1, x2, x8, x39, x188000, x188001, x198000, x198001, x198002, x198003, x208000, x208001, x208002, x208003 => if x39 = true then (some false) else ((laws_markGabidulin.f k x208000 x208001 x208002 x208003 1).bind fun bt209 => ((laws_heldGabidulin.f k x208000 x208001 bt209.2 x208003 1).bind fun t211 => (if t211 < 0 then (some false) else (if t211 = bt209.1 then ((laws_toField.f x188000 x188001).bind fun bt212 => ((impl_FirstGabidulin.f k bt212.1 bt212.2 x1 x2).bind fun bt214 => ((laws_eqGabidulin.f k bt214.1 bt214.2.1 bt214.2.2.1 bt214.2.2.2.1 x198000 x198001 x198002 x198003).bind fun t222 => (if t222 = true then (laws_FnExactFirstGabidulin.j1 k bt209.1 (bt214.2.2.2.2 != x8) x208000 x208001 bt209.2 x208003) else (laws_FnExactFirstGabidulin.j1 k bt209.1 true x208000 x208001 bt209.2 x208003))))) else (some false)))))
def laws_FnExactFirstGabidulin.j1 : Nat → Int → Bool → Int → Int → List Int → Int → Option (Bool)
  | 0, _, _, _, _, _, _ => none
  | k + 1, x11, x67, x208000, x208001, x208002, x208003 => if x67 = true then (some false) else ((laws_heldGabidulin.f k x208000 x208001 x208002 x208003 1).bind fun t223 => (if t223 < 0 then (some false) else (if t223 = x11 then (some true) else (some false))))
end
def laws_FnExactFirstGabidulin.f (k : Nat) (a0_0 : Int) (a0_1 : Int) (a1 : Int) (a2 : Int) : Option (Bool) := (laws_toField.f a0_0 a0_1).bind fun bt188 => ((spec_FirstGabidulin.f k bt188.1 bt188.2 a1 a2).bind fun bt190 => ((laws_toField.f a0_0 a0_1).bind fun bt198 => ((impl_FirstGabidulin.f k bt198.1 bt198.2 a1 a2).bind fun bt200 => ((laws_eqGabidulin.f k bt200.1 bt200.2.1 bt200.2.2.1 bt200.2.2.2.1 bt190.1 bt190.2.1 bt190.2.2.1 bt190.2.2.2.1).bind fun t208 => (if t208 = true then (laws_FnExactFirstGabidulin.j0 k a1 a2 bt190.2.2.2.2 (bt200.2.2.2.2 != bt190.2.2.2.2) a0_0 a0_1 bt190.1 bt190.2.1 bt190.2.2.1 bt190.2.2.2.1 bt200.1 bt200.2.1 bt200.2.2.1 bt200.2.2.2.1) else (laws_FnExactFirstGabidulin.j0 k a1 a2 bt190.2.2.2.2 true a0_0 a0_1 bt190.1 bt190.2.1 bt190.2.2.1 bt190.2.2.2.1 bt200.1 bt200.2.1 bt200.2.2.1 bt200.2.2.2.1))))))
theorem laws_FnExactFirstGabidulin.mono_l : ∀ k, (∀ y0 y1 y2 y3 y4 y5 y6 y7 y8 y9 y10 y11 y12 y13, LeO (laws_FnExactFirstGabidulin.j0 k y0 y1 y2 y3 y4 y5 y6 y7 y8 y9 y10 y11 y12 y13) (laws_FnExactFirstGabidulin.j0 (k + 1) y0 y1 y2 y3 y4 y5 y6 y7 y8 y9 y10 y11 y12 y13)) ∧ (∀ y0 y1 y2 y3 y4 y5, LeO (laws_FnExactFirstGabidulin.j1 k y0 y1 y2 y3 y4 y5) (laws_FnExactFirstGabidulin.j1 (k + 1) y0 y1 y2 y3 y4 y5))
  | 0 => ⟨fun _ _ _ _ _ _ _ _ _ _ _ _ _ _ r h => by simp [laws_FnExactFirstGabidulin.j0] at h, fun _ _ _ _ _ _ r h => by simp [laws_FnExactFirstGabidulin.j1] at h⟩
  | k + 1 => by
    obtain ⟨ih0, ih1⟩ := laws_FnExactFirstGabidulin.mono_l k
    refine ⟨?_, ?_⟩
    · intro y0 y1 y2 y3 y4 y5 y6 y7 y8 y9 y10 y11 y12 y13
      unfold laws_FnExactFirstGabidulin.j0
      repeat' first
      | (with_reducible exact ih0 _ _ _ _ _ _ _ _ _ _ _ _ _ _)
      | (with_reducible exact ih1 _ _ _ _ _ _)
      | (with_reducible exact impl_FirstGabidulin.mono _ _ _ _ _)
      | (with_reducible exact laws_eqGabidulin.mono _ _ _ _ _ _ _ _ _)
      | (with_reducible exact laws_heldGabidulin.mono _ _ _ _ _ _)
      | (with_reducible exact laws_markGabidulin.mono _ _ _ _ _ _)
      | (with_reducible exact spec_FirstGabidulin.mono _ _ _ _ _)
      | (with_reducible exact LeO.refl _)
      | (with_reducible exact LeO.none _)
      | (with_reducible refine LeO.ite ?_ ?_)
      | (with_reducible refine LeO.bind ?_ (fun _ => ?_))
      | exact ih0 _ _ _ _ _ _ _ _ _ _ _ _ _ _
      | exact ih1 _ _ _ _ _ _
      | exact impl_FirstGabidulin.mono _ _ _ _ _
      | exact laws_eqGabidulin.mono _ _ _ _ _ _ _ _ _
      | exact laws_heldGabidulin.mono _ _ _ _ _ _
      | exact laws_markGabidulin.mono _ _ _ _ _ _
      | exact spec_FirstGabidulin.mono _ _ _ _ _
      | exact LeO.none _
      | refine LeO.ite ?_ ?_
      | refine LeO.bind ?_ (fun _ => ?_)
    · intro y0 y1 y2 y3 y4 y5
      unfold laws_FnExactFirstGabidulin.j1
      repeat' first
      | (with_reducible exact ih0 _ _ _ _ _ _ _ _ _ _ _ _ _ _)
      | (with_reducible exact ih1 _ _ _ _ _ _)
      | (with_reducible exact impl_FirstGabidulin.mono _ _ _ _ _)
      | (with_reducible exact laws_eqGabidulin.mono _ _ _ _ _ _ _ _ _)
      | (with_reducible exact laws_heldGabidulin.mono _ _ _ _ _ _)
      | (with_reducible exact laws_markGabidulin.mono _ _ _ _ _ _)
      | (with_reducible exact spec_FirstGabidulin.mono _ _ _ _ _)
      | (with_reducible exact LeO.refl _)
      | (with_reducible exact LeO.none _)
      | (with_reducible refine LeO.ite ?_ ?_)
      | (with_reducible refine LeO.bind ?_ (fun _ => ?_))
      | exact ih0 _ _ _ _ _ _ _ _ _ _ _ _ _ _
      | exact ih1 _ _ _ _ _ _
      | exact impl_FirstGabidulin.mono _ _ _ _ _
      | exact laws_eqGabidulin.mono _ _ _ _ _ _ _ _ _
      | exact laws_heldGabidulin.mono _ _ _ _ _ _
      | exact laws_markGabidulin.mono _ _ _ _ _ _
      | exact spec_FirstGabidulin.mono _ _ _ _ _
      | exact LeO.none _
      | refine LeO.ite ?_ ?_
      | refine LeO.bind ?_ (fun _ => ?_)
theorem laws_FnExactFirstGabidulin.mono : ∀ a0 a1 a2 a3 k, LeO (laws_FnExactFirstGabidulin.f k a0 a1 a2 a3) (laws_FnExactFirstGabidulin.f (k + 1) a0 a1 a2 a3) := by
  intro a0 a1 a2 a3 k
  obtain ⟨ih0, ih1⟩ := laws_FnExactFirstGabidulin.mono_l k
  unfold laws_FnExactFirstGabidulin.f
  repeat' first
      | (with_reducible exact ih0 _ _ _ _ _ _ _ _ _ _ _ _ _ _)
      | (with_reducible exact ih1 _ _ _ _ _ _)
      | (with_reducible exact impl_FirstGabidulin.mono _ _ _ _ _)
      | (with_reducible exact laws_eqGabidulin.mono _ _ _ _ _ _ _ _ _)
      | (with_reducible exact laws_heldGabidulin.mono _ _ _ _ _ _)
      | (with_reducible exact laws_markGabidulin.mono _ _ _ _ _ _)
      | (with_reducible exact spec_FirstGabidulin.mono _ _ _ _ _)
      | (with_reducible exact LeO.refl _)
      | (with_reducible exact LeO.none _)
      | (with_reducible refine LeO.ite ?_ ?_)
      | (with_reducible refine LeO.bind ?_ (fun _ => ?_))
      | exact ih0 _ _ _ _ _ _ _ _ _ _ _ _ _ _
      | exact ih1 _ _ _ _ _ _
      | exact impl_FirstGabidulin.mono _ _ _ _ _
      | exact laws_eqGabidulin.mono _ _ _ _ _ _ _ _ _
      | exact laws_heldGabidulin.mono _ _ _ _ _ _
      | exact laws_markGabidulin.mono _ _ _ _ _ _
      | exact spec_FirstGabidulin.mono _ _ _ _ _
      | exact LeO.none _
      | refine LeO.ite ?_ ?_
      | refine LeO.bind ?_ (fun _ => ?_)
set_option maxHeartbeats 8000000 in
set_option maxRecDepth 100000 in
theorem laws_FnExactFirstGabidulin.calls (k : Nat) (a0_0 : Int) (a0_1 : Int) (a1 : Int) (a2 : Int) (r : Bool) (w : World) (h : laws_FnExactFirstGabidulin.f k a0_0 a0_1 a1 a2 = some r) :
    Calls Try.prog 9 #[.agg #[.int .i64 a0_0, .int .i64 a0_1], .int .i64 a1, .int .i64 a2] w fun e w' => e = .returned (.bool r) ∧ Below w.heap.size w w' := by
  have hu23 := Try.underlying23
  have hu48 := Try.underlying48
  have HB := Aside0.mk (Below.refl w.heap.size w)
  have H : ((laws_toField.f a0_0 a0_1).bind fun bt188 => ((spec_FirstGabidulin.f k bt188.1 bt188.2 a1 a2).bind fun bt190 => ((laws_toField.f a0_0 a0_1).bind fun bt198 => ((impl_FirstGabidulin.f k bt198.1 bt198.2 a1 a2).bind fun bt200 => ((laws_eqGabidulin.f k bt200.1 bt200.2.1 bt200.2.2.1 bt200.2.2.2.1 bt190.1 bt190.2.1 bt190.2.2.1 bt190.2.2.2.1).bind fun t208 => (if t208 = true then (laws_FnExactFirstGabidulin.j0 k a1 a2 bt190.2.2.2.2 (bt200.2.2.2.2 != bt190.2.2.2.2) a0_0 a0_1 bt190.1 bt190.2.1 bt190.2.2.1 bt190.2.2.2.1 bt200.1 bt200.2.1 bt200.2.2.1 bt200.2.2.2.1) else (laws_FnExactFirstGabidulin.j0 k a1 a2 bt190.2.2.2.2 true a0_0 a0_1 bt190.1 bt190.2.1 bt190.2.2.1 bt190.2.2.2.1 bt200.1 bt200.2.1 bt200.2.2.1 bt200.2.2.2.1))))))) = some r := h
  clear h
  replace H := Option.bind_eq_some_iff.mp H
  obtain ⟨⟨t188, t189⟩, A40, H⟩ := H
  replace H : ((spec_FirstGabidulin.f k t188 t189 a1 a2).bind fun bt190 => ((laws_toField.f a0_0 a0_1).bind fun bt198 => ((impl_FirstGabidulin.f k bt198.1 bt198.2 a1 a2).bind fun bt200 => ((laws_eqGabidulin.f k bt200.1 bt200.2.1 bt200.2.2.1 bt200.2.2.2.1 bt190.1 bt190.2.1 bt190.2.2.1 bt190.2.2.2.1).bind fun t208 => (if t208 = true then (laws_FnExactFirstGabidulin.j0 k a1 a2 bt190.2.2.2.2 (bt200.2.2.2.2 != bt190.2.2.2.2) a0_0 a0_1 bt190.1 bt190.2.1 bt190.2.2.1 bt190.2.2.2.1 bt200.1 bt200.2.1 bt200.2.2.1 bt200.2.2.2.1) else (laws_FnExactFirstGabidulin.j0 k a1 a2 bt190.2.2.2.2 true a0_0 a0_1 bt190.1 bt190.2.1 bt190.2.2.1 bt190.2.2.2.1 bt200.1 bt200.2.1 bt200.2.2.1 bt200.2.2.2.1)))))) = some r := H
  have A4 := Aside0.mk A40
  clear A40
  replace H := Option.bind_eq_some_iff.mp H
  obtain ⟨⟨t190, t191, t192, t195, t196⟩, A50, H⟩ := H
  replace H : ((laws_toField.f a0_0 a0_1).bind fun bt198 => ((impl_FirstGabidulin.f k bt198.1 bt198.2 a1 a2).bind fun bt200 => ((laws_eqGabidulin.f k bt200.1 bt200.2.1 bt200.2.2.1 bt200.2.2.2.1 t190 t191 t192 t195).bind fun t208 => (if t208 = true then (laws_FnExactFirstGabidulin.j0 k a1 a2 t196 (bt200.2.2.2.2 != t196) a0_0 a0_1 t190 t191 t192 t195 bt200.1 bt200.2.1 bt200.2.2.1 bt200.2.2.2.1) else (laws_FnExactFirstGabidulin.j0 k a1 a2 t196 true a0_0 a0_1 t190 t191 t192 t195 bt200.1 bt200.2.1 bt200.2.2.1 bt200.2.2.2.1))))) = some r := H
  have A5 := Aside0.mk A50
  clear A50
  replace H := Option.bind_eq_some_iff.mp H
  obtain ⟨⟨t198, t199⟩, A60, H⟩ := H
  replace H : ((impl_FirstGabidulin.f k t198 t199 a1 a2).bind fun bt200 => ((laws_eqGabidulin.f k bt200.1 bt200.2.1 bt200.2.2.1 bt200.2.2.2.1 t190 t191 t192 t195).bind fun t208 => (if t208 = true then (laws_FnExactFirstGabidulin.j0 k a1 a2 t196 (bt200.2.2.2.2 != t196) a0_0 a0_1 t190 t191 t192 t195 bt200.1 bt200.2.1 bt200.2.2.1 bt200.2.2.2.1) else (laws_FnExactFirstGabidulin.j0 k a1 a2 t196 true a0_0 a0_1 t190 t191 t192 t195 bt200.1 bt200.2.1 bt200.2.2.1 bt200.2.2.2.1)))) = some r := H
  have A6 := Aside0.mk A60
  clear A60
  replace H := Option.bind_eq_some_iff.mp H
  obtain ⟨⟨t200, t201, t202, t205, t206⟩, A70, H⟩ := H
  replace H : ((laws_eqGabidulin.f k t200 t201 t202 t205 t190 t191 t192 t195).bind fun t208 => (if t208 = true then (laws_FnExactFirstGabidulin.j0 k a1 a2 t196 (t206 != t196) a0_0 a0_1 t190 t191 t192 t195 t200 t201 t202 t205) else (laws_FnExactFirstGabidulin.j0 k a1 a2 t196 true a0_0 a0_1 t190 t191 t192 t195 t200 t201 t202 t205))) = some r := H
  have A7 := Aside0.mk A70
  clear A70
  have HC8 := Aside0.mk H
  clear H
  go_enter Try.func9, Try.ntmps9
  go_upto_region 3 with (first | ((with_reducible refine gate_dst (N := 3) rfl ?_); refine box_event ?hg (N := 3) ?hd (cs := #[.int .i64 a0_0, .int .i64 a0_1]) (t := 23) ?hr ?_; (case hd => rfl); (case hg => rfl); (case hr => first | (go_simp; done) | (go_simp; rfl)); intro gb187 hg w9 hbox hb; have n0_ := Aside0.mk (below_step (by repeat (first | (with_reducible first | exact HB.out | apply below_alloc | apply pw_below_drewN | apply below_drew1) | exact HB.out)) hb); have n1_ := Aside0.mk (hbox); have n2_ := Aside0.mk ((by rw [hg]; exact (below_size (by repeat (first | (with_reducible first | exact HB.out | apply below_alloc | apply pw_below_drewN | apply below_drew1) | exact HB.out))) : w.heap.size ≤ gb187)); have n3_ := Aside0.mk ((by rw [hg]; exact (below_size (by repeat (first | (with_reducible first | exact HB.out | apply below_alloc | apply pw_below_drewN | apply below_drew1) | exact HB.out))) : w.heap.size ≤ gb187)); clear HB; have HB := n0_; have BK187 := n1_; have GW187 := n2_; have GE187 := n3_; clear n0_ n1_ n2_ n3_; clear hb hbox hg; have hcz10_0 : w9.cell? ⟨gb187, 0, none⟩ = some (.int .i64 a0_0) := (blk_cell BK187.out 0).trans rfl; have hcz10_1 : w9.cell? ⟨gb187, 1, none⟩ = some (.int .i64 a0_1) := (blk_cell BK187.out 1).trans rfl; have hfz10_0 := blk_frozen BK187.out 0; have hfz10_1 := blk_frozen BK187.out 1) | ((with_reducible refine gate_callee (f := 16) rfl ?_); refine goesL_ (some 17) rfl rfl Try.func16 (by kernel_rfl) rfl #[.agg #[.int .i64 a0_0, .int .i64 a0_1]] rfl (by (try simp only [List.map_toArray, List.map_cons, List.map_nil]); first | done | rfl | (simp only [List.length_drop, List.length_take]; rfl)) ?_; (with_reducible refine (laws_toField.calls a0_0 a0_1 t188 t189 _ A4.out).mono ?_); rintro e w11 ⟨rfl, hb⟩; refine ⟨_, rfl, ?_⟩; have n0_ := Aside0.mk (blk_below (g := gb187) (o := .cells #[.int .i64 a0_0, .int .i64 a0_1] 23 (0, 0)) (by (with_reducible repeat (first | refine blk_drewN ?_ _ | refine blk_drew ?_ | refine blk_alloc ?_ _)); exact BK187.out) hb); have n1_ := Aside0.mk (below_step (by repeat (first | (with_reducible first | exact HB.out | apply below_alloc | apply pw_below_drewN | apply below_drew1 | refine below_set ?_ GE187.out) | exact HB.out)) hb); clear BK187; clear HB; have BK187 := n0_; have HB := n1_; clear n0_ n1_; (try clear hb); (try clear hb2); (try clear hk); (try clear hi)) | ((with_reducible refine gate_callee (f := 37) rfl ?_); refine goesL_ (some 20) rfl rfl Try.func37 (by kernel_rfl) rfl #[.agg #[.int .i64 t188, .int .i64 t189], .int .i64 a1, .int .i64 a2] rfl (by (try simp only [List.map_toArray, List.map_cons, List.map_nil]); first | done | rfl | (simp only [List.length_drop, List.length_take]; rfl)) ?_; (with_reducible refine (spec_FirstGabidulin.calls k t188 t189 a1 a2 t190 t191 t192 t195 t196 _ A5.out).mono ?_); rintro e w12 ⟨v193, rfl, ho0, hb⟩; refine ⟨_, rfl, ?_⟩; have n0_ := Aside0.mk (Kd.R_lower ho0 (below_size (by repeat (first | (with_reducible first | exact HB.out | apply below_alloc | apply pw_below_drewN | apply below_drew1 | refine below_set ?_ GE187.out) | exact HB.out)))); have n1_ := Aside0.mk (blk_below (g := gb187) (o := .cells #[.int .i64 a0_0, .int .i64 a0_1] 23 (0, 0)) (by (with_reducible repeat (first | refine blk_drewN ?_ _ | refine blk_drew ?_ | refine blk_alloc ?_ _)); exact BK187.out) hb); have n2_ := Aside0.mk (below_step (by repeat (first | (with_reducible first | exact HB.out | apply below_alloc | apply pw_below_drewN | apply below_drew1 | refine below_set ?_ GE187.out) | exact HB.out)) hb); clear BK187; clear HB; have HO194 := n0_; have BK187 := n1_; have HB := n2_; clear n0_ n1_ n2_; (try clear hb); (try clear hb2); (try clear hk); (try clear hi); (try clear ho0)) | ((with_reducible refine gate_dst (N := 7) rfl ?_); refine box_event ?hg (N := 7) ?hd (cs := #[.int .i64 0, .int .i64 0, .slice none 0 0, .int .i64 0]) (t := 48) ?hr ?_; (case hd => rfl); (case hg => rfl); (case hr => first | (go_simp; done) | (go_simp; rfl)); intro gb197 hg w13 hbox hb; have n0_ := Aside0.mk (Kd.R_below (by (with_reducible repeat (first | apply Kd.R_alloc | apply Kd.R_drewN | apply Kd.R_drew)); exact HO194.out) hb); have n1_ := Aside0.mk (blk_below (g := gb187) (o := .cells #[.int .i64 a0_0, .int .i64 a0_1] 23 (0, 0)) (by (with_reducible repeat (first | refine blk_drewN ?_ _ | refine blk_drew ?_ | refine blk_alloc ?_ _)); exact BK187.out) hb); have n2_ := Aside0.mk (below_step (by repeat (first | (with_reducible first | exact HB.out | apply below_alloc | apply pw_below_drewN | apply below_drew1 | refine below_set ?_ GE187.out) | exact HB.out)) hb); have n3_ := Aside0.mk (hbox); have n4_ := Aside0.mk ((by rw [hg]; exact (below_size (by repeat (first | (with_reducible first | exact HB.out | apply below_alloc | apply pw_below_drewN | apply below_drew1 | refine below_set ?_ GE187.out) | exact HB.out))) : w.heap.size ≤ gb197)); have n5_ := Aside0.mk ((by rw [hg]; exact (below_size (by repeat (first | (with_reducible first | exact HB.out | apply below_alloc | apply pw_below_drewN | apply below_drew1 | refine below_set ?_ GE187.out) | exact HB.out))) : w.heap.size ≤ gb197)); have n6_ := Aside0.mk ((by rw [hg]; exact Nat.ne_of_lt (blk_lt (g := gb187) (o := .cells #[.int .i64 a0_0, .int .i64 a0_1] 23 (0, 0)) (by (with_reducible repeat (first | refine blk_drewN ?_ _ | refine blk_drew ?_ | refine blk_alloc ?_ _)); exact BK187.out)) : gb187 ≠ gb197)); have n7_ := Aside0.mk ((by rw [hg]; exact Nat.ne_of_gt (blk_lt (g := gb187) (o := .cells #[.int .i64 a0_0, .int .i64 a0_1] 23 (0, 0)) (by (with_reducible repeat (first | refine blk_drewN ?_ _ | refine blk_drew ?_ | refine blk_alloc ?_ _)); exact BK187.out)) : gb197 ≠ gb187)); clear HO194; clear BK187; clear HB; have HO194 := n0_; have BK187 := n1_; have HB := n2_; have BK197 := n3_; have GW197 := n4_; have GE197 := n5_; have NB187_197 := n6_; have NB197_187 := n7_; clear n0_ n1_ n2_ n3_ n4_ n5_ n6_ n7_; clear hb hbox hg; have hnb14 := NB197_187.out; have hnc14 := NB187_197.out; have hcz15_0 : w13.cell? ⟨gb197, 0, none⟩ = some (.int .i64 0) := (blk_cell BK197.out 0).trans rfl; have hcz15_1 : w13.cell? ⟨gb197, 1, none⟩ = some (.int .i64 0) := (blk_cell BK197.out 1).trans rfl; have hcz15_2 : w13.cell? ⟨gb197, 2, none⟩ = some (.slice none 0 0) := (blk_cell BK197.out 2).trans rfl; have hcz15_3 : w13.cell? ⟨gb197, 3, none⟩ = some (.int .i64 0) := (blk_cell BK197.out 3).trans rfl; have hfz15_0 := blk_frozen BK197.out 0; have hfz15_1 := blk_frozen BK197.out 1; have hfz15_2 := blk_frozen BK197.out 2; have hfz15_3 := blk_frozen BK197.out 3; obtain ⟨Ao16, co16, eo16⟩ := Kd.R_slice HO194.out; subst eo16; have hcz17_0 : w13.cell? ⟨gb187, 0, none⟩ = some (.int .i64 a0_0) := (blk_cell BK187.out 0).trans rfl; have hcz17_1 : w13.cell? ⟨gb187, 1, none⟩ = some (.int .i64 a0_1) := (blk_cell BK187.out 1).trans rfl; have hfz17_0 := blk_frozen BK187.out 0; have hfz17_1 := blk_frozen BK187.out 1) | ((with_reducible refine gate_callee (f := 16) rfl ?_); refine goesL_ (some 25) rfl rfl Try.func16 (by kernel_rfl) rfl #[.agg #[.int .i64 a0_0, .int .i64 a0_1]] rfl (by (try simp only [List.map_toArray, List.map_cons, List.map_nil]); first | done | rfl | (simp only [List.length_drop, List.length_take]; rfl)) ?_; (with_reducible refine (laws_toField.calls a0_0 a0_1 t198 t199 _ A6.out).mono ?_); rintro e w18 ⟨rfl, hb⟩; refine ⟨_, rfl, ?_⟩; have n0_ := Aside0.mk (Kd.R_below (by (with_reducible repeat (first | apply Kd.R_alloc | apply Kd.R_drewN | apply Kd.R_drew)); exact (Kd.R_mono (Kd.R_far (p := ⟨gb197, 3, none⟩) (Kd.R_far (p := ⟨gb197, 2, none⟩) (Kd.R_far (p := ⟨gb197, 1, none⟩) (Kd.R_far (p := ⟨gb197, 0, none⟩) (Kd.R_types HO194.out BK197.out (by decide)) (fun _ hk => hk.2) (.int .i64 t190)) (fun _ hk => hk.2) (.int .i64 t191)) (fun _ hk => hk.2) (.slice Ao16 t192.length co16)) (fun _ hk => hk.2) (.int .i64 t195)) (fun _ h_ => h_.1))) hb); have n1_ := Aside0.mk (blk_below (g := gb187) (o := .cells #[.int .i64 a0_0, .int .i64 a0_1] 23 (0, 0)) (by (with_reducible repeat (first | refine blk_drewN ?_ _ | refine blk_drew ?_ | refine blk_alloc ?_ _)); refine blk_far ?_ NB187_197.out _; (with_reducible repeat (first | refine blk_drewN ?_ _ | refine blk_drew ?_ | refine blk_alloc ?_ _)); refine blk_far ?_ NB187_197.out _; (with_reducible repeat (first | refine blk_drewN ?_ _ | refine blk_drew ?_ | refine blk_alloc ?_ _)); refine blk_far ?_ NB187_197.out _; (with_reducible repeat (first | refine blk_drewN ?_ _ | refine blk_drew ?_ | refine blk_alloc ?_ _)); refine blk_far ?_ NB187_197.out _; (with_reducible repeat (first | refine blk_drewN ?_ _ | refine blk_drew ?_ | refine blk_alloc ?_ _)); exact BK187.out) hb); have n2_ := Aside0.mk (blk_below (g := gb197) (o := .cells #[.int .i64 t190, .int .i64 t191, .slice Ao16 t192.length co16, .int .i64 t195] 48 (0, 0)) (by (with_reducible repeat (first | refine blk_drewN ?_ _ | refine blk_drew ?_ | refine blk_alloc ?_ _)); refine blk_put (cs := #[.int .i64 t190, .int .i64 t191, .slice Ao16 t192.length co16, .int .i64 0]) ?_ 3 _ rfl; (with_reducible repeat (first | refine blk_drewN ?_ _ | refine blk_drew ?_ | refine blk_alloc ?_ _)); refine blk_put (cs := #[.int .i64 t190, .int .i64 t191, .slice none 0 0, .int .i64 0]) ?_ 2 _ rfl; (with_reducible repeat (first | refine blk_drewN ?_ _ | refine blk_drew ?_ | refine blk_alloc ?_ _)); refine blk_put (cs := #[.int .i64 t190, .int .i64 0, .slice none 0 0, .int .i64 0]) ?_ 1 _ rfl; (with_reducible repeat (first | refine blk_drewN ?_ _ | refine blk_drew ?_ | refine blk_alloc ?_ _)); refine blk_put (cs := #[.int .i64 0, .int .i64 0, .slice none 0 0, .int .i64 0]) ?_ 0 _ rfl; (with_reducible repeat (first | refine blk_drewN ?_ _ | refine blk_drew ?_ | refine blk_alloc ?_ _)); exact BK197.out) hb); have n3_ := Aside0.mk (below_step (by repeat (first | (with_reducible first | exact HB.out | apply below_alloc | apply pw_below_drewN | apply below_drew1 | refine below_set ?_ GE187.out | refine below_set ?_ GE197.out) | exact HB.out)) hb); clear HO194; clear BK187; clear BK197; clear HB; have HO194 := n0_; have BK187 := n1_; have BK197 := n2_; have HB := n3_; clear n0_ n1_ n2_ n3_; (try clear hb); (try clear hb2); (try clear hk); (try clear hi)) | ((with_reducible refine gate_callee (f := 38) rfl ?_); refine goesL_ (some 28) rfl rfl Try.func38 (by kernel_rfl) rfl #[.agg #[.int .i64 t198, .int .i64 t199], .int .i64 a1, .int .i64 a2] rfl (by (try simp only [List.map_toArray, List.map_cons, List.map_nil]); first | done | rfl | (simp only [List.length_drop, List.length_take]; rfl)) ?_; (with_reducible refine (impl_FirstGabidulin.calls k t198 t199 a1 a2 t200 t201 t202 t205 t206 _ A7.out).mono ?_); rintro e w19 ⟨v203, rfl, ho0, hb⟩; refine ⟨_, rfl, ?_⟩; have n0_ := Aside0.mk (Kd.R_elder' (by (with_reducible repeat (first | apply Kd.R_alloc | apply Kd.R_drewN | apply Kd.R_drew)); exact HO194.out) (Kd.R_base ho0) hb); have n1_ := Aside0.mk (Kd.R_lower (Kd.R_new' ho0 (Kd.R_lt (by (with_reducible repeat (first | apply Kd.R_alloc | apply Kd.R_drewN | apply Kd.R_drew)); exact HO194.out))) (below_size (by repeat (first | (with_reducible first | exact HB.out | apply below_alloc | apply pw_below_drewN | apply below_drew1 | refine below_set ?_ GE187.out | refine below_set ?_ GE197.out) | exact HB.out)))); have n2_ := Aside0.mk (blk_below (g := gb187) (o := .cells #[.int .i64 a0_0, .int .i64 a0_1] 23 (0, 0)) (by (with_reducible repeat (first | refine blk_drewN ?_ _ | refine blk_drew ?_ | refine blk_alloc ?_ _)); exact BK187.out) hb); have n3_ := Aside0.mk (blk_below (g := gb197) (o := .cells #[.int .i64 t190, .int .i64 t191, .slice Ao16 t192.length co16, .int .i64 t195] 48 (0, 0)) (by (with_reducible repeat (first | refine blk_drewN ?_ _ | refine blk_drew ?_ | refine blk_alloc ?_ _)); exact BK197.out) hb); have n4_ := Aside0.mk (below_step (by repeat (first | (with_reducible first | exact HB.out | apply below_alloc | apply pw_below_drewN | apply below_drew1 | refine below_set ?_ GE187.out | refine below_set ?_ GE197.out) | exact HB.out)) hb); clear HO194; clear BK187; clear BK197; clear HB; have HO194 := n0_; have HO204 := n1_; have BK187 := n2_; have BK197 := n3_; have HB := n4_; clear n0_ n1_ n2_ n3_ n4_; (try clear hb); (try clear hb2); (try clear hk); (try clear hi); (try clear ho0)) | ((with_reducible refine gate_dst (N := 9) rfl ?_); refine box_event ?hg (N := 9) ?hd (cs := #[.int .i64 0, .int .i64 0, .slice none 0 0, .int .i64 0]) (t := 48) ?hr ?_; (case hd => rfl); (case hg => rfl); (case hr => first | (go_simp; done) | (go_simp; rfl)); intro gb207 hg w20 hbox hb; have n0_ := Aside0.mk (Kd.R_below (by (with_reducible repeat (first | apply Kd.R_alloc | apply Kd.R_drewN | apply Kd.R_drew)); exact HO194.out) hb); have n1_ := Aside0.mk (Kd.R_below (by (with_reducible repeat (first | apply Kd.R_alloc | apply Kd.R_drewN | apply Kd.R_drew)); exact HO204.out) hb); have n2_ := Aside0.mk (blk_below (g := gb187) (o := .cells #[.int .i64 a0_0, .int .i64 a0_1] 23 (0, 0)) (by (with_reducible repeat (first | refine blk_drewN ?_ _ | refine blk_drew ?_ | refine blk_alloc ?_ _)); exact BK187.out) hb); have n3_ := Aside0.mk (blk_below (g := gb197) (o := .cells #[.int .i64 t190, .int .i64 t191, .slice Ao16 t192.length co16, .int .i64 t195] 48 (0, 0)) (by (with_reducible repeat (first | refine blk_drewN ?_ _ | refine blk_drew ?_ | refine blk_alloc ?_ _)); exact BK197.out) hb); have n4_ := Aside0.mk (below_step (by repeat (first | (with_reducible first | exact HB.out | apply below_alloc | apply pw_below_drewN | apply below_drew1 | refine below_set ?_ GE187.out | refine below_set ?_ GE197.out) | exact HB.out)) hb); have n5_ := Aside0.mk (hbox); have n6_ := Aside0.mk ((by rw [hg]; exact (below_size (by repeat (first | (with_reducible first | exact HB.out | apply below_alloc | apply pw_below_drewN | apply below_drew1 | refine below_set ?_ GE187.out | refine below_set ?_ GE197.out) | exact HB.out))) : w.heap.size ≤ gb207)); have n7_ := Aside0.mk ((by rw [hg]; exact (below_size (by repeat (first | (with_reducible first | exact HB.out | apply below_alloc | apply pw_below_drewN | apply below_drew1 | refine below_set ?_ GE187.out | refine below_set ?_ GE197.out) | exact HB.out))) : w.heap.size ≤ gb207)); have n8_ := Aside0.mk ((by rw [hg]; exact Nat.ne_of_lt (blk_lt (g := gb187) (o := .cells #[.int .i64 a0_0, .int .i64 a0_1] 23 (0, 0)) (by (with_reducible repeat (first | refine blk_drewN ?_ _ | refine blk_drew ?_ | refine blk_alloc ?_ _)); exact BK187.out)) : gb187 ≠ gb207)); have n9_ := Aside0.mk ((by rw [hg]; exact Nat.ne_of_gt (blk_lt (g := gb187) (o := .cells #[.int .i64 a0_0, .int .i64 a0_1] 23 (0, 0)) (by (with_reducible repeat (first | refine blk_drewN ?_ _ | refine blk_drew ?_ | refine blk_alloc ?_ _)); exact BK187.out)) : gb207 ≠ gb187)); have n10_ := Aside0.mk ((by rw [hg]; exact Nat.ne_of_lt (blk_lt (g := gb197) (o := .cells #[.int .i64 t190, .int .i64 t191, .slice Ao16 t192.length co16, .int .i64 t195] 48 (0, 0)) (by (with_reducible repeat (first | refine blk_drewN ?_ _ | refine blk_drew ?_ | refine blk_alloc ?_ _)); exact BK197.out)) : gb197 ≠ gb207)); have n11_ := Aside0.mk ((by rw [hg]; exact Nat.ne_of_gt (blk_lt (g := gb197) (o := .cells #[.int .i64 t190, .int .i64 t191, .slice Ao16 t192.length co16, .int .i64 t195] 48 (0, 0)) (by (with_reducible repeat (first | refine blk_drewN ?_ _ | refine blk_drew ?_ | refine blk_alloc ?_ _)); exact BK197.out)) : gb207 ≠ gb197)); clear HO194; clear HO204; clear BK187; clear BK197; clear HB; have HO194 := n0_; have HO204 := n1_; have BK187 := n2_; have BK197 := n3_; have HB := n4_; have BK207 := n5_; have GW207 := n6_; have GE207 := n7_; have NB187_207 := n8_; have NB207_187 := n9_; have NB197_207 := n10_; have NB207_197 := n11_; clear n0_ n1_ n2_ n3_ n4_ n5_ n6_ n7_ n8_ n9_ n10_ n11_; clear hb hbox hg; have hnb21 := NB207_187.out; have hnc21 := NB187_207.out; have hnb22 := NB207_197.out; have hnc22 := NB197_207.out; have hcz23_0 : w20.cell? ⟨gb207, 0, none⟩ = some (.int .i64 0) := (blk_cell BK207.out 0).trans rfl; have hcz23_1 : w20.cell? ⟨gb207, 1, none⟩ = some (.int .i64 0) := (blk_cell BK207.out 1).trans rfl; have hcz23_2 : w20.cell? ⟨gb207, 2, none⟩ = some (.slice none 0 0) := (blk_cell BK207.out 2).trans rfl; have hcz23_3 : w20.cell? ⟨gb207, 3, none⟩ = some (.int .i64 0) := (blk_cell BK207.out 3).trans rfl; have hfz23_0 := blk_frozen BK207.out 0; have hfz23_1 := blk_frozen BK207.out 1; have hfz23_2 := blk_frozen BK207.out 2; have hfz23_3 := blk_frozen BK207.out 3; obtain ⟨Ao24, co24, eo24⟩ := Kd.R_slice HO204.out; subst eo24))
  (try simp only [Act.put, List.setIfInBounds_toArray, List.set_cons_zero, List.set_cons_succ])
  go_cut [39] (fun v39 wc => ∃ (kq : Nat) (x39_7 : Bool), v39 = .bool x39_7 ∧ Aside0 (laws_FnExactFirstGabidulin.j0 kq a1 a2 t196 x39_7 a0_0 a0_1 t190 t191 t192 t195 t200 t201 t202 t205 = some r) ∧ Aside0 (kq ≤ k) ∧ Aside0 (Kd.R (Kd.int .i64) 2 wc w.heap.size (fun k_ => some k_ ≠ ((.slice Ao24 t202.length co24) : Value).ownBlock) (.slice Ao16 t192.length co16) t192) ∧ Aside0 (Kd.R (Kd.int .i64) 2 wc w.heap.size (fun k_ => some k_ ≠ ((.slice Ao16 t192.length co16) : Value).ownBlock) (.slice Ao24 t202.length co24) t202) ∧ Aside0 (wc.heap[gb187]? = some (.cells #[.int .i64 a0_0, .int .i64 a0_1] 23 (0, 0))) ∧ Aside0 (wc.heap[gb197]? = some (.cells #[.int .i64 t190, .int .i64 t191, (.slice Ao16 t192.length co16), .int .i64 t195] 48 (0, 0))) ∧ Aside0 (wc.heap[gb207]? = some (.cells #[.int .i64 t200, .int .i64 t201, (.slice Ao24 t202.length co24), .int .i64 t205] 48 (0, 0))) ∧ Aside0 (Below w.heap.size w wc))
  case first =>
    have H := HC8.out
    clear HC8
    replace H := Option.bind_eq_some_iff.mp H
    obtain ⟨t208, A250, H⟩ := H
    replace H : (if t208 = true then (laws_FnExactFirstGabidulin.j0 k a1 a2 t196 (t206 != t196) a0_0 a0_1 t190 t191 t192 t195 t200 t201 t202 t205) else (laws_FnExactFirstGabidulin.j0 k a1 a2 t196 true a0_0 a0_1 t190 t191 t192 t195 t200 t201 t202 t205)) = some r := H
    have A25 := Aside0.mk A250
    clear A250
    by_cases c26 : t208 = true
    · subst c26
      have H1 : (laws_FnExactFirstGabidulin.j0 k a1 a2 t196 (t206 != t196) a0_0 a0_1 t190 t191 t192 t195 t200 t201 t202 t205) = some r := by rw [if_pos rfl] at H; exact H
      clear H
      have H := H1
      clear H1
      have H' := Aside0.mk H
      clear H
      have hnb27 := NB207_187.out
      have hnc27 := NB187_207.out
      have hnb28 := NB207_197.out
      have hnc28 := NB197_207.out
      have hcz29_0 : w20.cell? ⟨gb207, 0, none⟩ = some (.int .i64 0) := (blk_cell BK207.out 0).trans rfl
      have hcz29_1 : w20.cell? ⟨gb207, 1, none⟩ = some (.int .i64 0) := (blk_cell BK207.out 1).trans rfl
      have hcz29_2 : w20.cell? ⟨gb207, 2, none⟩ = some (.slice none 0 0) := (blk_cell BK207.out 2).trans rfl
      have hcz29_3 : w20.cell? ⟨gb207, 3, none⟩ = some (.int .i64 0) := (blk_cell BK207.out 3).trans rfl
      have hfz29_0 := blk_frozen BK207.out 0
      have hfz29_1 := blk_frozen BK207.out 1
      have hfz29_2 := blk_frozen BK207.out 2
      have hfz29_3 := blk_frozen BK207.out 3
      have hnb30 := NB197_187.out
      have hnc30 := NB187_197.out
      have hcz31_0 : w20.cell? ⟨gb197, 0, none⟩ = some (.int .i64 t190) := (blk_cell BK197.out 0).trans rfl
      have hcz31_1 : w20.cell? ⟨gb197, 1, none⟩ = some (.int .i64 t191) := (blk_cell BK197.out 1).trans rfl
      have hcz31_2 : w20.cell? ⟨gb197, 2, none⟩ = some (.slice Ao16 t192.length co16) := (blk_cell BK197.out 2).trans rfl
      have hcz31_3 : w20.cell? ⟨gb197, 3, none⟩ = some (.int .i64 t195) := (blk_cell BK197.out 3).trans rfl
      have hfz31_0 := blk_frozen BK197.out 0
      have hfz31_1 := blk_frozen BK197.out 1
      have hfz31_2 := blk_frozen BK197.out 2
      have hfz31_3 := blk_frozen BK197.out 3
      go_wp2_with (first | ((with_reducible refine gate_callee (f := 39) rfl ?_); refine goesL_ (some 33) rfl rfl Try.func39 (by kernel_rfl) rfl #[.agg #[.int .i64 t200, .int .i64 t201, .slice Ao24 t202.length co24, .int .i64 t205], .agg #[.int .i64 t190, .int .i64 t191, .slice Ao16 t192.length co16, .int .i64 t195]] rfl (by (try simp only [List.map_toArray, List.map_cons, List.map_nil]); first | done | rfl | (simp only [List.length_drop, List.length_take]; rfl)) ?_; (with_reducible refine (laws_eqGabidulin.calls k t200 t201 _ _ t202 t205 t190 t191 _ _ t192 t195 true _ ?side1 ?side2 ?side3 ?side4 A25.out).mono ?_); (case side1 => refine (Kd.R_reads' (e := 2) (base := w.heap.size) (ok := fun k_ => (True ∧ some k_ ≠ (.slice Ao16 t192.length co16 : Value).ownBlock)) (n := t202.length) (c := co24) ?_).2.2; exact (by (with_reducible repeat (first | apply Kd.R_alloc | apply Kd.R_drewN | apply Kd.R_drew)); exact (Kd.R_mono (Kd.R_far (p := ⟨gb207, 3, none⟩) (Kd.R_far (p := ⟨gb207, 2, none⟩) (Kd.R_far (p := ⟨gb207, 1, none⟩) (Kd.R_far (p := ⟨gb207, 0, none⟩) (Kd.R_types HO204.out BK207.out (by decide)) (fun _ hk => hk.2) (.int .i64 t200)) (fun _ hk => hk.2) (.int .i64 t201)) (fun _ hk => hk.2) (.slice Ao24 t202.length co24)) (fun _ hk => hk.2) (.int .i64 t205)) (fun _ h_ => h_.1)))); (case side2 => exact (Kd.R_reads' HO204.out).2.1); (case side3 => refine (Kd.R_reads' (e := 2) (base := w.heap.size) (ok := fun k_ => (True ∧ some k_ ≠ (.slice Ao24 t202.length co24 : Value).ownBlock)) (n := t192.length) (c := co16) ?_).2.2; exact (by (with_reducible repeat (first | apply Kd.R_alloc | apply Kd.R_drewN | apply Kd.R_drew)); exact (Kd.R_mono (Kd.R_far (p := ⟨gb207, 3, none⟩) (Kd.R_far (p := ⟨gb207, 2, none⟩) (Kd.R_far (p := ⟨gb207, 1, none⟩) (Kd.R_far (p := ⟨gb207, 0, none⟩) (Kd.R_types HO194.out BK207.out (by decide)) (fun _ hk => hk.2) (.int .i64 t200)) (fun _ hk => hk.2) (.int .i64 t201)) (fun _ hk => hk.2) (.slice Ao24 t202.length co24)) (fun _ hk => hk.2) (.int .i64 t205)) (fun _ h_ => h_.1)))); (case side4 => exact (Kd.R_reads' HO194.out).2.1); rintro e w32 ⟨rfl, hb⟩; refine ⟨_, rfl, ?_⟩; have n0_ := Aside0.mk (Kd.R_below (by (with_reducible repeat (first | apply Kd.R_alloc | apply Kd.R_drewN | apply Kd.R_drew)); exact (Kd.R_mono (Kd.R_far (p := ⟨gb207, 3, none⟩) (Kd.R_far (p := ⟨gb207, 2, none⟩) (Kd.R_far (p := ⟨gb207, 1, none⟩) (Kd.R_far (p := ⟨gb207, 0, none⟩) (Kd.R_types HO194.out BK207.out (by decide)) (fun _ hk => hk.2) (.int .i64 t200)) (fun _ hk => hk.2) (.int .i64 t201)) (fun _ hk => hk.2) (.slice Ao24 t202.length co24)) (fun _ hk => hk.2) (.int .i64 t205)) (fun _ h_ => h_.1))) hb); have n1_ := Aside0.mk (Kd.R_below (by (with_reducible repeat (first | apply Kd.R_alloc | apply Kd.R_drewN | apply Kd.R_drew)); exact (Kd.R_mono (Kd.R_far (p := ⟨gb207, 3, none⟩) (Kd.R_far (p := ⟨gb207, 2, none⟩) (Kd.R_far (p := ⟨gb207, 1, none⟩) (Kd.R_far (p := ⟨gb207, 0, none⟩) (Kd.R_types HO204.out BK207.out (by decide)) (fun _ hk => hk.2) (.int .i64 t200)) (fun _ hk => hk.2) (.int .i64 t201)) (fun _ hk => hk.2) (.slice Ao24 t202.length co24)) (fun _ hk => hk.2) (.int .i64 t205)) (fun _ h_ => h_.1))) hb); have n2_ := Aside0.mk (blk_below (g := gb187) (o := .cells #[.int .i64 a0_0, .int .i64 a0_1] 23 (0, 0)) (by (with_reducible repeat (first | refine blk_drewN ?_ _ | refine blk_drew ?_ | refine blk_alloc ?_ _)); refine blk_far ?_ NB187_207.out _; (with_reducible repeat (first | refine blk_drewN ?_ _ | refine blk_drew ?_ | refine blk_alloc ?_ _)); refine blk_far ?_ NB187_207.out _; (with_reducible repeat (first | refine blk_drewN ?_ _ | refine blk_drew ?_ | refine blk_alloc ?_ _)); refine blk_far ?_ NB187_207.out _; (with_reducible repeat (first | refine blk_drewN ?_ _ | refine blk_drew ?_ | refine blk_alloc ?_ _)); refine blk_far ?_ NB187_207.out _; (with_reducible repeat (first | refine blk_drewN ?_ _ | refine blk_drew ?_ | refine blk_alloc ?_ _)); exact BK187.out) hb); have n3_ := Aside0.mk (blk_below (g := gb197) (o := .cells #[.int .i64 t190, .int .i64 t191, .slice Ao16 t192.length co16, .int .i64 t195] 48 (0, 0)) (by (with_reducible repeat (first | refine blk_drewN ?_ _ | refine blk_drew ?_ | refine blk_alloc ?_ _)); refine blk_far ?_ NB197_207.out _; (with_reducible repeat (first | refine blk_drewN ?_ _ | refine blk_drew ?_ | refine blk_alloc ?_ _)); refine blk_far ?_ NB197_207.out _; (with_reducible repeat (first | refine blk_drewN ?_ _ | refine blk_drew ?_ | refine blk_alloc ?_ _)); refine blk_far ?_ NB197_207.out _; (with_reducible repeat (first | refine blk_drewN ?_ _ | refine blk_drew ?_ | refine blk_alloc ?_ _)); refine blk_far ?_ NB197_207.out _; (with_reducible repeat (first | refine blk_drewN ?_ _ | refine blk_drew ?_ | refine blk_alloc ?_ _)); exact BK197.out) hb); have n4_ := Aside0.mk (blk_below (g := gb207) (o := .cells #[.int .i64 t200, .int .i64 t201, .slice Ao24 t202.length co24, .int .i64 t205] 48 (0, 0)) (by (with_reducible repeat (first | refine blk_drewN ?_ _ | refine blk_drew ?_ | refine blk_alloc ?_ _)); refine blk_put (cs := #[.int .i64 t200, .int .i64 t201, .slice Ao24 t202.length co24, .int .i64 0]) ?_ 3 _ rfl; (with_reducible repeat (first | refine blk_drewN ?_ _ | refine blk_drew ?_ | refine blk_alloc ?_ _)); refine blk_put (cs := #[.int .i64 t200, .int .i64 t201, .slice none 0 0, .int .i64 0]) ?_ 2 _ rfl; (with_reducible repeat (first | refine blk_drewN ?_ _ | refine blk_drew ?_ | refine blk_alloc ?_ _)); refine blk_put (cs := #[.int .i64 t200, .int .i64 0, .slice none 0 0, .int .i64 0]) ?_ 1 _ rfl; (with_reducible repeat (first | refine blk_drewN ?_ _ | refine blk_drew ?_ | refine blk_alloc ?_ _)); refine blk_put (cs := #[.int .i64 0, .int .i64 0, .slice none 0 0, .int .i64 0]) ?_ 0 _ rfl; (with_reducible repeat (first | refine blk_drewN ?_ _ | refine blk_drew ?_ | refine blk_alloc ?_ _)); exact BK207.out) hb); have n5_ := Aside0.mk (below_step (by repeat (first | (with_reducible first | exact HB.out | apply below_alloc | apply pw_below_drewN | apply below_drew1 | refine below_set ?_ GE187.out | refine below_set ?_ GE197.out | refine below_set ?_ GE207.out) | exact HB.out)) hb); clear HO194; clear HO204; clear BK187; clear BK197; clear BK207; clear HB; have HO194 := n0_; have HO204 := n1_; have BK187 := n2_; have BK197 := n3_; have BK207 := n4_; have HB := n5_; clear n0_ n1_ n2_ n3_ n4_ n5_; (try clear hb); (try clear hb2); (try clear hk); (try clear hi)))
      go_meet
      case rel => exact ⟨_, ((t206 != t196)), (by first | rfl | (simp; done) | (simp [*]; done)), H', ⟨by first | omega | exact Nat.le_refl _⟩, ⟨by (with_reducible repeat (first | apply Kd.R_alloc | apply Kd.R_drewN | apply Kd.R_drew)); exact Kd.R_mono HO194.out (fun _ hk => hk.2)⟩, ⟨by (with_reducible repeat (first | apply Kd.R_alloc | apply Kd.R_drewN | apply Kd.R_drew)); exact Kd.R_mono HO204.out (fun _ hk => hk.2)⟩, ⟨by (with_reducible repeat (first | refine blk_drewN ?_ _ | refine blk_drew ?_ | refine blk_alloc ?_ _)); exact BK187.out⟩, ⟨by (with_reducible repeat (first | refine blk_drewN ?_ _ | refine blk_drew ?_ | refine blk_alloc ?_ _)); exact BK197.out⟩, ⟨by (with_reducible repeat (first | refine blk_drewN ?_ _ | refine blk_drew ?_ | refine blk_alloc ?_ _)); exact BK207.out⟩, ⟨by repeat (first | (with_reducible first | exact HB.out | apply below_alloc | apply pw_below_drewN | apply below_drew1 | refine below_set ?_ GE187.out | refine below_set ?_ GE197.out | refine below_set ?_ GE207.out) | exact HB.out)⟩⟩
    · replace c26 := Bool.eq_false_iff.mpr c26
      subst c26
      have H1 : (laws_FnExactFirstGabidulin.j0 k a1 a2 t196 true a0_0 a0_1 t190 t191 t192 t195 t200 t201 t202 t205) = some r := by rw [if_neg (show ¬ (false = true) by decide)] at H; exact H
      clear H
      have H := H1
      clear H1
      have H' := Aside0.mk H
      clear H
      have hnb33 := NB207_187.out
      have hnc33 := NB187_207.out
      have hnb34 := NB207_197.out
      have hnc34 := NB197_207.out
      have hcz35_0 : w20.cell? ⟨gb207, 0, none⟩ = some (.int .i64 0) := (blk_cell BK207.out 0).trans rfl
      have hcz35_1 : w20.cell? ⟨gb207, 1, none⟩ = some (.int .i64 0) := (blk_cell BK207.out 1).trans rfl
      have hcz35_2 : w20.cell? ⟨gb207, 2, none⟩ = some (.slice none 0 0) := (blk_cell BK207.out 2).trans rfl
      have hcz35_3 : w20.cell? ⟨gb207, 3, none⟩ = some (.int .i64 0) := (blk_cell BK207.out 3).trans rfl
      have hfz35_0 := blk_frozen BK207.out 0
      have hfz35_1 := blk_frozen BK207.out 1
      have hfz35_2 := blk_frozen BK207.out 2
      have hfz35_3 := blk_frozen BK207.out 3
      have hnb36 := NB197_187.out
      have hnc36 := NB187_197.out
      have hcz37_0 : w20.cell? ⟨gb197, 0, none⟩ = some (.int .i64 t190) := (blk_cell BK197.out 0).trans rfl
      have hcz37_1 : w20.cell? ⟨gb197, 1, none⟩ = some (.int .i64 t191) := (blk_cell BK197.out 1).trans rfl
      have hcz37_2 : w20.cell? ⟨gb197, 2, none⟩ = some (.slice Ao16 t192.length co16) := (blk_cell BK197.out 2).trans rfl
      have hcz37_3 : w20.cell? ⟨gb197, 3, none⟩ = some (.int .i64 t195) := (blk_cell BK197.out 3).trans rfl
      have hfz37_0 := blk_frozen BK197.out 0
      have hfz37_1 := blk_frozen BK197.out 1
      have hfz37_2 := blk_frozen BK197.out 2
      have hfz37_3 := blk_frozen BK197.out 3
      go_wp2_with (first | ((with_reducible refine gate_callee (f := 39) rfl ?_); refine goesL_ (some 33) rfl rfl Try.func39 (by kernel_rfl) rfl #[.agg #[.int .i64 t200, .int .i64 t201, .slice Ao24 t202.length co24, .int .i64 t205], .agg #[.int .i64 t190, .int .i64 t191, .slice Ao16 t192.length co16, .int .i64 t195]] rfl (by (try simp only [List.map_toArray, List.map_cons, List.map_nil]); first | done | rfl | (simp only [List.length_drop, List.length_take]; rfl)) ?_; (with_reducible refine (laws_eqGabidulin.calls k t200 t201 _ _ t202 t205 t190 t191 _ _ t192 t195 false _ ?side1 ?side2 ?side3 ?side4 A25.out).mono ?_); (case side1 => refine (Kd.R_reads' (e := 2) (base := w.heap.size) (ok := fun k_ => (True ∧ some k_ ≠ (.slice Ao16 t192.length co16 : Value).ownBlock)) (n := t202.length) (c := co24) ?_).2.2; exact (by (with_reducible repeat (first | apply Kd.R_alloc | apply Kd.R_drewN | apply Kd.R_drew)); exact (Kd.R_mono (Kd.R_far (p := ⟨gb207, 3, none⟩) (Kd.R_far (p := ⟨gb207, 2, none⟩) (Kd.R_far (p := ⟨gb207, 1, none⟩) (Kd.R_far (p := ⟨gb207, 0, none⟩) (Kd.R_types HO204.out BK207.out (by decide)) (fun _ hk => hk.2) (.int .i64 t200)) (fun _ hk => hk.2) (.int .i64 t201)) (fun _ hk => hk.2) (.slice Ao24 t202.length co24)) (fun _ hk => hk.2) (.int .i64 t205)) (fun _ h_ => h_.1)))); (case side2 => exact (Kd.R_reads' HO204.out).2.1); (case side3 => refine (Kd.R_reads' (e := 2) (base := w.heap.size) (ok := fun k_ => (True ∧ some k_ ≠ (.slice Ao24 t202.length co24 : Value).ownBlock)) (n := t192.length) (c := co16) ?_).2.2; exact (by (with_reducible repeat (first | apply Kd.R_alloc | apply Kd.R_drewN | apply Kd.R_drew)); exact (Kd.R_mono (Kd.R_far (p := ⟨gb207, 3, none⟩) (Kd.R_far (p := ⟨gb207, 2, none⟩) (Kd.R_far (p := ⟨gb207, 1, none⟩) (Kd.R_far (p := ⟨gb207, 0, none⟩) (Kd.R_types HO194.out BK207.out (by decide)) (fun _ hk => hk.2) (.int .i64 t200)) (fun _ hk => hk.2) (.int .i64 t201)) (fun _ hk => hk.2) (.slice Ao24 t202.length co24)) (fun _ hk => hk.2) (.int .i64 t205)) (fun _ h_ => h_.1)))); (case side4 => exact (Kd.R_reads' HO194.out).2.1); rintro e w38 ⟨rfl, hb⟩; refine ⟨_, rfl, ?_⟩; have n0_ := Aside0.mk (Kd.R_below (by (with_reducible repeat (first | apply Kd.R_alloc | apply Kd.R_drewN | apply Kd.R_drew)); exact (Kd.R_mono (Kd.R_far (p := ⟨gb207, 3, none⟩) (Kd.R_far (p := ⟨gb207, 2, none⟩) (Kd.R_far (p := ⟨gb207, 1, none⟩) (Kd.R_far (p := ⟨gb207, 0, none⟩) (Kd.R_types HO194.out BK207.out (by decide)) (fun _ hk => hk.2) (.int .i64 t200)) (fun _ hk => hk.2) (.int .i64 t201)) (fun _ hk => hk.2) (.slice Ao24 t202.length co24)) (fun _ hk => hk.2) (.int .i64 t205)) (fun _ h_ => h_.1))) hb); have n1_ := Aside0.mk (Kd.R_below (by (with_reducible repeat (first | apply Kd.R_alloc | apply Kd.R_drewN | apply Kd.R_drew)); exact (Kd.R_mono (Kd.R_far (p := ⟨gb207, 3, none⟩) (Kd.R_far (p := ⟨gb207, 2, none⟩) (Kd.R_far (p := ⟨gb207, 1, none⟩) (Kd.R_far (p := ⟨gb207, 0, none⟩) (Kd.R_types HO204.out BK207.out (by decide)) (fun _ hk => hk.2) (.int .i64 t200)) (fun _ hk => hk.2) (.int .i64 t201)) (fun _ hk => hk.2) (.slice Ao24 t202.length co24)) (fun _ hk => hk.2) (.int .i64 t205)) (fun _ h_ => h_.1))) hb); have n2_ := Aside0.mk (blk_below (g := gb187) (o := .cells #[.int .i64 a0_0, .int .i64 a0_1] 23 (0, 0)) (by (with_reducible repeat (first | refine blk_drewN ?_ _ | refine blk_drew ?_ | refine blk_alloc ?_ _)); refine blk_far ?_ NB187_207.out _; (with_reducible repeat (first | refine blk_drewN ?_ _ | refine blk_drew ?_ | refine blk_alloc ?_ _)); refine blk_far ?_ NB187_207.out _; (with_reducible repeat (first | refine blk_drewN ?_ _ | refine blk_drew ?_ | refine blk_alloc ?_ _)); refine blk_far ?_ NB187_207.out _; (with_reducible repeat (first | refine blk_drewN ?_ _ | refine blk_drew ?_ | refine blk_alloc ?_ _)); refine blk_far ?_ NB187_207.out _; (with_reducible repeat (first | refine blk_drewN ?_ _ | refine blk_drew ?_ | refine blk_alloc ?_ _)); exact BK187.out) hb); have n3_ := Aside0.mk (blk_below (g := gb197) (o := .cells #[.int .i64 t190, .int .i64 t191, .slice Ao16 t192.length co16, .int .i64 t195] 48 (0, 0)) (by (with_reducible repeat (first | refine blk_drewN ?_ _ | refine blk_drew ?_ | refine blk_alloc ?_ _)); refine blk_far ?_ NB197_207.out _; (with_reducible repeat (first | refine blk_drewN ?_ _ | refine blk_drew ?_ | refine blk_alloc ?_ _)); refine blk_far ?_ NB197_207.out _; (with_reducible repeat (first | refine blk_drewN ?_ _ | refine blk_drew ?_ | refine blk_alloc ?_ _)); refine blk_far ?_ NB197_207.out _; (with_reducible repeat (first | refine blk_drewN ?_ _ | refine blk_drew ?_ | refine blk_alloc ?_ _)); refine blk_far ?_ NB197_207.out _; (with_reducible repeat (first | refine blk_drewN ?_ _ | refine blk_drew ?_ | refine blk_alloc ?_ _)); exact BK197.out) hb); have n4_ := Aside0.mk (blk_below (g := gb207) (o := .cells #[.int .i64 t200, .int .i64 t201, .slice Ao24 t202.length co24, .int .i64 t205] 48 (0, 0)) (by (with_reducible repeat (first | refine blk_drewN ?_ _ | refine blk_drew ?_ | refine blk_alloc ?_ _)); refine blk_put (cs := #[.int .i64 t200, .int .i64 t201, .slice Ao24 t202.length co24, .int .i64 0]) ?_ 3 _ rfl; (with_reducible repeat (first | refine blk_drewN ?_ _ | refine blk_drew ?_ | refine blk_alloc ?_ _)); refine blk_put (cs := #[.int .i64 t200, .int .i64 t201, .slice none 0 0, .int .i64 0]) ?_ 2 _ rfl; (with_reducible repeat (first | refine blk_drewN ?_ _ | refine blk_drew ?_ | refine blk_alloc ?_ _)); refine blk_put (cs := #[.int .i64 t200, .int .i64 0, .slice none 0 0, .int .i64 0]) ?_ 1 _ rfl; (with_reducible repeat (first | refine blk_drewN ?_ _ | refine blk_drew ?_ | refine blk_alloc ?_ _)); refine blk_put (cs := #[.int .i64 0, .int .i64 0, .slice none 0 0, .int .i64 0]) ?_ 0 _ rfl; (with_reducible repeat (first | refine blk_drewN ?_ _ | refine blk_drew ?_ | refine blk_alloc ?_ _)); exact BK207.out) hb); have n5_ := Aside0.mk (below_step (by repeat (first | (with_reducible first | exact HB.out | apply below_alloc | apply pw_below_drewN | apply below_drew1 | refine below_set ?_ GE187.out | refine below_set ?_ GE197.out | refine below_set ?_ GE207.out) | exact HB.out)) hb); clear HO194; clear HO204; clear BK187; clear BK197; clear BK207; clear HB; have HO194 := n0_; have HO204 := n1_; have BK187 := n2_; have BK197 := n3_; have BK207 := n4_; have HB := n5_; clear n0_ n1_ n2_ n3_ n4_ n5_; (try clear hb); (try clear hb2); (try clear hk); (try clear hi)))
      go_meet
      case rel => exact ⟨_, (true), (by first | rfl | (simp; done) | (simp [*]; done)), H', ⟨by first | omega | exact Nat.le_refl _⟩, ⟨by (with_reducible repeat (first | apply Kd.R_alloc | apply Kd.R_drewN | apply Kd.R_drew)); exact Kd.R_mono HO194.out (fun _ hk => hk.2)⟩, ⟨by (with_reducible repeat (first | apply Kd.R_alloc | apply Kd.R_drewN | apply Kd.R_drew)); exact Kd.R_mono HO204.out (fun _ hk => hk.2)⟩, ⟨by (with_reducible repeat (first | refine blk_drewN ?_ _ | refine blk_drew ?_ | refine blk_alloc ?_ _)); exact BK187.out⟩, ⟨by (with_reducible repeat (first | refine blk_drewN ?_ _ | refine blk_drew ?_ | refine blk_alloc ?_ _)); exact BK197.out⟩, ⟨by (with_reducible repeat (first | refine blk_drewN ?_ _ | refine blk_drew ?_ | refine blk_alloc ?_ _)); exact BK207.out⟩, ⟨by repeat (first | (with_reducible first | exact HB.out | apply below_alloc | apply pw_below_drewN | apply below_drew1 | refine below_set ?_ GE187.out | refine below_set ?_ GE197.out | refine below_set ?_ GE207.out) | exact HB.out)⟩⟩
  case rest =>
    clear HC8
    try clear c1
    try clear c2
    try clear p2
    try clear c3
    try clear c9
    try clear c14
    try clear c16
    try clear c21
    try clear c22
    try clear c26
    try clear c27
    try clear c28
    try clear c30
    try clear c33
    try clear c34
    try clear c36
    try clear c37
    try clear c38
    try clear hcz10_0
    try clear hcz10_1
    try clear hcz15_0
    try clear hcz15_1
    try clear hcz15_2
    try clear hcz15_3
    try clear hcz17_0
    try clear hcz17_1
    try clear hcz23_0
    try clear hcz23_1
    try clear hcz23_2
    try clear hcz23_3
    try clear hcz29_0
    try clear hcz29_1
    try clear hcz29_2
    try clear hcz29_3
    try clear hcz31_0
    try clear hcz31_1
    try clear hcz31_2
    try clear hcz31_3
    try clear hcz35_0
    try clear hcz35_1
    try clear hcz35_2
    try clear hcz35_3
    try clear hcz37_0
    try clear hcz37_1
    try clear hcz37_2
    try clear hcz37_3
    try clear hfz10_0
    try clear hfz10_1
    try clear hfz15_0
    try clear hfz15_1
    try clear hfz15_2
    try clear hfz15_3
    try clear hfz17_0
    try clear hfz17_1
    try clear hfz23_0
    try clear hfz23_1
    try clear hfz23_2
    try clear hfz23_3
    try clear hfz29_0
    try clear hfz29_1
    try clear hfz29_2
    try clear hfz29_3
    try clear hfz31_0
    try clear hfz31_1
    try clear hfz31_2
    try clear hfz31_3
    try clear hfz35_0
    try clear hfz35_1
    try clear hfz35_2
    try clear hfz35_3
    try clear hfz37_0
    try clear hfz37_1
    try clear hfz37_2
    try clear hfz37_3
    obtain ⟨kq, x39_7, rfl, HA, HJ7, HO_198002, HO_208002, BK187, BK197, BK207, HB⟩ := hcut
    cases kq with
    | zero => exact absurd HA.out (by simp [laws_FnExactFirstGabidulin.j0])
    | succ kj7 =>
      have H := HA.out
      clear HA
      simp only [laws_FnExactFirstGabidulin.j0] at H
      by_cases c39 : x39_7 = true
      · subst c39
        have H1 : (some false) = some r := by rw [if_pos rfl] at H; exact H
        clear H
        have H := H1
        clear H1
        obtain rfl := Option.some.inj H
        go_wp2
        go_ret
        exact ⟨by first | rfl | (simp [errW_none, errW_some] <;> rfl) | (simp [*, errW_none, errW_some] <;> rfl), by repeat (first | (with_reducible first | exact HB.out | apply below_alloc | apply pw_below_drewN | apply below_drew1 | refine below_set ?_ GE187.out | refine below_set ?_ GE197.out | refine below_set ?_ GE207.out) | exact HB.out)⟩
      · replace c39 := Bool.eq_false_iff.mpr c39
        subst c39
        have H1 : ((laws_markGabidulin.f kj7 t200 t201 t202 t205 1).bind fun bt209 => ((laws_heldGabidulin.f kj7 t200 t201 bt209.2 t205 1).bind fun t211 => (if t211 < 0 then (some false) else (if t211 = bt209.1 then ((laws_toField.f a0_0 a0_1).bind fun bt212 => ((impl_FirstGabidulin.f kj7 bt212.1 bt212.2 a1 a2).bind fun bt214 => ((laws_eqGabidulin.f kj7 bt214.1 bt214.2.1 bt214.2.2.1 bt214.2.2.2.1 t190 t191 t192 t195).bind fun t222 => (if t222 = true then (laws_FnExactFirstGabidulin.j1 kj7 bt209.1 (bt214.2.2.2.2 != t196) t200 t201 bt209.2 t205) else (laws_FnExactFirstGabidulin.j1 kj7 bt209.1 true t200 t201 bt209.2 t205))))) else (some false))))) = some r := by rw [if_neg (show ¬ (false = true) by decide)] at H; exact H
        clear H
        have H := H1
        clear H1
        replace H := Option.bind_eq_some_iff.mp H
        obtain ⟨⟨t209, t210⟩, A400, H⟩ := H
        replace H : ((laws_heldGabidulin.f kj7 t200 t201 t210 t205 1).bind fun t211 => (if t211 < 0 then (some false) else (if t211 = t209 then ((laws_toField.f a0_0 a0_1).bind fun bt212 => ((impl_FirstGabidulin.f kj7 bt212.1 bt212.2 a1 a2).bind fun bt214 => ((laws_eqGabidulin.f kj7 bt214.1 bt214.2.1 bt214.2.2.1 bt214.2.2.2.1 t190 t191 t192 t195).bind fun t222 => (if t222 = true then (laws_FnExactFirstGabidulin.j1 kj7 t209 (bt214.2.2.2.2 != t196) t200 t201 t210 t205) else (laws_FnExactFirstGabidulin.j1 kj7 t209 true t200 t201 t210 t205))))) else (some false)))) = some r := H
        have A40 := Aside0.mk A400
        clear A400
        replace H := Option.bind_eq_some_iff.mp H
        obtain ⟨t211, A410, H⟩ := H
        replace H : (if t211 < 0 then (some false) else (if t211 = t209 then ((laws_toField.f a0_0 a0_1).bind fun bt212 => ((impl_FirstGabidulin.f kj7 bt212.1 bt212.2 a1 a2).bind fun bt214 => ((laws_eqGabidulin.f kj7 bt214.1 bt214.2.1 bt214.2.2.1 bt214.2.2.2.1 t190 t191 t192 t195).bind fun t222 => (if t222 = true then (laws_FnExactFirstGabidulin.j1 kj7 t209 (bt214.2.2.2.2 != t196) t200 t201 t210 t205) else (laws_FnExactFirstGabidulin.j1 kj7 t209 true t200 t201 t210 t205))))) else (some false))) = some r := H
        have A41 := Aside0.mk A410
        clear A410
        by_cases c42 : t211 < 0
        · rw [if_pos c42] at H
          have c42b0 : decide (t211 < 0) = true := decide_eq_true c42
          clear c42
          obtain rfl := Option.some.inj H
          have hnb43 := NB207_187.out
          have hnc43 := NB187_207.out
          have hnb44 := NB207_197.out
          have hnc44 := NB197_207.out
          have hcz45_0 : wc.cell? ⟨gb207, 0, none⟩ = some (.int .i64 t200) := (blk_cell BK207.out 0).trans rfl
          have hcz45_1 : wc.cell? ⟨gb207, 1, none⟩ = some (.int .i64 t201) := (blk_cell BK207.out 1).trans rfl
          have hcz45_2 : wc.cell? ⟨gb207, 2, none⟩ = some (.slice Ao24 t202.length co24) := (blk_cell BK207.out 2).trans rfl
          have hcz45_3 : wc.cell? ⟨gb207, 3, none⟩ = some (.int .i64 t205) := (blk_cell BK207.out 3).trans rfl
          have hfz45_0 := blk_frozen BK207.out 0
          have hfz45_1 := blk_frozen BK207.out 1
          have hfz45_2 := blk_frozen BK207.out 2
          have hfz45_3 := blk_frozen BK207.out 3
          go_wp2_with (first | ((with_reducible refine gate_callee (f := 40) rfl ?_); refine goesL_ (some 42) rfl rfl Try.func40 (by kernel_rfl) rfl #[.agg #[.int .i64 t200, .int .i64 t201, .slice Ao24 t202.length co24, .int .i64 t205], .int .i64 1] rfl (by (try simp only [List.map_toArray, List.map_cons, List.map_nil]); first | done | rfl | (simp only [List.length_drop, List.length_take]; rfl)) ?_; (with_reducible refine (laws_markGabidulin.calls kj7 t200 t201 (fun k_ => some k_ = (.slice Ao24 t202.length co24 : Value).ownBlock) (.slice Ao24 t202.length co24) t202 t205 1 t209 t210 w _ ?side1 ?side2 A40.out).mono ?_); (case side1 => repeat (first | (with_reducible first | exact HB.out | apply below_alloc | apply pw_below_drewN | apply below_drew1 | refine below_set ?_ GE187.out | refine below_set ?_ GE197.out | refine below_set ?_ GE207.out) | exact HB.out)); (case side2 => exact Kd.R_tight rfl HO_208002.out); rintro e w46 ⟨rfl, hy0, hb, hkp⟩; refine ⟨_, rfl, ?_⟩; have n0_ := Aside0.mk (Kd.R_mono (ok' := fun k_ => some k_ ≠ (.slice Ao24 t202.length co24 : Value).ownBlock) (Kd.R_keptB (HO_198002.out) hkp (fun k_ hk_ hs_ => (hk_) hs_)) (fun k_ hk_ => hk_.1)); have n1_ := Aside0.mk (Kd.R_reok rfl hy0 (fun k_ e_ => HO_208002.out.1 k_ e_)); have n2_ := Aside0.mk (blk_kept (by (with_reducible repeat (first | refine blk_drewN ?_ _ | refine blk_drew ?_ | refine blk_alloc ?_ _)); exact BK187.out) hkp (fun hs_ => (fun e_ => (Kd.R_ne HO_208002.out BK187.out (by decide)) e_) hs_)); have n3_ := Aside0.mk (blk_kept (by (with_reducible repeat (first | refine blk_drewN ?_ _ | refine blk_drew ?_ | refine blk_alloc ?_ _)); exact BK197.out) hkp (fun hs_ => (fun e_ => (Kd.R_ne HO_208002.out BK197.out (by decide)) e_) hs_)); have n4_ := Aside0.mk (blk_kept (by (with_reducible repeat (first | refine blk_drewN ?_ _ | refine blk_drew ?_ | refine blk_alloc ?_ _)); exact BK207.out) hkp (fun hs_ => (fun e_ => (Kd.R_ne HO_208002.out BK207.out (by decide)) e_) hs_)); have n5_ := Aside0.mk (hb); clear HO_198002; clear HO_208002; clear BK187; clear BK197; clear BK207; clear HB; have HO_198002 := n0_; have HO_208002 := n1_; have BK187 := n2_; have BK197 := n3_; have BK207 := n4_; have HB := n5_; clear n0_ n1_ n2_ n3_ n4_ n5_; (try clear hb); (try clear hkp); (try clear hy0); have hcz47_0 : w46.cell? ⟨gb207, 0, none⟩ = some (.int .i64 t200) := (blk_cell BK207.out 0).trans rfl; have hcz47_1 : w46.cell? ⟨gb207, 1, none⟩ = some (.int .i64 t201) := (blk_cell BK207.out 1).trans rfl; have hcz47_2 : w46.cell? ⟨gb207, 2, none⟩ = some (.slice Ao24 t202.length co24) := (blk_cell BK207.out 2).trans rfl; have hcz47_3 : w46.cell? ⟨gb207, 3, none⟩ = some (.int .i64 t205) := (blk_cell BK207.out 3).trans rfl; have hfz47_0 := blk_frozen BK207.out 0; have hfz47_1 := blk_frozen BK207.out 1; have hfz47_2 := blk_frozen BK207.out 2; have hfz47_3 := blk_frozen BK207.out 3) | ((with_reducible refine gate_callee (f := 41) rfl ?_); refine goesL_ (some 45) rfl rfl Try.func41 (by kernel_rfl) rfl #[.agg #[.int .i64 t200, .int .i64 t201, .slice Ao24 t210.length co24, .int .i64 t205], .int .i64 1] rfl (by (try simp only [List.map_toArray, List.map_cons, List.map_nil]); first | done | (rw [show t210.length = t202.length from (Kd.R_reads' HO_208002.out).1.symm] <;> rfl) | rfl | (simp only [List.length_drop, List.length_take]; rfl)) ?_; (with_reducible refine (laws_heldGabidulin.calls kj7 t200 t201 _ _ t210 t205 1 t211 _ ?side1 ?side2 A41.out).mono ?_); (case side1 => repeat (first | exact (Kd.R_reads' HO_208002.out).2.2 | (with_reducible refine Kd.C_alloc ?_ _) | (with_reducible refine Kd.C_drewN ?_ _) | (with_reducible refine Kd.C_drew ?_))); (case side2 => rw [show t210.length = t202.length from (Kd.R_reads' HO_208002.out).1.symm]; exact (Kd.R_reads' HO_208002.out).2.1); rintro e w48 ⟨rfl, hb⟩; refine ⟨_, rfl, ?_⟩; have n0_ := Aside0.mk (Kd.R_below (by (with_reducible repeat (first | apply Kd.R_alloc | apply Kd.R_drewN | apply Kd.R_drew)); exact HO_198002.out) hb); have n1_ := Aside0.mk (Kd.R_below (by (with_reducible repeat (first | apply Kd.R_alloc | apply Kd.R_drewN | apply Kd.R_drew)); exact HO_208002.out) hb); have n2_ := Aside0.mk (blk_below (g := gb187) (o := .cells #[.int .i64 a0_0, .int .i64 a0_1] 23 (0, 0)) (by (with_reducible repeat (first | refine blk_drewN ?_ _ | refine blk_drew ?_ | refine blk_alloc ?_ _)); exact BK187.out) hb); have n3_ := Aside0.mk (blk_below (g := gb197) (o := .cells #[.int .i64 t190, .int .i64 t191, .slice Ao16 t192.length co16, .int .i64 t195] 48 (0, 0)) (by (with_reducible repeat (first | refine blk_drewN ?_ _ | refine blk_drew ?_ | refine blk_alloc ?_ _)); exact BK197.out) hb); have n4_ := Aside0.mk (blk_below (g := gb207) (o := .cells #[.int .i64 t200, .int .i64 t201, .slice Ao24 t202.length co24, .int .i64 t205] 48 (0, 0)) (by (with_reducible repeat (first | refine blk_drewN ?_ _ | refine blk_drew ?_ | refine blk_alloc ?_ _)); exact BK207.out) hb); have n5_ := Aside0.mk (below_step (by repeat (first | (with_reducible first | exact HB.out | apply below_alloc | apply pw_below_drewN | apply below_drew1 | refine below_set ?_ GE187.out | refine below_set ?_ GE197.out | refine below_set ?_ GE207.out) | exact HB.out)) hb); clear HO_198002; clear HO_208002; clear BK187; clear BK197; clear BK207; clear HB; have HO_198002 := n0_; have HO_208002 := n1_; have BK187 := n2_; have BK197 := n3_; have BK207 := n4_; have HB := n5_; clear n0_ n1_ n2_ n3_ n4_ n5_; (try clear hb); (try clear hb2); (try clear hk); (try clear hi)))
          go_ret
          exact ⟨by first | rfl | (simp [errW_none, errW_some] <;> rfl) | (simp [*, errW_none, errW_some] <;> rfl), by repeat (first | (with_reducible first | exact HB.out | apply below_alloc | apply pw_below_drewN | apply below_drew1 | refine below_set ?_ GE187.out | refine below_set ?_ GE197.out | refine below_set ?_ GE207.out) | exact HB.out)⟩
        · rw [if_neg c42] at H
          have c42b0 : decide (t211 < 0) = false := decide_eq_false c42
          clear c42
          by_cases c49 : t211 = t209
          · rw [if_pos c49] at H
            have c49b0 : (t211 == t209) = true := beq_iff_eq.mpr c49
            have c49b1 : (t211 != t209) = false := bne_eq_false_iff_eq.mpr c49
            clear c49
            replace H := Option.bind_eq_some_iff.mp H
            obtain ⟨⟨t212, t213⟩, A500, H⟩ := H
            replace H : ((impl_FirstGabidulin.f kj7 t212 t213 a1 a2).bind fun bt214 => ((laws_eqGabidulin.f kj7 bt214.1 bt214.2.1 bt214.2.2.1 bt214.2.2.2.1 t190 t191 t192 t195).bind fun t222 => (if t222 = true then (laws_FnExactFirstGabidulin.j1 kj7 t209 (bt214.2.2.2.2 != t196) t200 t201 t210 t205) else (laws_FnExactFirstGabidulin.j1 kj7 t209 true t200 t201 t210 t205)))) = some r := H
            have A50 := Aside0.mk A500
            clear A500
            replace H := Option.bind_eq_some_iff.mp H
            obtain ⟨⟨t214, t215, t216, t219, t220⟩, A510, H⟩ := H
            replace H : ((laws_eqGabidulin.f kj7 t214 t215 t216 t219 t190 t191 t192 t195).bind fun t222 => (if t222 = true then (laws_FnExactFirstGabidulin.j1 kj7 t209 (t220 != t196) t200 t201 t210 t205) else (laws_FnExactFirstGabidulin.j1 kj7 t209 true t200 t201 t210 t205))) = some r := H
            have A51 := Aside0.mk A510
            clear A510
            have HC52 := Aside0.mk H
            clear H
            have hnb53 := NB207_187.out
            have hnc53 := NB187_207.out
            have hnb54 := NB207_197.out
            have hnc54 := NB197_207.out
            have hcz55_0 : wc.cell? ⟨gb207, 0, none⟩ = some (.int .i64 t200) := (blk_cell BK207.out 0).trans rfl
            have hcz55_1 : wc.cell? ⟨gb207, 1, none⟩ = some (.int .i64 t201) := (blk_cell BK207.out 1).trans rfl
            have hcz55_2 : wc.cell? ⟨gb207, 2, none⟩ = some (.slice Ao24 t202.length co24) := (blk_cell BK207.out 2).trans rfl
            have hcz55_3 : wc.cell? ⟨gb207, 3, none⟩ = some (.int .i64 t205) := (blk_cell BK207.out 3).trans rfl
            have hfz55_0 := blk_frozen BK207.out 0
            have hfz55_1 := blk_frozen BK207.out 1
            have hfz55_2 := blk_frozen BK207.out 2
            have hfz55_3 := blk_frozen BK207.out 3
            go_upto_region 14 with (first | ((with_reducible refine gate_callee (f := 40) rfl ?_); refine goesL_ (some 42) rfl rfl Try.func40 (by kernel_rfl) rfl #[.agg #[.int .i64 t200, .int .i64 t201, .slice Ao24 t202.length co24, .int .i64 t205], .int .i64 1] rfl (by (try simp only [List.map_toArray, List.map_cons, List.map_nil]); first | done | rfl | (simp only [List.length_drop, List.length_take]; rfl)) ?_; (with_reducible refine (laws_markGabidulin.calls kj7 t200 t201 (fun k_ => some k_ = (.slice Ao24 t202.length co24 : Value).ownBlock) (.slice Ao24 t202.length co24) t202 t205 1 t209 t210 w _ ?side1 ?side2 A40.out).mono ?_); (case side1 => repeat (first | (with_reducible first | exact HB.out | apply below_alloc | apply pw_below_drewN | apply below_drew1 | refine below_set ?_ GE187.out | refine below_set ?_ GE197.out | refine below_set ?_ GE207.out) | exact HB.out)); (case side2 => exact Kd.R_tight rfl HO_208002.out); rintro e w56 ⟨rfl, hy0, hb, hkp⟩; refine ⟨_, rfl, ?_⟩; have n0_ := Aside0.mk (Kd.R_mono (ok' := fun k_ => some k_ ≠ (.slice Ao24 t202.length co24 : Value).ownBlock) (Kd.R_keptB (HO_198002.out) hkp (fun k_ hk_ hs_ => (hk_) hs_)) (fun k_ hk_ => hk_.1)); have n1_ := Aside0.mk (Kd.R_reok rfl hy0 (fun k_ e_ => HO_208002.out.1 k_ e_)); have n2_ := Aside0.mk (blk_kept (by (with_reducible repeat (first | refine blk_drewN ?_ _ | refine blk_drew ?_ | refine blk_alloc ?_ _)); exact BK187.out) hkp (fun hs_ => (fun e_ => (Kd.R_ne HO_208002.out BK187.out (by decide)) e_) hs_)); have n3_ := Aside0.mk (blk_kept (by (with_reducible repeat (first | refine blk_drewN ?_ _ | refine blk_drew ?_ | refine blk_alloc ?_ _)); exact BK197.out) hkp (fun hs_ => (fun e_ => (Kd.R_ne HO_208002.out BK197.out (by decide)) e_) hs_)); have n4_ := Aside0.mk (blk_kept (by (with_reducible repeat (first | refine blk_drewN ?_ _ | refine blk_drew ?_ | refine blk_alloc ?_ _)); exact BK207.out) hkp (fun hs_ => (fun e_ => (Kd.R_ne HO_208002.out BK207.out (by decide)) e_) hs_)); have n5_ := Aside0.mk (hb); clear HO_198002; clear HO_208002; clear BK187; clear BK197; clear BK207; clear HB; have HO_198002 := n0_; have HO_208002 := n1_; have BK187 := n2_; have BK197 := n3_; have BK207 := n4_; have HB := n5_; clear n0_ n1_ n2_ n3_ n4_ n5_; (try clear hb); (try clear hkp); (try clear hy0); have hcz57_0 : w56.cell? ⟨gb207, 0, none⟩ = some (.int .i64 t200) := (blk_cell BK207.out 0).trans rfl; have hcz57_1 : w56.cell? ⟨gb207, 1, none⟩ = some (.int .i64 t201) := (blk_cell BK207.out 1).trans rfl; have hcz57_2 : w56.cell? ⟨gb207, 2, none⟩ = some (.slice Ao24 t202.length co24) := (blk_cell BK207.out 2).trans rfl; have hcz57_3 : w56.cell? ⟨gb207, 3, none⟩ = some (.int .i64 t205) := (blk_cell BK207.out 3).trans rfl; have hfz57_0 := blk_frozen BK207.out 0; have hfz57_1 := blk_frozen BK207.out 1; have hfz57_2 := blk_frozen BK207.out 2; have hfz57_3 := blk_frozen BK207.out 3) | ((with_reducible refine gate_callee (f := 41) rfl ?_); refine goesL_ (some 45) rfl rfl Try.func41 (by kernel_rfl) rfl #[.agg #[.int .i64 t200, .int .i64 t201, .slice Ao24 t210.length co24, .int .i64 t205], .int .i64 1] rfl (by (try simp only [List.map_toArray, List.map_cons, List.map_nil]); first | done | (rw [show t210.length = t202.length from (Kd.R_reads' HO_208002.out).1.symm] <;> rfl) | rfl | (simp only [List.length_drop, List.length_take]; rfl)) ?_; (with_reducible refine (laws_heldGabidulin.calls kj7 t200 t201 _ _ t210 t205 1 t211 _ ?side1 ?side2 A41.out).mono ?_); (case side1 => repeat (first | exact (Kd.R_reads' HO_208002.out).2.2 | (with_reducible refine Kd.C_alloc ?_ _) | (with_reducible refine Kd.C_drewN ?_ _) | (with_reducible refine Kd.C_drew ?_))); (case side2 => rw [show t210.length = t202.length from (Kd.R_reads' HO_208002.out).1.symm]; exact (Kd.R_reads' HO_208002.out).2.1); rintro e w58 ⟨rfl, hb⟩; refine ⟨_, rfl, ?_⟩; have n0_ := Aside0.mk (Kd.R_below (by (with_reducible repeat (first | apply Kd.R_alloc | apply Kd.R_drewN | apply Kd.R_drew)); exact HO_198002.out) hb); have n1_ := Aside0.mk (Kd.R_below (by (with_reducible repeat (first | apply Kd.R_alloc | apply Kd.R_drewN | apply Kd.R_drew)); exact HO_208002.out) hb); have n2_ := Aside0.mk (blk_below (g := gb187) (o := .cells #[.int .i64 a0_0, .int .i64 a0_1] 23 (0, 0)) (by (with_reducible repeat (first | refine blk_drewN ?_ _ | refine blk_drew ?_ | refine blk_alloc ?_ _)); exact BK187.out) hb); have n3_ := Aside0.mk (blk_below (g := gb197) (o := .cells #[.int .i64 t190, .int .i64 t191, .slice Ao16 t192.length co16, .int .i64 t195] 48 (0, 0)) (by (with_reducible repeat (first | refine blk_drewN ?_ _ | refine blk_drew ?_ | refine blk_alloc ?_ _)); exact BK197.out) hb); have n4_ := Aside0.mk (blk_below (g := gb207) (o := .cells #[.int .i64 t200, .int .i64 t201, .slice Ao24 t202.length co24, .int .i64 t205] 48 (0, 0)) (by (with_reducible repeat (first | refine blk_drewN ?_ _ | refine blk_drew ?_ | refine blk_alloc ?_ _)); exact BK207.out) hb); have n5_ := Aside0.mk (below_step (by repeat (first | (with_reducible first | exact HB.out | apply below_alloc | apply pw_below_drewN | apply below_drew1 | refine below_set ?_ GE187.out | refine below_set ?_ GE197.out | refine below_set ?_ GE207.out) | exact HB.out)) hb); clear HO_198002; clear HO_208002; clear BK187; clear BK197; clear BK207; clear HB; have HO_198002 := n0_; have HO_208002 := n1_; have BK187 := n2_; have BK197 := n3_; have BK207 := n4_; have HB := n5_; clear n0_ n1_ n2_ n3_ n4_ n5_; (try clear hb); (try clear hb2); (try clear hk); (try clear hi); have hnb59 := NB187_197.out; have hnc59 := NB197_187.out; have hcz60_0 : w58.cell? ⟨gb187, 0, none⟩ = some (.int .i64 a0_0) := (blk_cell BK187.out 0).trans rfl; have hcz60_1 : w58.cell? ⟨gb187, 1, none⟩ = some (.int .i64 a0_1) := (blk_cell BK187.out 1).trans rfl; have hfz60_0 := blk_frozen BK187.out 0; have hfz60_1 := blk_frozen BK187.out 1) | ((with_reducible refine gate_callee (f := 16) rfl ?_); refine goesL_ (some 53) rfl rfl Try.func16 (by kernel_rfl) rfl #[.agg #[.int .i64 a0_0, .int .i64 a0_1]] rfl (by (try simp only [List.map_toArray, List.map_cons, List.map_nil]); first | done | rfl | (simp only [List.length_drop, List.length_take]; rfl)) ?_; (with_reducible refine (laws_toField.calls a0_0 a0_1 t212 t213 _ A50.out).mono ?_); rintro e w61 ⟨rfl, hb⟩; refine ⟨_, rfl, ?_⟩; have n0_ := Aside0.mk (Kd.R_below (by (with_reducible repeat (first | apply Kd.R_alloc | apply Kd.R_drewN | apply Kd.R_drew)); exact HO_198002.out) hb); have n1_ := Aside0.mk (Kd.R_below (by (with_reducible repeat (first | apply Kd.R_alloc | apply Kd.R_drewN | apply Kd.R_drew)); exact HO_208002.out) hb); have n2_ := Aside0.mk (blk_below (g := gb187) (o := .cells #[.int .i64 a0_0, .int .i64 a0_1] 23 (0, 0)) (by (with_reducible repeat (first | refine blk_drewN ?_ _ | refine blk_drew ?_ | refine blk_alloc ?_ _)); exact BK187.out) hb); have n3_ := Aside0.mk (blk_below (g := gb197) (o := .cells #[.int .i64 t190, .int .i64 t191, .slice Ao16 t192.length co16, .int .i64 t195] 48 (0, 0)) (by (with_reducible repeat (first | refine blk_drewN ?_ _ | refine blk_drew ?_ | refine blk_alloc ?_ _)); exact BK197.out) hb); have n4_ := Aside0.mk (blk_below (g := gb207) (o := .cells #[.int .i64 t200, .int .i64 t201, .slice Ao24 t202.length co24, .int .i64 t205] 48 (0, 0)) (by (with_reducible repeat (first | refine blk_drewN ?_ _ | refine blk_drew ?_ | refine blk_alloc ?_ _)); exact BK207.out) hb); have n5_ := Aside0.mk (below_step (by repeat (first | (with_reducible first | exact HB.out | apply below_alloc | apply pw_below_drewN | apply below_drew1 | refine below_set ?_ GE187.out | refine below_set ?_ GE197.out | refine below_set ?_ GE207.out) | exact HB.out)) hb); clear HO_198002; clear HO_208002; clear BK187; clear BK197; clear BK207; clear HB; have HO_198002 := n0_; have HO_208002 := n1_; have BK187 := n2_; have BK197 := n3_; have BK207 := n4_; have HB := n5_; clear n0_ n1_ n2_ n3_ n4_ n5_; (try clear hb); (try clear hb2); (try clear hk); (try clear hi)) | ((with_reducible refine gate_callee (f := 38) rfl ?_); refine goesL_ (some 56) rfl rfl Try.func38 (by kernel_rfl) rfl #[.agg #[.int .i64 t212, .int .i64 t213], .int .i64 a1, .int .i64 a2] rfl (by (try simp only [List.map_toArray, List.map_cons, List.map_nil]); first | done | rfl | (simp only [List.length_drop, List.length_take]; rfl)) ?_; (with_reducible refine (impl_FirstGabidulin.calls kj7 t212 t213 a1 a2 t214 t215 t216 t219 t220 _ A51.out).mono ?_); rintro e w62 ⟨v217, rfl, ho0, hb⟩; refine ⟨_, rfl, ?_⟩; have n0_ := Aside0.mk (Kd.R_elder' (by (with_reducible repeat (first | apply Kd.R_alloc | apply Kd.R_drewN | apply Kd.R_drew)); exact HO_198002.out) (Kd.R_base ho0) hb); have n1_ := Aside0.mk (Kd.R_elder' (by (with_reducible repeat (first | apply Kd.R_alloc | apply Kd.R_drewN | apply Kd.R_drew)); exact HO_208002.out) (Kd.R_base ho0) hb); have n2_ := Aside0.mk (Kd.R_lower (Kd.R_new' (Kd.R_new' ho0 (Kd.R_lt (by (with_reducible repeat (first | apply Kd.R_alloc | apply Kd.R_drewN | apply Kd.R_drew)); exact HO_198002.out))) (Kd.R_lt (by (with_reducible repeat (first | apply Kd.R_alloc | apply Kd.R_drewN | apply Kd.R_drew)); exact HO_208002.out))) (below_size (by repeat (first | (with_reducible first | exact HB.out | apply below_alloc | apply pw_below_drewN | apply below_drew1 | refine below_set ?_ GE187.out | refine below_set ?_ GE197.out | refine below_set ?_ GE207.out) | exact HB.out)))); have n3_ := Aside0.mk (blk_below (g := gb187) (o := .cells #[.int .i64 a0_0, .int .i64 a0_1] 23 (0, 0)) (by (with_reducible repeat (first | refine blk_drewN ?_ _ | refine blk_drew ?_ | refine blk_alloc ?_ _)); exact BK187.out) hb); have n4_ := Aside0.mk (blk_below (g := gb197) (o := .cells #[.int .i64 t190, .int .i64 t191, .slice Ao16 t192.length co16, .int .i64 t195] 48 (0, 0)) (by (with_reducible repeat (first | refine blk_drewN ?_ _ | refine blk_drew ?_ | refine blk_alloc ?_ _)); exact BK197.out) hb); have n5_ := Aside0.mk (blk_below (g := gb207) (o := .cells #[.int .i64 t200, .int .i64 t201, .slice Ao24 t202.length co24, .int .i64 t205] 48 (0, 0)) (by (with_reducible repeat (first | refine blk_drewN ?_ _ | refine blk_drew ?_ | refine blk_alloc ?_ _)); exact BK207.out) hb); have n6_ := Aside0.mk (below_step (by repeat (first | (with_reducible first | exact HB.out | apply below_alloc | apply pw_below_drewN | apply below_drew1 | refine below_set ?_ GE187.out | refine below_set ?_ GE197.out | refine below_set ?_ GE207.out) | exact HB.out)) hb); clear HO_198002; clear HO_208002; clear BK187; clear BK197; clear BK207; clear HB; have HO_198002 := n0_; have HO_208002 := n1_; have HO218 := n2_; have BK187 := n3_; have BK197 := n4_; have BK207 := n5_; have HB := n6_; clear n0_ n1_ n2_ n3_ n4_ n5_ n6_; (try clear hb); (try clear hb2); (try clear hk); (try clear hi); (try clear ho0)) | ((with_reducible refine gate_dst (N := 13) rfl ?_); refine box_event ?hg (N := 13) ?hd (cs := #[.int .i64 0, .int .i64 0, .slice none 0 0, .int .i64 0]) (t := 48) ?hr ?_; (case hd => rfl); (case hg => rfl); (case hr => first | (go_simp; done) | (go_simp; rfl)); intro gb221 hg w63 hbox hb; have n0_ := Aside0.mk (Kd.R_below (by (with_reducible repeat (first | apply Kd.R_alloc | apply Kd.R_drewN | apply Kd.R_drew)); exact HO_198002.out) hb); have n1_ := Aside0.mk (Kd.R_below (by (with_reducible repeat (first | apply Kd.R_alloc | apply Kd.R_drewN | apply Kd.R_drew)); exact HO_208002.out) hb); have n2_ := Aside0.mk (Kd.R_below (by (with_reducible repeat (first | apply Kd.R_alloc | apply Kd.R_drewN | apply Kd.R_drew)); exact HO218.out) hb); have n3_ := Aside0.mk (blk_below (g := gb187) (o := .cells #[.int .i64 a0_0, .int .i64 a0_1] 23 (0, 0)) (by (with_reducible repeat (first | refine blk_drewN ?_ _ | refine blk_drew ?_ | refine blk_alloc ?_ _)); exact BK187.out) hb); have n4_ := Aside0.mk (blk_below (g := gb197) (o := .cells #[.int .i64 t190, .int .i64 t191, .slice Ao16 t192.length co16, .int .i64 t195] 48 (0, 0)) (by (with_reducible repeat (first | refine blk_drewN ?_ _ | refine blk_drew ?_ | refine blk_alloc ?_ _)); exact BK197.out) hb); have n5_ := Aside0.mk (blk_below (g := gb207) (o := .cells #[.int .i64 t200, .int .i64 t201, .slice Ao24 t202.length co24, .int .i64 t205] 48 (0, 0)) (by (with_reducible repeat (first | refine blk_drewN ?_ _ | refine blk_drew ?_ | refine blk_alloc ?_ _)); exact BK207.out) hb); have n6_ := Aside0.mk (below_step (by repeat (first | (with_reducible first | exact HB.out | apply below_alloc | apply pw_below_drewN | apply below_drew1 | refine below_set ?_ GE187.out | refine below_set ?_ GE197.out | refine below_set ?_ GE207.out) | exact HB.out)) hb); have n7_ := Aside0.mk (hbox); have n8_ := Aside0.mk ((by rw [hg]; exact (below_size (by repeat (first | (with_reducible first | exact HB.out | apply below_alloc | apply pw_below_drewN | apply below_drew1 | refine below_set ?_ GE187.out | refine below_set ?_ GE197.out | refine below_set ?_ GE207.out) | exact HB.out))) : w.heap.size ≤ gb221)); have n9_ := Aside0.mk ((by rw [hg]; exact (below_size (by repeat (first | (with_reducible first | exact HB.out | apply below_alloc | apply pw_below_drewN | apply below_drew1 | refine below_set ?_ GE187.out | refine below_set ?_ GE197.out | refine below_set ?_ GE207.out) | exact HB.out))) : w.heap.size ≤ gb221)); have n10_ := Aside0.mk ((by rw [hg]; exact Nat.ne_of_lt (blk_lt (g := gb187) (o := .cells #[.int .i64 a0_0, .int .i64 a0_1] 23 (0, 0)) (by (with_reducible repeat (first | refine blk_drewN ?_ _ | refine blk_drew ?_ | refine blk_alloc ?_ _)); exact BK187.out)) : gb187 ≠ gb221)); have n11_ := Aside0.mk ((by rw [hg]; exact Nat.ne_of_gt (blk_lt (g := gb187) (o := .cells #[.int .i64 a0_0, .int .i64 a0_1] 23 (0, 0)) (by (with_reducible repeat (first | refine blk_drewN ?_ _ | refine blk_drew ?_ | refine blk_alloc ?_ _)); exact BK187.out)) : gb221 ≠ gb187)); have n12_ := Aside0.mk ((by rw [hg]; exact Nat.ne_of_lt (blk_lt (g := gb197) (o := .cells #[.int .i64 t190, .int .i64 t191, .slice Ao16 t192.length co16, .int .i64 t195] 48 (0, 0)) (by (with_reducible repeat (first | refine blk_drewN ?_ _ | refine blk_drew ?_ | refine blk_alloc ?_ _)); exact BK197.out)) : gb197 ≠ gb221)); have n13_ := Aside0.mk ((by rw [hg]; exact Nat.ne_of_gt (blk_lt (g := gb197) (o := .cells #[.int .i64 t190, .int .i64 t191, .slice Ao16 t192.length co16, .int .i64 t195] 48 (0, 0)) (by (with_reducible repeat (first | refine blk_drewN ?_ _ | refine blk_drew ?_ | refine blk_alloc ?_ _)); exact BK197.out)) : gb221 ≠ gb197)); have n14_ := Aside0.mk ((by rw [hg]; exact Nat.ne_of_lt (blk_lt (g := gb207) (o := .cells #[.int .i64 t200, .int .i64 t201, .slice Ao24 t202.length co24, .int .i64 t205] 48 (0, 0)) (by (with_reducible repeat (first | refine blk_drewN ?_ _ | refine blk_drew ?_ | refine blk_alloc ?_ _)); exact BK207.out)) : gb207 ≠ gb221)); have n15_ := Aside0.mk ((by rw [hg]; exact Nat.ne_of_gt (blk_lt (g := gb207) (o := .cells #[.int .i64 t200, .int .i64 t201, .slice Ao24 t202.length co24, .int .i64 t205] 48 (0, 0)) (by (with_reducible repeat (first | refine blk_drewN ?_ _ | refine blk_drew ?_ | refine blk_alloc ?_ _)); exact BK207.out)) : gb221 ≠ gb207)); clear HO_198002; clear HO_208002; clear HO218; clear BK187; clear BK197; clear BK207; clear HB; have HO_198002 := n0_; have HO_208002 := n1_; have HO218 := n2_; have BK187 := n3_; have BK197 := n4_; have BK207 := n5_; have HB := n6_; have BK221 := n7_; have GW221 := n8_; have GE221 := n9_; have NB187_221 := n10_; have NB221_187 := n11_; have NB197_221 := n12_; have NB221_197 := n13_; have NB207_221 := n14_; have NB221_207 := n15_; clear n0_ n1_ n2_ n3_ n4_ n5_ n6_ n7_ n8_ n9_ n10_ n11_ n12_ n13_ n14_ n15_; clear hb hbox hg; have hnb64 := NB221_187.out; have hnc64 := NB187_221.out; have hnb65 := NB221_197.out; have hnc65 := NB197_221.out; have hnb66 := NB221_207.out; have hnc66 := NB207_221.out; have hcz67_0 : w63.cell? ⟨gb221, 0, none⟩ = some (.int .i64 0) := (blk_cell BK221.out 0).trans rfl; have hcz67_1 : w63.cell? ⟨gb221, 1, none⟩ = some (.int .i64 0) := (blk_cell BK221.out 1).trans rfl; have hcz67_2 : w63.cell? ⟨gb221, 2, none⟩ = some (.slice none 0 0) := (blk_cell BK221.out 2).trans rfl; have hcz67_3 : w63.cell? ⟨gb221, 3, none⟩ = some (.int .i64 0) := (blk_cell BK221.out 3).trans rfl; have hfz67_0 := blk_frozen BK221.out 0; have hfz67_1 := blk_frozen BK221.out 1; have hfz67_2 := blk_frozen BK221.out 2; have hfz67_3 := blk_frozen BK221.out 3; obtain ⟨Ao68, co68, eo68⟩ := Kd.R_slice HO218.out; subst eo68))
            (try simp only [Act.put, List.setIfInBounds_toArray, List.set_cons_zero, List.set_cons_succ])
            go_cut [67] (fun v67 wc => ∃ (kq : Nat) (x67_51 : Bool), v67 = .bool x67_51 ∧ Aside0 (laws_FnExactFirstGabidulin.j1 kq t209 x67_51 t200 t201 t210 t205 = some r) ∧ Aside0 (kq ≤ kj7) ∧ Aside0 (Kd.R (Kd.int .i64) 2 wc w.heap.size (fun k_ => some k_ ≠ ((.slice Ao24 t202.length co24) : Value).ownBlock ∧ some k_ ≠ ((.slice Ao68 t216.length co68) : Value).ownBlock) (.slice Ao16 t192.length co16) t192) ∧ Aside0 (Kd.R (Kd.int .i64) 2 wc w.heap.size (fun k_ => some k_ ≠ ((.slice Ao16 t192.length co16) : Value).ownBlock ∧ some k_ ≠ ((.slice Ao68 t216.length co68) : Value).ownBlock) (.slice Ao24 t202.length co24) t210) ∧ Aside0 (Kd.R (Kd.int .i64) 2 wc w.heap.size (fun k_ => some k_ ≠ ((.slice Ao16 t192.length co16) : Value).ownBlock ∧ some k_ ≠ ((.slice Ao24 t202.length co24) : Value).ownBlock) (.slice Ao68 t216.length co68) t216) ∧ Aside0 (wc.heap[gb187]? = some (.cells #[.int .i64 a0_0, .int .i64 a0_1] 23 (0, 0))) ∧ Aside0 (wc.heap[gb197]? = some (.cells #[.int .i64 t190, .int .i64 t191, (.slice Ao16 t192.length co16), .int .i64 t195] 48 (0, 0))) ∧ Aside0 (wc.heap[gb207]? = some (.cells #[.int .i64 t200, .int .i64 t201, (.slice Ao24 t202.length co24), .int .i64 t205] 48 (0, 0))) ∧ Aside0 (wc.heap[gb221]? = some (.cells #[.int .i64 t214, .int .i64 t215, (.slice Ao68 t216.length co68), .int .i64 t219] 48 (0, 0))) ∧ Aside0 (Below w.heap.size w wc))
            case first =>
              have H := HC52.out
              clear HC52
              replace H := Option.bind_eq_some_iff.mp H
              obtain ⟨t222, A690, H⟩ := H
              replace H : (if t222 = true then (laws_FnExactFirstGabidulin.j1 kj7 t209 (t220 != t196) t200 t201 t210 t205) else (laws_FnExactFirstGabidulin.j1 kj7 t209 true t200 t201 t210 t205)) = some r := H
              have A69 := Aside0.mk A690
              clear A690
              by_cases c70 : t222 = true
              · subst c70
                have H1 : (laws_FnExactFirstGabidulin.j1 kj7 t209 (t220 != t196) t200 t201 t210 t205) = some r := by rw [if_pos rfl] at H; exact H
                clear H
                have H := H1
                clear H1
                have H' := Aside0.mk H
                clear H
                have hnb71 := NB221_187.out
                have hnc71 := NB187_221.out
                have hnb72 := NB221_197.out
                have hnc72 := NB197_221.out
                have hnb73 := NB221_207.out
                have hnc73 := NB207_221.out
                have hcz74_0 : w63.cell? ⟨gb221, 0, none⟩ = some (.int .i64 0) := (blk_cell BK221.out 0).trans rfl
                have hcz74_1 : w63.cell? ⟨gb221, 1, none⟩ = some (.int .i64 0) := (blk_cell BK221.out 1).trans rfl
                have hcz74_2 : w63.cell? ⟨gb221, 2, none⟩ = some (.slice none 0 0) := (blk_cell BK221.out 2).trans rfl
                have hcz74_3 : w63.cell? ⟨gb221, 3, none⟩ = some (.int .i64 0) := (blk_cell BK221.out 3).trans rfl
                have hfz74_0 := blk_frozen BK221.out 0
                have hfz74_1 := blk_frozen BK221.out 1
                have hfz74_2 := blk_frozen BK221.out 2
                have hfz74_3 := blk_frozen BK221.out 3
                have hnb75 := NB197_187.out
                have hnc75 := NB187_197.out
                have hnb76 := NB197_207.out
                have hnc76 := NB207_197.out
                have hcz77_0 : w63.cell? ⟨gb197, 0, none⟩ = some (.int .i64 t190) := (blk_cell BK197.out 0).trans rfl
                have hcz77_1 : w63.cell? ⟨gb197, 1, none⟩ = some (.int .i64 t191) := (blk_cell BK197.out 1).trans rfl
                have hcz77_2 : w63.cell? ⟨gb197, 2, none⟩ = some (.slice Ao16 t192.length co16) := (blk_cell BK197.out 2).trans rfl
                have hcz77_3 : w63.cell? ⟨gb197, 3, none⟩ = some (.int .i64 t195) := (blk_cell BK197.out 3).trans rfl
                have hfz77_0 := blk_frozen BK197.out 0
                have hfz77_1 := blk_frozen BK197.out 1
                have hfz77_2 := blk_frozen BK197.out 2
                have hfz77_3 := blk_frozen BK197.out 3
                go_wp2_with (first | ((with_reducible refine gate_callee (f := 39) rfl ?_); refine goesL_ (some 61) rfl rfl Try.func39 (by kernel_rfl) rfl #[.agg #[.int .i64 t214, .int .i64 t215, .slice Ao68 t216.length co68, .int .i64 t219], .agg #[.int .i64 t190, .int .i64 t191, .slice Ao16 t192.length co16, .int .i64 t195]] rfl (by (try simp only [List.map_toArray, List.map_cons, List.map_nil]); first | done | rfl | (simp only [List.length_drop, List.length_take]; rfl)) ?_; (with_reducible refine (laws_eqGabidulin.calls kj7 t214 t215 _ _ t216 t219 t190 t191 _ _ t192 t195 true _ ?side1 ?side2 ?side3 ?side4 A69.out).mono ?_); (case side1 => refine (Kd.R_reads' (e := 2) (base := w.heap.size) (ok := fun k_ => ((True ∧ some k_ ≠ (.slice Ao16 t192.length co16 : Value).ownBlock) ∧ some k_ ≠ (.slice Ao24 t202.length co24 : Value).ownBlock)) (n := t216.length) (c := co68) ?_).2.2; exact (by (with_reducible repeat (first | apply Kd.R_alloc | apply Kd.R_drewN | apply Kd.R_drew)); exact (Kd.R_mono (Kd.R_far (p := ⟨gb221, 3, none⟩) (Kd.R_far (p := ⟨gb221, 2, none⟩) (Kd.R_far (p := ⟨gb221, 1, none⟩) (Kd.R_far (p := ⟨gb221, 0, none⟩) (Kd.R_types HO218.out BK221.out (by decide)) (fun _ hk => hk.2) (.int .i64 t214)) (fun _ hk => hk.2) (.int .i64 t215)) (fun _ hk => hk.2) (.slice Ao68 t216.length co68)) (fun _ hk => hk.2) (.int .i64 t219)) (fun _ h_ => h_.1)))); (case side2 => exact (Kd.R_reads' HO218.out).2.1); (case side3 => refine (Kd.R_reads' (e := 2) (base := w.heap.size) (ok := fun k_ => (some k_ ≠ (.slice Ao24 t202.length co24 : Value).ownBlock ∧ some k_ ≠ (.slice Ao68 t216.length co68 : Value).ownBlock)) (n := t192.length) (c := co16) ?_).2.2; exact (by (with_reducible repeat (first | apply Kd.R_alloc | apply Kd.R_drewN | apply Kd.R_drew)); exact (Kd.R_mono (Kd.R_far (p := ⟨gb221, 3, none⟩) (Kd.R_far (p := ⟨gb221, 2, none⟩) (Kd.R_far (p := ⟨gb221, 1, none⟩) (Kd.R_far (p := ⟨gb221, 0, none⟩) (Kd.R_types HO_198002.out BK221.out (by decide)) (fun _ hk => hk.2) (.int .i64 t214)) (fun _ hk => hk.2) (.int .i64 t215)) (fun _ hk => hk.2) (.slice Ao68 t216.length co68)) (fun _ hk => hk.2) (.int .i64 t219)) (fun _ h_ => h_.1)))); (case side4 => exact (Kd.R_reads' HO_198002.out).2.1); rintro e w78 ⟨rfl, hb⟩; refine ⟨_, rfl, ?_⟩; have n0_ := Aside0.mk (Kd.R_below (by (with_reducible repeat (first | apply Kd.R_alloc | apply Kd.R_drewN | apply Kd.R_drew)); exact (Kd.R_mono (Kd.R_far (p := ⟨gb221, 3, none⟩) (Kd.R_far (p := ⟨gb221, 2, none⟩) (Kd.R_far (p := ⟨gb221, 1, none⟩) (Kd.R_far (p := ⟨gb221, 0, none⟩) (Kd.R_types HO_198002.out BK221.out (by decide)) (fun _ hk => hk.2) (.int .i64 t214)) (fun _ hk => hk.2) (.int .i64 t215)) (fun _ hk => hk.2) (.slice Ao68 t216.length co68)) (fun _ hk => hk.2) (.int .i64 t219)) (fun _ h_ => h_.1))) hb); have n1_ := Aside0.mk (Kd.R_below (by (with_reducible repeat (first | apply Kd.R_alloc | apply Kd.R_drewN | apply Kd.R_drew)); exact (Kd.R_mono (Kd.R_far (p := ⟨gb221, 3, none⟩) (Kd.R_far (p := ⟨gb221, 2, none⟩) (Kd.R_far (p := ⟨gb221, 1, none⟩) (Kd.R_far (p := ⟨gb221, 0, none⟩) (Kd.R_types HO_208002.out BK221.out (by decide)) (fun _ hk => hk.2) (.int .i64 t214)) (fun _ hk => hk.2) (.int .i64 t215)) (fun _ hk => hk.2) (.slice Ao68 t216.length co68)) (fun _ hk => hk.2) (.int .i64 t219)) (fun _ h_ => h_.1))) hb); have n2_ := Aside0.mk (Kd.R_below (by (with_reducible repeat (first | apply Kd.R_alloc | apply Kd.R_drewN | apply Kd.R_drew)); exact (Kd.R_mono (Kd.R_far (p := ⟨gb221, 3, none⟩) (Kd.R_far (p := ⟨gb221, 2, none⟩) (Kd.R_far (p := ⟨gb221, 1, none⟩) (Kd.R_far (p := ⟨gb221, 0, none⟩) (Kd.R_types HO218.out BK221.out (by decide)) (fun _ hk => hk.2) (.int .i64 t214)) (fun _ hk => hk.2) (.int .i64 t215)) (fun _ hk => hk.2) (.slice Ao68 t216.length co68)) (fun _ hk => hk.2) (.int .i64 t219)) (fun _ h_ => h_.1))) hb); have n3_ := Aside0.mk (blk_below (g := gb187) (o := .cells #[.int .i64 a0_0, .int .i64 a0_1] 23 (0, 0)) (by (with_reducible repeat (first | refine blk_drewN ?_ _ | refine blk_drew ?_ | refine blk_alloc ?_ _)); refine blk_far ?_ NB187_221.out _; (with_reducible repeat (first | refine blk_drewN ?_ _ | refine blk_drew ?_ | refine blk_alloc ?_ _)); refine blk_far ?_ NB187_221.out _; (with_reducible repeat (first | refine blk_drewN ?_ _ | refine blk_drew ?_ | refine blk_alloc ?_ _)); refine blk_far ?_ NB187_221.out _; (with_reducible repeat (first | refine blk_drewN ?_ _ | refine blk_drew ?_ | refine blk_alloc ?_ _)); refine blk_far ?_ NB187_221.out _; (with_reducible repeat (first | refine blk_drewN ?_ _ | refine blk_drew ?_ | refine blk_alloc ?_ _)); exact BK187.out) hb); have n4_ := Aside0.mk (blk_below (g := gb197) (o := .cells #[.int .i64 t190, .int .i64 t191, .slice Ao16 t192.length co16, .int .i64 t195] 48 (0, 0)) (by (with_reducible repeat (first | refine blk_drewN ?_ _ | refine blk_drew ?_ | refine blk_alloc ?_ _)); refine blk_far ?_ NB197_221.out _; (with_reducible repeat (first | refine blk_drewN ?_ _ | refine blk_drew ?_ | refine blk_alloc ?_ _)); refine blk_far ?_ NB197_221.out _; (with_reducible repeat (first | refine blk_drewN ?_ _ | refine blk_drew ?_ | refine blk_alloc ?_ _)); refine blk_far ?_ NB197_221.out _; (with_reducible repeat (first | refine blk_drewN ?_ _ | refine blk_drew ?_ | refine blk_alloc ?_ _)); refine blk_far ?_ NB197_221.out _; (with_reducible repeat (first | refine blk_drewN ?_ _ | refine blk_drew ?_ | refine blk_alloc ?_ _)); exact BK197.out) hb); have n5_ := Aside0.mk (blk_below (g := gb207) (o := .cells #[.int .i64 t200, .int .i64 t201, .slice Ao24 t202.length co24, .int .i64 t205] 48 (0, 0)) (by (with_reducible repeat (first | refine blk_drewN ?_ _ | refine blk_drew ?_ | refine blk_alloc ?_ _)); refine blk_far ?_ NB207_221.out _; (with_reducible repeat (first | refine blk_drewN ?_ _ | refine blk_drew ?_ | refine blk_alloc ?_ _)); refine blk_far ?_ NB207_221.out _; (with_reducible repeat (first | refine blk_drewN ?_ _ | refine blk_drew ?_ | refine blk_alloc ?_ _)); refine blk_far ?_ NB207_221.out _; (with_reducible repeat (first | refine blk_drewN ?_ _ | refine blk_drew ?_ | refine blk_alloc ?_ _)); refine blk_far ?_ NB207_221.out _; (with_reducible repeat (first | refine blk_drewN ?_ _ | refine blk_drew ?_ | refine blk_alloc ?_ _)); exact BK207.out) hb); have n6_ := Aside0.mk (blk_below (g := gb221) (o := .cells #[.int .i64 t214, .int .i64 t215, .slice Ao68 t216.length co68, .int .i64 t219] 48 (0, 0)) (by (with_reducible repeat (first | refine blk_drewN ?_ _ | refine blk_drew ?_ | refine blk_alloc ?_ _)); refine blk_put (cs := #[.int .i64 t214, .int .i64 t215, .slice Ao68 t216.length co68, .int .i64 0]) ?_ 3 _ rfl; (with_reducible repeat (first | refine blk_drewN ?_ _ | refine blk_drew ?_ | refine blk_alloc ?_ _)); refine blk_put (cs := #[.int .i64 t214, .int .i64 t215, .slice none 0 0, .int .i64 0]) ?_ 2 _ rfl; (with_reducible repeat (first | refine blk_drewN ?_ _ | refine blk_drew ?_ | refine blk_alloc ?_ _)); refine blk_put (cs := #[.int .i64 t214, .int .i64 0, .slice none 0 0, .int .i64 0]) ?_ 1 _ rfl; (with_reducible repeat (first | refine blk_drewN ?_ _ | refine blk_drew ?_ | refine blk_alloc ?_ _)); refine blk_put (cs := #[.int .i64 0, .int .i64 0, .slice none 0 0, .int .i64 0]) ?_ 0 _ rfl; (with_reducible repeat (first | refine blk_drewN ?_ _ | refine blk_drew ?_ | refine blk_alloc ?_ _)); exact BK221.out) hb); have n7_ := Aside0.mk (below_step (by repeat (first | (with_reducible first | exact HB.out | apply below_alloc | apply pw_below_drewN | apply below_drew1 | refine below_set ?_ GE187.out | refine below_set ?_ GE197.out | refine below_set ?_ GE207.out | refine below_set ?_ GE221.out) | exact HB.out)) hb); clear HO_198002; clear HO_208002; clear HO218; clear BK187; clear BK197; clear BK207; clear BK221; clear HB; have HO_198002 := n0_; have HO_208002 := n1_; have HO218 := n2_; have BK187 := n3_; have BK197 := n4_; have BK207 := n5_; have BK221 := n6_; have HB := n7_; clear n0_ n1_ n2_ n3_ n4_ n5_ n6_ n7_; (try clear hb); (try clear hb2); (try clear hk); (try clear hi)))
                go_meet
                case rel => exact ⟨_, ((t220 != t196)), (by first | rfl | (simp; done) | (simp [*]; done)), H', ⟨by have := HJ7.out; first | omega | exact Nat.le_refl _⟩, ⟨by (with_reducible repeat (first | apply Kd.R_alloc | apply Kd.R_drewN | apply Kd.R_drew)); exact HO_198002.out⟩, ⟨by (with_reducible repeat (first | apply Kd.R_alloc | apply Kd.R_drewN | apply Kd.R_drew)); exact HO_208002.out⟩, ⟨by (with_reducible repeat (first | apply Kd.R_alloc | apply Kd.R_drewN | apply Kd.R_drew)); exact Kd.R_mono HO218.out (fun _ hk => ⟨hk.1.2, hk.2⟩)⟩, ⟨by (with_reducible repeat (first | refine blk_drewN ?_ _ | refine blk_drew ?_ | refine blk_alloc ?_ _)); exact BK187.out⟩, ⟨by (with_reducible repeat (first | refine blk_drewN ?_ _ | refine blk_drew ?_ | refine blk_alloc ?_ _)); exact BK197.out⟩, ⟨by (with_reducible repeat (first | refine blk_drewN ?_ _ | refine blk_drew ?_ | refine blk_alloc ?_ _)); exact BK207.out⟩, ⟨by (with_reducible repeat (first | refine blk_drewN ?_ _ | refine blk_drew ?_ | refine blk_alloc ?_ _)); exact BK221.out⟩, ⟨by repeat (first | (with_reducible first | exact HB.out | apply below_alloc | apply pw_below_drewN | apply below_drew1 | refine below_set ?_ GE187.out | refine below_set ?_ GE197.out | refine below_set ?_ GE207.out | refine below_set ?_ GE221.out) | exact HB.out)⟩⟩
              · replace c70 := Bool.eq_false_iff.mpr c70
                subst c70
                have H1 : (laws_FnExactFirstGabidulin.j1 kj7 t209 true t200 t201 t210 t205) = some r := by rw [if_neg (show ¬ (false = true) by decide)] at H; exact H
                clear H
                have H := H1
                clear H1
                have H' := Aside0.mk H
                clear H
                have hnb79 := NB221_187.out
                have hnc79 := NB187_221.out
                have hnb80 := NB221_197.out
                have hnc80 := NB197_221.out
                have hnb81 := NB221_207.out
                have hnc81 := NB207_221.out
                have hcz82_0 : w63.cell? ⟨gb221, 0, none⟩ = some (.int .i64 0) := (blk_cell BK221.out 0).trans rfl
                have hcz82_1 : w63.cell? ⟨gb221, 1, none⟩ = some (.int .i64 0) := (blk_cell BK221.out 1).trans rfl
                have hcz82_2 : w63.cell? ⟨gb221, 2, none⟩ = some (.slice none 0 0) := (blk_cell BK221.out 2).trans rfl
                have hcz82_3 : w63.cell? ⟨gb221, 3, none⟩ = some (.int .i64 0) := (blk_cell BK221.out 3).trans rfl
                have hfz82_0 := blk_frozen BK221.out 0
                have hfz82_1 := blk_frozen BK221.out 1
                have hfz82_2 := blk_frozen BK221.out 2
                have hfz82_3 := blk_frozen BK221.out 3
                have hnb83 := NB197_187.out
                have hnc83 := NB187_197.out
                have hnb84 := NB197_207.out
                have hnc84 := NB207_197.out
                have hcz85_0 : w63.cell? ⟨gb197, 0, none⟩ = some (.int .i64 t190) := (blk_cell BK197.out 0).trans rfl
                have hcz85_1 : w63.cell? ⟨gb197, 1, none⟩ = some (.int .i64 t191) := (blk_cell BK197.out 1).trans rfl
                have hcz85_2 : w63.cell? ⟨gb197, 2, none⟩ = some (.slice Ao16 t192.length co16) := (blk_cell BK197.out 2).trans rfl
                have hcz85_3 : w63.cell? ⟨gb197, 3, none⟩ = some (.int .i64 t195) := (blk_cell BK197.out 3).trans rfl
                have hfz85_0 := blk_frozen BK197.out 0
                have hfz85_1 := blk_frozen BK197.out 1
                have hfz85_2 := blk_frozen BK197.out 2
                have hfz85_3 := blk_frozen BK197.out 3
                go_wp2_with (first | ((with_reducible refine gate_callee (f := 39) rfl ?_); refine goesL_ (some 61) rfl rfl Try.func39 (by kernel_rfl) rfl #[.agg #[.int .i64 t214, .int .i64 t215, .slice Ao68 t216.length co68, .int .i64 t219], .agg #[.int .i64 t190, .int .i64 t191, .slice Ao16 t192.length co16, .int .i64 t195]] rfl (by (try simp only [List.map_toArray, List.map_cons, List.map_nil]); first | done | rfl | (simp only [List.length_drop, List.length_take]; rfl)) ?_; (with_reducible refine (laws_eqGabidulin.calls kj7 t214 t215 _ _ t216 t219 t190 t191 _ _ t192 t195 false _ ?side1 ?side2 ?side3 ?side4 A69.out).mono ?_); (case side1 => refine (Kd.R_reads' (e := 2) (base := w.heap.size) (ok := fun k_ => ((True ∧ some k_ ≠ (.slice Ao16 t192.length co16 : Value).ownBlock) ∧ some k_ ≠ (.slice Ao24 t202.length co24 : Value).ownBlock)) (n := t216.length) (c := co68) ?_).2.2; exact (by (with_reducible repeat (first | apply Kd.R_alloc | apply Kd.R_drewN | apply Kd.R_drew)); exact (Kd.R_mono (Kd.R_far (p := ⟨gb221, 3, none⟩) (Kd.R_far (p := ⟨gb221, 2, none⟩) (Kd.R_far (p := ⟨gb221, 1, none⟩) (Kd.R_far (p := ⟨gb221, 0, none⟩) (Kd.R_types HO218.out BK221.out (by decide)) (fun _ hk => hk.2) (.int .i64 t214)) (fun _ hk => hk.2) (.int .i64 t215)) (fun _ hk => hk.2) (.slice Ao68 t216.length co68)) (fun _ hk => hk.2) (.int .i64 t219)) (fun _ h_ => h_.1)))); (case side2 => exact (Kd.R_reads' HO218.out).2.1); (case side3 => refine (Kd.R_reads' (e := 2) (base := w.heap.size) (ok := fun k_ => (some k_ ≠ (.slice Ao24 t202.length co24 : Value).ownBlock ∧ some k_ ≠ (.slice Ao68 t216.length co68 : Value).ownBlock)) (n := t192.length) (c := co16) ?_).2.2; exact (by (with_reducible repeat (first | apply Kd.R_alloc | apply Kd.R_drewN | apply Kd.R_drew)); exact (Kd.R_mono (Kd.R_far (p := ⟨gb221, 3, none⟩) (Kd.R_far (p := ⟨gb221, 2, none⟩) (Kd.R_far (p := ⟨gb221, 1, none⟩) (Kd.R_far (p := ⟨gb221, 0, none⟩) (Kd.R_types HO_198002.out BK221.out (by decide)) (fun _ hk => hk.2) (.int .i64 t214)) (fun _ hk => hk.2) (.int .i64 t215)) (fun _ hk => hk.2) (.slice Ao68 t216.length co68)) (fun _ hk => hk.2) (.int .i64 t219)) (fun _ h_ => h_.1)))); (case side4 => exact (Kd.R_reads' HO_198002.out).2.1); rintro e w86 ⟨rfl, hb⟩; refine ⟨_, rfl, ?_⟩; have n0_ := Aside0.mk (Kd.R_below (by (with_reducible repeat (first | apply Kd.R_alloc | apply Kd.R_drewN | apply Kd.R_drew)); exact (Kd.R_mono (Kd.R_far (p := ⟨gb221, 3, none⟩) (Kd.R_far (p := ⟨gb221, 2, none⟩) (Kd.R_far (p := ⟨gb221, 1, none⟩) (Kd.R_far (p := ⟨gb221, 0, none⟩) (Kd.R_types HO_198002.out BK221.out (by decide)) (fun _ hk => hk.2) (.int .i64 t214)) (fun _ hk => hk.2) (.int .i64 t215)) (fun _ hk => hk.2) (.slice Ao68 t216.length co68)) (fun _ hk => hk.2) (.int .i64 t219)) (fun _ h_ => h_.1))) hb); have n1_ := Aside0.mk (Kd.R_below (by (with_reducible repeat (first | apply Kd.R_alloc | apply Kd.R_drewN | apply Kd.R_drew)); exact (Kd.R_mono (Kd.R_far (p := ⟨gb221, 3, none⟩) (Kd.R_far (p := ⟨gb221, 2, none⟩) (Kd.R_far (p := ⟨gb221, 1, none⟩) (Kd.R_far (p := ⟨gb221, 0, none⟩) (Kd.R_types HO_208002.out BK221.out (by decide)) (fun _ hk => hk.2) (.int .i64 t214)) (fun _ hk => hk.2) (.int .i64 t215)) (fun _ hk => hk.2) (.slice Ao68 t216.length co68)) (fun _ hk => hk.2) (.int .i64 t219)) (fun _ h_ => h_.1))) hb); have n2_ := Aside0.mk (Kd.R_below (by (with_reducible repeat (first | apply Kd.R_alloc | apply Kd.R_drewN | apply Kd.R_drew)); exact (Kd.R_mono (Kd.R_far (p := ⟨gb221, 3, none⟩) (Kd.R_far (p := ⟨gb221, 2, none⟩) (Kd.R_far (p := ⟨gb221, 1, none⟩) (Kd.R_far (p := ⟨gb221, 0, none⟩) (Kd.R_types HO218.out BK221.out (by decide)) (fun _ hk => hk.2) (.int .i64 t214)) (fun _ hk => hk.2) (.int .i64 t215)) (fun _ hk => hk.2) (.slice Ao68 t216.length co68)) (fun _ hk => hk.2) (.int .i64 t219)) (fun _ h_ => h_.1))) hb); have n3_ := Aside0.mk (blk_below (g := gb187) (o := .cells #[.int .i64 a0_0, .int .i64 a0_1] 23 (0, 0)) (by (with_reducible repeat (first | refine blk_drewN ?_ _ | refine blk_drew ?_ | refine blk_alloc ?_ _)); refine blk_far ?_ NB187_221.out _; (with_reducible repeat (first | refine blk_drewN ?_ _ | refine blk_drew ?_ | refine blk_alloc ?_ _)); refine blk_far ?_ NB187_221.out _; (with_reducible repeat (first | refine blk_drewN ?_ _ | refine blk_drew ?_ | refine blk_alloc ?_ _)); refine blk_far ?_ NB187_221.out _; (with_reducible repeat (first | refine blk_drewN ?_ _ | refine blk_drew ?_ | refine blk_alloc ?_ _)); refine blk_far ?_ NB187_221.out _; (with_reducible repeat (first | refine blk_drewN ?_ _ | refine blk_drew ?_ | refine blk_alloc ?_ _)); exact BK187.out) hb); have n4_ := Aside0.mk (blk_below (g := gb197) (o := .cells #[.int .i64 t190, .int .i64 t191, .slice Ao16 t192.length co16, .int .i64 t195] 48 (0, 0)) (by (with_reducible repeat (first | refine blk_drewN ?_ _ | refine blk_drew ?_ | refine blk_alloc ?_ _)); refine blk_far ?_ NB197_221.out _; (with_reducible repeat (first | refine blk_drewN ?_ _ | refine blk_drew ?_ | refine blk_alloc ?_ _)); refine blk_far ?_ NB197_221.out _; (with_reducible repeat (first | refine blk_drewN ?_ _ | refine blk_drew ?_ | refine blk_alloc ?_ _)); refine blk_far ?_ NB197_221.out _; (with_reducible repeat (first | refine blk_drewN ?_ _ | refine blk_drew ?_ | refine blk_alloc ?_ _)); refine blk_far ?_ NB197_221.out _; (with_reducible repeat (first | refine blk_drewN ?_ _ | refine blk_drew ?_ | refine blk_alloc ?_ _)); exact BK197.out) hb); have n5_ := Aside0.mk (blk_below (g := gb207) (o := .cells #[.int .i64 t200, .int .i64 t201, .slice Ao24 t202.length co24, .int .i64 t205] 48 (0, 0)) (by (with_reducible repeat (first | refine blk_drewN ?_ _ | refine blk_drew ?_ | refine blk_alloc ?_ _)); refine blk_far ?_ NB207_221.out _; (with_reducible repeat (first | refine blk_drewN ?_ _ | refine blk_drew ?_ | refine blk_alloc ?_ _)); refine blk_far ?_ NB207_221.out _; (with_reducible repeat (first | refine blk_drewN ?_ _ | refine blk_drew ?_ | refine blk_alloc ?_ _)); refine blk_far ?_ NB207_221.out _; (with_reducible repeat (first | refine blk_drewN ?_ _ | refine blk_drew ?_ | refine blk_alloc ?_ _)); refine blk_far ?_ NB207_221.out _; (with_reducible repeat (first | refine blk_drewN ?_ _ | refine blk_drew ?_ | refine blk_alloc ?_ _)); exact BK207.out) hb); have n6_ := Aside0.mk (blk_below (g := gb221) (o := .cells #[.int .i64 t214, .int .i64 t215, .slice Ao68 t216.length co68, .int .i64 t219] 48 (0, 0)) (by (with_reducible repeat (first | refine blk_drewN ?_ _ | refine blk_drew ?_ | refine blk_alloc ?_ _)); refine blk_put (cs := #[.int .i64 t214, .int .i64 t215, .slice Ao68 t216.length co68, .int .i64 0]) ?_ 3 _ rfl; (with_reducible repeat (first | refine blk_drewN ?_ _ | refine blk_drew ?_ | refine blk_alloc ?_ _)); refine blk_put (cs := #[.int .i64 t214, .int .i64 t215, .slice none 0 0, .int .i64 0]) ?_ 2 _ rfl; (with_reducible repeat (first | refine blk_drewN ?_ _ | refine blk_drew ?_ | refine blk_alloc ?_ _)); refine blk_put (cs := #[.int .i64 t214, .int .i64 0, .slice none 0 0, .int .i64 0]) ?_ 1 _ rfl; (with_reducible repeat (first | refine blk_drewN ?_ _ | refine blk_drew ?_ | refine blk_alloc ?_ _)); refine blk_put (cs := #[.int .i64 0, .int .i64 0, .slice none 0 0, .int .i64 0]) ?_ 0 _ rfl; (with_reducible repeat (first | refine blk_drewN ?_ _ | refine blk_drew ?_ | refine blk_alloc ?_ _)); exact BK221.out) hb); have n7_ := Aside0.mk (below_step (by repeat (first | (with_reducible first | exact HB.out | apply below_alloc | apply pw_below_drewN | apply below_drew1 | refine below_set ?_ GE187.out | refine below_set ?_ GE197.out | refine below_set ?_ GE207.out | refine below_set ?_ GE221.out) | exact HB.out)) hb); clear HO_198002; clear HO_208002; clear HO218; clear BK187; clear BK197; clear BK207; clear BK221; clear HB; have HO_198002 := n0_; have HO_208002 := n1_; have HO218 := n2_; have BK187 := n3_; have BK197 := n4_; have BK207 := n5_; have BK221 := n6_; have HB := n7_; clear n0_ n1_ n2_ n3_ n4_ n5_ n6_ n7_; (try clear hb); (try clear hb2); (try clear hk); (try clear hi)))
                go_meet
                case rel => exact ⟨_, (true), (by first | rfl | (simp; done) | (simp [*]; done)), H', ⟨by have := HJ7.out; first | omega | exact Nat.le_refl _⟩, ⟨by (with_reducible repeat (first | apply Kd.R_alloc | apply Kd.R_drewN | apply Kd.R_drew)); exact HO_198002.out⟩, ⟨by (with_reducible repeat (first | apply Kd.R_alloc | apply Kd.R_drewN | apply Kd.R_drew)); exact HO_208002.out⟩, ⟨by (with_reducible repeat (first | apply Kd.R_alloc | apply Kd.R_drewN | apply Kd.R_drew)); exact Kd.R_mono HO218.out (fun _ hk => ⟨hk.1.2, hk.2⟩)⟩, ⟨by (with_reducible repeat (first | refine blk_drewN ?_ _ | refine blk_drew ?_ | refine blk_alloc ?_ _)); exact BK187.out⟩, ⟨by (with_reducible repeat (first | refine blk_drewN ?_ _ | refine blk_drew ?_ | refine blk_alloc ?_ _)); exact BK197.out⟩, ⟨by (with_reducible repeat (first | refine blk_drewN ?_ _ | refine blk_drew ?_ | refine blk_alloc ?_ _)); exact BK207.out⟩, ⟨by (with_reducible repeat (first | refine blk_drewN ?_ _ | refine blk_drew ?_ | refine blk_alloc ?_ _)); exact BK221.out⟩, ⟨by repeat (first | (with_reducible first | exact HB.out | apply below_alloc | apply pw_below_drewN | apply below_drew1 | refine below_set ?_ GE187.out | refine below_set ?_ GE197.out | refine below_set ?_ GE207.out | refine below_set ?_ GE221.out) | exact HB.out)⟩⟩
            case rest =>
              clear HC52
              try clear c1
              try clear c2
              try clear p2
              try clear c3
              try clear c4
              try clear c5
              try clear c6
              try clear c7
              try clear c8
              try clear c9
              try clear c14
              try clear c16
              try clear c21
              try clear c22
              try clear c26
              try clear c27
              try clear c28
              try clear c30
              try clear c33
              try clear c34
              try clear c36
              try clear c37
              try clear c38
              try clear c39
              try clear c40
              try clear c41
              try clear c42
              try clear c42b0
              try clear c43
              try clear c44
              try clear c49
              try clear c49b0
              try clear c49b1
              try clear c53
              try clear c54
              try clear c59
              try clear c64
              try clear c65
              try clear c66
              try clear c70
              try clear c71
              try clear c72
              try clear c73
              try clear c75
              try clear c76
              try clear c79
              try clear c80
              try clear c81
              try clear c83
              try clear c84
              try clear hcz10_0
              try clear hcz10_1
              try clear hcz15_0
              try clear hcz15_1
              try clear hcz15_2
              try clear hcz15_3
              try clear hcz17_0
              try clear hcz17_1
              try clear hcz23_0
              try clear hcz23_1
              try clear hcz23_2
              try clear hcz23_3
              try clear hcz29_0
              try clear hcz29_1
              try clear hcz29_2
              try clear hcz29_3
              try clear hcz31_0
              try clear hcz31_1
              try clear hcz31_2
              try clear hcz31_3
              try clear hcz35_0
              try clear hcz35_1
              try clear hcz35_2
              try clear hcz35_3
              try clear hcz37_0
              try clear hcz37_1
              try clear hcz37_2
              try clear hcz37_3
              try clear hcz45_0
              try clear hcz45_1
              try clear hcz45_2
              try clear hcz45_3
              try clear hcz47_0
              try clear hcz47_1
              try clear hcz47_2
              try clear hcz47_3
              try clear hcz55_0
              try clear hcz55_1
              try clear hcz55_2
              try clear hcz55_3
              try clear hcz57_0
              try clear hcz57_1
              try clear hcz57_2
              try clear hcz57_3
              try clear hcz60_0
              try clear hcz60_1
              try clear hcz67_0
              try clear hcz67_1
              try clear hcz67_2
              try clear hcz67_3
              try clear hcz74_0
              try clear hcz74_1
              try clear hcz74_2
              try clear hcz74_3
              try clear hcz77_0
              try clear hcz77_1
              try clear hcz77_2
              try clear hcz77_3
              try clear hcz82_0
              try clear hcz82_1
              try clear hcz82_2
              try clear hcz82_3
              try clear hcz85_0
              try clear hcz85_1
              try clear hcz85_2
              try clear hcz85_3
              try clear hfz10_0
              try clear hfz10_1
              try clear hfz15_0
              try clear hfz15_1
              try clear hfz15_2
              try clear hfz15_3
              try clear hfz17_0
              try clear hfz17_1
              try clear hfz23_0
              try clear hfz23_1
              try clear hfz23_2
              try clear hfz23_3
              try clear hfz29_0
              try clear hfz29_1
              try clear hfz29_2
              try clear hfz29_3
              try clear hfz31_0
              try clear hfz31_1
              try clear hfz31_2
              try clear hfz31_3
              try clear hfz35_0
              try clear hfz35_1
              try clear hfz35_2
              try clear hfz35_3
              try clear hfz37_0
              try clear hfz37_1
              try clear hfz37_2
              try clear hfz37_3
              try clear hfz45_0
              try clear hfz45_1
              try clear hfz45_2
              try clear hfz45_3
              try clear hfz47_0
              try clear hfz47_1
              try clear hfz47_2
              try clear hfz47_3
              try clear hfz55_0
              try clear hfz55_1
              try clear hfz55_2
              try clear hfz55_3
              try clear hfz57_0
              try clear hfz57_1
              try clear hfz57_2
              try clear hfz57_3
              try clear hfz60_0
              try clear hfz60_1
              try clear hfz67_0
              try clear hfz67_1
              try clear hfz67_2
              try clear hfz67_3
              try clear hfz74_0
              try clear hfz74_1
              try clear hfz74_2
              try clear hfz74_3
              try clear hfz77_0
              try clear hfz77_1
              try clear hfz77_2
              try clear hfz77_3
              try clear hfz82_0
              try clear hfz82_1
              try clear hfz82_2
              try clear hfz82_3
              try clear hfz85_0
              try clear hfz85_1
              try clear hfz85_2
              try clear hfz85_3
              try clear p2
              obtain ⟨kq, x67_51, rfl, HA, HJ51, HO_198002, HO_208002, HO_222002, BK187, BK197, BK207, BK221, HB⟩ := hcut
              have hl208002_51 := (Kd.R_reads' HO_208002.out).1
              rw [hl208002_51] at HO_208002
              (try simp only [hl208002_51])
              (try simp only [hl208002_51] at BK187)
              (try simp only [hl208002_51] at BK197)
              (try simp only [hl208002_51] at BK207)
              (try simp only [hl208002_51] at BK221)
              (try simp only [hl208002_51] at HO_198002)
              (try simp only [hl208002_51] at HO_222002)
              cases kq with
              | zero => exact absurd HA.out (by simp [laws_FnExactFirstGabidulin.j1])
              | succ kj51 =>
                have H := HA.out
                clear HA
                simp only [laws_FnExactFirstGabidulin.j1] at H
                by_cases c87 : x67_51 = true
                · subst c87
                  have H1 : (some false) = some r := by rw [if_pos rfl] at H; exact H
                  clear H
                  have H := H1
                  clear H1
                  obtain rfl := Option.some.inj H
                  go_wp2
                  go_ret
                  exact ⟨by first | rfl | (simp [errW_none, errW_some] <;> rfl) | (simp [*, errW_none, errW_some] <;> rfl), by repeat (first | (with_reducible first | exact HB.out | apply below_alloc | apply pw_below_drewN | apply below_drew1 | refine below_set ?_ GE187.out | refine below_set ?_ GE197.out | refine below_set ?_ GE207.out | refine below_set ?_ GE221.out) | exact HB.out)⟩
                · replace c87 := Bool.eq_false_iff.mpr c87
                  subst c87
                  have H1 : ((laws_heldGabidulin.f kj51 t200 t201 t210 t205 1).bind fun t223 => (if t223 < 0 then (some false) else (if t223 = t209 then (some true) else (some false)))) = some r := by rw [if_neg (show ¬ (false = true) by decide)] at H; exact H
                  clear H
                  have H := H1
                  clear H1
                  replace H := Option.bind_eq_some_iff.mp H
                  obtain ⟨t223, A880, H⟩ := H
                  replace H : (if t223 < 0 then (some false) else (if t223 = t209 then (some true) else (some false))) = some r := H
                  have A88 := Aside0.mk A880
                  clear A880
                  by_cases c89 : t223 < 0
                  · rw [if_pos c89] at H
                    have c89b0 : decide (t223 < 0) = true := decide_eq_true c89
                    clear c89
                    obtain rfl := Option.some.inj H
                    have hnb90 := NB207_187.out
                    have hnc90 := NB187_207.out
                    have hnb91 := NB207_197.out
                    have hnc91 := NB197_207.out
                    have hnb92 := NB207_221.out
                    have hnc92 := NB221_207.out
                    have hcz93_0 : wc.cell? ⟨gb207, 0, none⟩ = some (.int .i64 t200) := (blk_cell BK207.out 0).trans rfl
                    have hcz93_1 : wc.cell? ⟨gb207, 1, none⟩ = some (.int .i64 t201) := (blk_cell BK207.out 1).trans rfl
                    have hcz93_2 : wc.cell? ⟨gb207, 2, none⟩ = some (.slice Ao24 t210.length co24) := (blk_cell BK207.out 2).trans rfl
                    have hcz93_3 : wc.cell? ⟨gb207, 3, none⟩ = some (.int .i64 t205) := (blk_cell BK207.out 3).trans rfl
                    have hfz93_0 := blk_frozen BK207.out 0
                    have hfz93_1 := blk_frozen BK207.out 1
                    have hfz93_2 := blk_frozen BK207.out 2
                    have hfz93_3 := blk_frozen BK207.out 3
                    go_wp2_with (first | ((with_reducible refine gate_callee (f := 41) rfl ?_); refine goesL_ (some 70) rfl rfl Try.func41 (by kernel_rfl) rfl #[.agg #[.int .i64 t200, .int .i64 t201, .slice Ao24 t210.length co24, .int .i64 t205], .int .i64 1] rfl (by (try simp only [List.map_toArray, List.map_cons, List.map_nil]); first | done | rfl | (simp only [List.length_drop, List.length_take]; rfl)) ?_; (with_reducible refine (laws_heldGabidulin.calls kj51 t200 t201 _ _ t210 t205 1 t223 _ ?side1 ?side2 A88.out).mono ?_); (case side1 => repeat (first | exact (Kd.R_reads' HO_208002.out).2.2 | (with_reducible refine Kd.C_alloc ?_ _) | (with_reducible refine Kd.C_drewN ?_ _) | (with_reducible refine Kd.C_drew ?_))); (case side2 => exact (Kd.R_reads' HO_208002.out).2.1); rintro e w94 ⟨rfl, hb⟩; refine ⟨_, rfl, ?_⟩; have n0_ := Aside0.mk (Kd.R_below (by (with_reducible repeat (first | apply Kd.R_alloc | apply Kd.R_drewN | apply Kd.R_drew)); exact HO_198002.out) hb); have n1_ := Aside0.mk (Kd.R_below (by (with_reducible repeat (first | apply Kd.R_alloc | apply Kd.R_drewN | apply Kd.R_drew)); exact HO_208002.out) hb); have n2_ := Aside0.mk (Kd.R_below (by (with_reducible repeat (first | apply Kd.R_alloc | apply Kd.R_drewN | apply Kd.R_drew)); exact HO_222002.out) hb); have n3_ := Aside0.mk (blk_below (g := gb187) (o := .cells #[.int .i64 a0_0, .int .i64 a0_1] 23 (0, 0)) (by (with_reducible repeat (first | refine blk_drewN ?_ _ | refine blk_drew ?_ | refine blk_alloc ?_ _)); exact BK187.out) hb); have n4_ := Aside0.mk (blk_below (g := gb197) (o := .cells #[.int .i64 t190, .int .i64 t191, .slice Ao16 t192.length co16, .int .i64 t195] 48 (0, 0)) (by (with_reducible repeat (first | refine blk_drewN ?_ _ | refine blk_drew ?_ | refine blk_alloc ?_ _)); exact BK197.out) hb); have n5_ := Aside0.mk (blk_below (g := gb207) (o := .cells #[.int .i64 t200, .int .i64 t201, .slice Ao24 t210.length co24, .int .i64 t205] 48 (0, 0)) (by (with_reducible repeat (first | refine blk_drewN ?_ _ | refine blk_drew ?_ | refine blk_alloc ?_ _)); exact BK207.out) hb); have n6_ := Aside0.mk (blk_below (g := gb221) (o := .cells #[.int .i64 t214, .int .i64 t215, .slice Ao68 t216.length co68, .int .i64 t219] 48 (0, 0)) (by (with_reducible repeat (first | refine blk_drewN ?_ _ | refine blk_drew ?_ | refine blk_alloc ?_ _)); exact BK221.out) hb); have n7_ := Aside0.mk (below_step (by repeat (first | (with_reducible first | exact HB.out | apply below_alloc | apply pw_below_drewN | apply below_drew1 | refine below_set ?_ GE187.out | refine below_set ?_ GE197.out | refine below_set ?_ GE207.out | refine below_set ?_ GE221.out) | exact HB.out)) hb); clear HO_198002; clear HO_208002; clear HO_222002; clear BK187; clear BK197; clear BK207; clear BK221; clear HB; have HO_198002 := n0_; have HO_208002 := n1_; have HO_222002 := n2_; have BK187 := n3_; have BK197 := n4_; have BK207 := n5_; have BK221 := n6_; have HB := n7_; clear n0_ n1_ n2_ n3_ n4_ n5_ n6_ n7_; (try clear hb); (try clear hb2); (try clear hk); (try clear hi)))
                    go_ret
                    exact ⟨by first | rfl | (simp [errW_none, errW_some] <;> rfl) | (simp [*, errW_none, errW_some] <;> rfl), by repeat (first | (with_reducible first | exact HB.out | apply below_alloc | apply pw_below_drewN | apply below_drew1 | refine below_set ?_ GE187.out | refine below_set ?_ GE197.out | refine below_set ?_ GE207.out | refine below_set ?_ GE221.out) | exact HB.out)⟩
                  · rw [if_neg c89] at H
                    have c89b0 : decide (t223 < 0) = false := decide_eq_false c89
                    clear c89
                    by_cases c95 : t223 = t209
                    · rw [if_pos c95] at H
                      have c95b0 : (t223 == t209) = true := beq_iff_eq.mpr c95
                      have c95b1 : (t223 != t209) = false := bne_eq_false_iff_eq.mpr c95
                      clear c95
                      obtain rfl := Option.some.inj H
                      have hnb96 := NB207_187.out
                      have hnc96 := NB187_207.out
                      have hnb97 := NB207_197.out
                      have hnc97 := NB197_207.out
                      have hnb98 := NB207_221.out
                      have hnc98 := NB221_207.out
                      have hcz99_0 : wc.cell? ⟨gb207, 0, none⟩ = some (.int .i64 t200) := (blk_cell BK207.out 0).trans rfl
                      have hcz99_1 : wc.cell? ⟨gb207, 1, none⟩ = some (.int .i64 t201) := (blk_cell BK207.out 1).trans rfl
                      have hcz99_2 : wc.cell? ⟨gb207, 2, none⟩ = some (.slice Ao24 t210.length co24) := (blk_cell BK207.out 2).trans rfl
                      have hcz99_3 : wc.cell? ⟨gb207, 3, none⟩ = some (.int .i64 t205) := (blk_cell BK207.out 3).trans rfl
                      have hfz99_0 := blk_frozen BK207.out 0
                      have hfz99_1 := blk_frozen BK207.out 1
                      have hfz99_2 := blk_frozen BK207.out 2
                      have hfz99_3 := blk_frozen BK207.out 3
                      go_wp2_with (first | ((with_reducible refine gate_callee (f := 41) rfl ?_); refine goesL_ (some 70) rfl rfl Try.func41 (by kernel_rfl) rfl #[.agg #[.int .i64 t200, .int .i64 t201, .slice Ao24 t210.length co24, .int .i64 t205], .int .i64 1] rfl (by (try simp only [List.map_toArray, List.map_cons, List.map_nil]); first | done | rfl | (simp only [List.length_drop, List.length_take]; rfl)) ?_; (with_reducible refine (laws_heldGabidulin.calls kj51 t200 t201 _ _ t210 t205 1 t223 _ ?side1 ?side2 A88.out).mono ?_); (case side1 => repeat (first | exact (Kd.R_reads' HO_208002.out).2.2 | (with_reducible refine Kd.C_alloc ?_ _) | (with_reducible refine Kd.C_drewN ?_ _) | (with_reducible refine Kd.C_drew ?_))); (case side2 => exact (Kd.R_reads' HO_208002.out).2.1); rintro e w100 ⟨rfl, hb⟩; refine ⟨_, rfl, ?_⟩; have n0_ := Aside0.mk (Kd.R_below (by (with_reducible repeat (first | apply Kd.R_alloc | apply Kd.R_drewN | apply Kd.R_drew)); exact HO_198002.out) hb); have n1_ := Aside0.mk (Kd.R_below (by (with_reducible repeat (first | apply Kd.R_alloc | apply Kd.R_drewN | apply Kd.R_drew)); exact HO_208002.out) hb); have n2_ := Aside0.mk (Kd.R_below (by (with_reducible repeat (first | apply Kd.R_alloc | apply Kd.R_drewN | apply Kd.R_drew)); exact HO_222002.out) hb); have n3_ := Aside0.mk (blk_below (g := gb187) (o := .cells #[.int .i64 a0_0, .int .i64 a0_1] 23 (0, 0)) (by (with_reducible repeat (first | refine blk_drewN ?_ _ | refine blk_drew ?_ | refine blk_alloc ?_ _)); exact BK187.out) hb); have n4_ := Aside0.mk (blk_below (g := gb197) (o := .cells #[.int .i64 t190, .int .i64 t191, .slice Ao16 t192.length co16, .int .i64 t195] 48 (0, 0)) (by (with_reducible repeat (first | refine blk_drewN ?_ _ | refine blk_drew ?_ | refine blk_alloc ?_ _)); exact BK197.out) hb); have n5_ := Aside0.mk (blk_below (g := gb207) (o := .cells #[.int .i64 t200, .int .i64 t201, .slice Ao24 t210.length co24, .int .i64 t205] 48 (0, 0)) (by (with_reducible repeat (first | refine blk_drewN ?_ _ | refine blk_drew ?_ | refine blk_alloc ?_ _)); exact BK207.out) hb); have n6_ := Aside0.mk (blk_below (g := gb221) (o := .cells #[.int .i64 t214, .int .i64 t215, .slice Ao68 t216.length co68, .int .i64 t219] 48 (0, 0)) (by (with_reducible repeat (first | refine blk_drewN ?_ _ | refine blk_drew ?_ | refine blk_alloc ?_ _)); exact BK221.out) hb); have n7_ := Aside0.mk (below_step (by repeat (first | (with_reducible first | exact HB.out | apply below_alloc | apply pw_below_drewN | apply below_drew1 | refine below_set ?_ GE187.out | refine below_set ?_ GE197.out | refine below_set ?_ GE207.out | refine below_set ?_ GE221.out) | exact HB.out)) hb); clear HO_198002; clear HO_208002; clear HO_222002; clear BK187; clear BK197; clear BK207; clear BK221; clear HB; have HO_198002 := n0_; have HO_208002 := n1_; have HO_222002 := n2_; have BK187 := n3_; have BK197 := n4_; have BK207 := n5_; have BK221 := n6_; have HB := n7_; clear n0_ n1_ n2_ n3_ n4_ n5_ n6_ n7_; (try clear hb); (try clear hb2); (try clear hk); (try clear hi)))
                      go_ret
                      exact ⟨by first | rfl | (simp [errW_none, errW_some] <;> rfl) | (simp [*, errW_none, errW_some] <;> rfl), by repeat (first | (with_reducible first | exact HB.out | apply below_alloc | apply pw_below_drewN | apply below_drew1 | refine below_set ?_ GE187.out | refine below_set ?_ GE197.out | refine below_set ?_ GE207.out | refine below_set ?_ GE221.out) | exact HB.out)⟩
                    · rw [if_neg c95] at H
                      have c95b0 : (t223 == t209) = false := beq_eq_false_iff_ne.mpr c95
                      have c95b1 : (t223 != t209) = true := bne_iff_ne.mpr c95
                      obtain rfl := Option.some.inj H
                      have hnb101 := NB207_187.out
                      have hnc101 := NB187_207.out
                      have hnb102 := NB207_197.out
                      have hnc102 := NB197_207.out
                      have hnb103 := NB207_221.out
                      have hnc103 := NB221_207.out
                      have hcz104_0 : wc.cell? ⟨gb207, 0, none⟩ = some (.int .i64 t200) := (blk_cell BK207.out 0).trans rfl
                      have hcz104_1 : wc.cell? ⟨gb207, 1, none⟩ = some (.int .i64 t201) := (blk_cell BK207.out 1).trans rfl
                      have hcz104_2 : wc.cell? ⟨gb207, 2, none⟩ = some (.slice Ao24 t210.length co24) := (blk_cell BK207.out 2).trans rfl
                      have hcz104_3 : wc.cell? ⟨gb207, 3, none⟩ = some (.int .i64 t205) := (blk_cell BK207.out 3).trans rfl
                      have hfz104_0 := blk_frozen BK207.out 0
                      have hfz104_1 := blk_frozen BK207.out 1
                      have hfz104_2 := blk_frozen BK207.out 2
                      have hfz104_3 := blk_frozen BK207.out 3
                      go_wp2_with (first | ((with_reducible refine gate_callee (f := 41) rfl ?_); refine goesL_ (some 70) rfl rfl Try.func41 (by kernel_rfl) rfl #[.agg #[.int .i64 t200, .int .i64 t201, .slice Ao24 t210.length co24, .int .i64 t205], .int .i64 1] rfl (by (try simp only [List.map_toArray, List.map_cons, List.map_nil]); first | done | rfl | (simp only [List.length_drop, List.length_take]; rfl)) ?_; (with_reducible refine (laws_heldGabidulin.calls kj51 t200 t201 _ _ t210 t205 1 t223 _ ?side1 ?side2 A88.out).mono ?_); (case side1 => repeat (first | exact (Kd.R_reads' HO_208002.out).2.2 | (with_reducible refine Kd.C_alloc ?_ _) | (with_reducible refine Kd.C_drewN ?_ _) | (with_reducible refine Kd.C_drew ?_))); (case side2 => exact (Kd.R_reads' HO_208002.out).2.1); rintro e w105 ⟨rfl, hb⟩; refine ⟨_, rfl, ?_⟩; have n0_ := Aside0.mk (Kd.R_below (by (with_reducible repeat (first | apply Kd.R_alloc | apply Kd.R_drewN | apply Kd.R_drew)); exact HO_198002.out) hb); have n1_ := Aside0.mk (Kd.R_below (by (with_reducible repeat (first | apply Kd.R_alloc | apply Kd.R_drewN | apply Kd.R_drew)); exact HO_208002.out) hb); have n2_ := Aside0.mk (Kd.R_below (by (with_reducible repeat (first | apply Kd.R_alloc | apply Kd.R_drewN | apply Kd.R_drew)); exact HO_222002.out) hb); have n3_ := Aside0.mk (blk_below (g := gb187) (o := .cells #[.int .i64 a0_0, .int .i64 a0_1] 23 (0, 0)) (by (with_reducible repeat (first | refine blk_drewN ?_ _ | refine blk_drew ?_ | refine blk_alloc ?_ _)); exact BK187.out) hb); have n4_ := Aside0.mk (blk_below (g := gb197) (o := .cells #[.int .i64 t190, .int .i64 t191, .slice Ao16 t192.length co16, .int .i64 t195] 48 (0, 0)) (by (with_reducible repeat (first | refine blk_drewN ?_ _ | refine blk_drew ?_ | refine blk_alloc ?_ _)); exact BK197.out) hb); have n5_ := Aside0.mk (blk_below (g := gb207) (o := .cells #[.int .i64 t200, .int .i64 t201, .slice Ao24 t210.length co24, .int .i64 t205] 48 (0, 0)) (by (with_reducible repeat (first | refine blk_drewN ?_ _ | refine blk_drew ?_ | refine blk_alloc ?_ _)); exact BK207.out) hb); have n6_ := Aside0.mk (blk_below (g := gb221) (o := .cells #[.int .i64 t214, .int .i64 t215, .slice Ao68 t216.length co68, .int .i64 t219] 48 (0, 0)) (by (with_reducible repeat (first | refine blk_drewN ?_ _ | refine blk_drew ?_ | refine blk_alloc ?_ _)); exact BK221.out) hb); have n7_ := Aside0.mk (below_step (by repeat (first | (with_reducible first | exact HB.out | apply below_alloc | apply pw_below_drewN | apply below_drew1 | refine below_set ?_ GE187.out | refine below_set ?_ GE197.out | refine below_set ?_ GE207.out | refine below_set ?_ GE221.out) | exact HB.out)) hb); clear HO_198002; clear HO_208002; clear HO_222002; clear BK187; clear BK197; clear BK207; clear BK221; clear HB; have HO_198002 := n0_; have HO_208002 := n1_; have HO_222002 := n2_; have BK187 := n3_; have BK197 := n4_; have BK207 := n5_; have BK221 := n6_; have HB := n7_; clear n0_ n1_ n2_ n3_ n4_ n5_ n6_ n7_; (try clear hb); (try clear hb2); (try clear hk); (try clear hi)))
                      go_ret
                      exact ⟨by first | rfl | (simp [errW_none, errW_some] <;> rfl) | (simp [*, errW_none, errW_some] <;> rfl), by repeat (first | (with_reducible first | exact HB.out | apply below_alloc | apply pw_below_drewN | apply below_drew1 | refine below_set ?_ GE187.out | refine below_set ?_ GE197.out | refine below_set ?_ GE207.out | refine below_set ?_ GE221.out) | exact HB.out)⟩
          · rw [if_neg c49] at H
            have c49b0 : (t211 == t209) = false := beq_eq_false_iff_ne.mpr c49
            have c49b1 : (t211 != t209) = true := bne_iff_ne.mpr c49
            obtain rfl := Option.some.inj H
            have hnb106 := NB207_187.out
            have hnc106 := NB187_207.out
            have hnb107 := NB207_197.out
            have hnc107 := NB197_207.out
            have hcz108_0 : wc.cell? ⟨gb207, 0, none⟩ = some (.int .i64 t200) := (blk_cell BK207.out 0).trans rfl
            have hcz108_1 : wc.cell? ⟨gb207, 1, none⟩ = some (.int .i64 t201) := (blk_cell BK207.out 1).trans rfl
            have hcz108_2 : wc.cell? ⟨gb207, 2, none⟩ = some (.slice Ao24 t202.length co24) := (blk_cell BK207.out 2).trans rfl
            have hcz108_3 : wc.cell? ⟨gb207, 3, none⟩ = some (.int .i64 t205) := (blk_cell BK207.out 3).trans rfl
            have hfz108_0 := blk_frozen BK207.out 0
            have hfz108_1 := blk_frozen BK207.out 1
            have hfz108_2 := blk_frozen BK207.out 2
            have hfz108_3 := blk_frozen BK207.out 3
            go_wp2_with (first | ((with_reducible refine gate_callee (f := 40) rfl ?_); refine goesL_ (some 42) rfl rfl Try.func40 (by kernel_rfl) rfl #[.agg #[.int .i64 t200, .int .i64 t201, .slice Ao24 t202.length co24, .int .i64 t205], .int .i64 1] rfl (by (try simp only [List.map_toArray, List.map_cons, List.map_nil]); first | done | rfl | (simp only [List.length_drop, List.length_take]; rfl)) ?_; (with_reducible refine (laws_markGabidulin.calls kj7 t200 t201 (fun k_ => some k_ = (.slice Ao24 t202.length co24 : Value).ownBlock) (.slice Ao24 t202.length co24) t202 t205 1 t209 t210 w _ ?side1 ?side2 A40.out).mono ?_); (case side1 => repeat (first | (with_reducible first | exact HB.out | apply below_alloc | apply pw_below_drewN | apply below_drew1 | refine below_set ?_ GE187.out | refine below_set ?_ GE197.out | refine below_set ?_ GE207.out) | exact HB.out)); (case side2 => exact Kd.R_tight rfl HO_208002.out); rintro e w109 ⟨rfl, hy0, hb, hkp⟩; refine ⟨_, rfl, ?_⟩; have n0_ := Aside0.mk (Kd.R_mono (ok' := fun k_ => some k_ ≠ (.slice Ao24 t202.length co24 : Value).ownBlock) (Kd.R_keptB (HO_198002.out) hkp (fun k_ hk_ hs_ => (hk_) hs_)) (fun k_ hk_ => hk_.1)); have n1_ := Aside0.mk (Kd.R_reok rfl hy0 (fun k_ e_ => HO_208002.out.1 k_ e_)); have n2_ := Aside0.mk (blk_kept (by (with_reducible repeat (first | refine blk_drewN ?_ _ | refine blk_drew ?_ | refine blk_alloc ?_ _)); exact BK187.out) hkp (fun hs_ => (fun e_ => (Kd.R_ne HO_208002.out BK187.out (by decide)) e_) hs_)); have n3_ := Aside0.mk (blk_kept (by (with_reducible repeat (first | refine blk_drewN ?_ _ | refine blk_drew ?_ | refine blk_alloc ?_ _)); exact BK197.out) hkp (fun hs_ => (fun e_ => (Kd.R_ne HO_208002.out BK197.out (by decide)) e_) hs_)); have n4_ := Aside0.mk (blk_kept (by (with_reducible repeat (first | refine blk_drewN ?_ _ | refine blk_drew ?_ | refine blk_alloc ?_ _)); exact BK207.out) hkp (fun hs_ => (fun e_ => (Kd.R_ne HO_208002.out BK207.out (by decide)) e_) hs_)); have n5_ := Aside0.mk (hb); clear HO_198002; clear HO_208002; clear BK187; clear BK197; clear BK207; clear HB; have HO_198002 := n0_; have HO_208002 := n1_; have BK187 := n2_; have BK197 := n3_; have BK207 := n4_; have HB := n5_; clear n0_ n1_ n2_ n3_ n4_ n5_; (try clear hb); (try clear hkp); (try clear hy0); have hcz110_0 : w109.cell? ⟨gb207, 0, none⟩ = some (.int .i64 t200) := (blk_cell BK207.out 0).trans rfl; have hcz110_1 : w109.cell? ⟨gb207, 1, none⟩ = some (.int .i64 t201) := (blk_cell BK207.out 1).trans rfl; have hcz110_2 : w109.cell? ⟨gb207, 2, none⟩ = some (.slice Ao24 t202.length co24) := (blk_cell BK207.out 2).trans rfl; have hcz110_3 : w109.cell? ⟨gb207, 3, none⟩ = some (.int .i64 t205) := (blk_cell BK207.out 3).trans rfl; have hfz110_0 := blk_frozen BK207.out 0; have hfz110_1 := blk_frozen BK207.out 1; have hfz110_2 := blk_frozen BK207.out 2; have hfz110_3 := blk_frozen BK207.out 3) | ((with_reducible refine gate_callee (f := 41) rfl ?_); refine goesL_ (some 45) rfl rfl Try.func41 (by kernel_rfl) rfl #[.agg #[.int .i64 t200, .int .i64 t201, .slice Ao24 t210.length co24, .int .i64 t205], .int .i64 1] rfl (by (try simp only [List.map_toArray, List.map_cons, List.map_nil]); first | done | (rw [show t210.length = t202.length from (Kd.R_reads' HO_208002.out).1.symm] <;> rfl) | rfl | (simp only [List.length_drop, List.length_take]; rfl)) ?_; (with_reducible refine (laws_heldGabidulin.calls kj7 t200 t201 _ _ t210 t205 1 t211 _ ?side1 ?side2 A41.out).mono ?_); (case side1 => repeat (first | exact (Kd.R_reads' HO_208002.out).2.2 | (with_reducible refine Kd.C_alloc ?_ _) | (with_reducible refine Kd.C_drewN ?_ _) | (with_reducible refine Kd.C_drew ?_))); (case side2 => rw [show t210.length = t202.length from (Kd.R_reads' HO_208002.out).1.symm]; exact (Kd.R_reads' HO_208002.out).2.1); rintro e w111 ⟨rfl, hb⟩; refine ⟨_, rfl, ?_⟩; have n0_ := Aside0.mk (Kd.R_below (by (with_reducible repeat (first | apply Kd.R_alloc | apply Kd.R_drewN | apply Kd.R_drew)); exact HO_198002.out) hb); have n1_ := Aside0.mk (Kd.R_below (by (with_reducible repeat (first | apply Kd.R_alloc | apply Kd.R_drewN | apply Kd.R_drew)); exact HO_208002.out) hb); have n2_ := Aside0.mk (blk_below (g := gb187) (o := .cells #[.int .i64 a0_0, .int .i64 a0_1] 23 (0, 0)) (by (with_reducible repeat (first | refine blk_drewN ?_ _ | refine blk_drew ?_ | refine blk_alloc ?_ _)); exact BK187.out) hb); have n3_ := Aside0.mk (blk_below (g := gb197) (o := .cells #[.int .i64 t190, .int .i64 t191, .slice Ao16 t192.length co16, .int .i64 t195] 48 (0, 0)) (by (with_reducible repeat (first | refine blk_drewN ?_ _ | refine blk_drew ?_ | refine blk_alloc ?_ _)); exact BK197.out) hb); have n4_ := Aside0.mk (blk_below (g := gb207) (o := .cells #[.int .i64 t200, .int .i64 t201, .slice Ao24 t202.length co24, .int .i64 t205] 48 (0, 0)) (by (with_reducible repeat (first | refine blk_drewN ?_ _ | refine blk_drew ?_ | refine blk_alloc ?_ _)); exact BK207.out) hb); have n5_ := Aside0.mk (below_step (by repeat (first | (with_reducible first | exact HB.out | apply below_alloc | apply pw_below_drewN | apply below_drew1 | refine below_set ?_ GE187.out | refine below_set ?_ GE197.out | refine below_set ?_ GE207.out) | exact HB.out)) hb); clear HO_198002; clear HO_208002; clear BK187; clear BK197; clear BK207; clear HB; have HO_198002 := n0_; have HO_208002 := n1_; have BK187 := n2_; have BK197 := n3_; have BK207 := n4_; have HB := n5_; clear n0_ n1_ n2_ n3_ n4_ n5_; (try clear hb); (try clear hb2); (try clear hk); (try clear hi)))
            go_ret
            exact ⟨by first | rfl | (simp [errW_none, errW_some] <;> rfl) | (simp [*, errW_none, errW_some] <;> rfl), by repeat (first | (with_reducible first | exact HB.out | apply below_alloc | apply pw_below_drewN | apply below_drew1 | refine below_set ?_ GE187.out | refine below_set ?_ GE197.out | refine below_set ?_ GE207.out) | exact HB.out)⟩

/-- THE ONE PURE STATEMENT of laws_FnExactFirstGabidulin. -/
def laws_FnExactFirstGabidulin.Pure : Prop := ∀ (a0_0 : Int) (a0_1 : Int) (a1 : Int) (a2 : Int), (Lit.int .i64 a0_0).wf = true → (Lit.int .i64 a0_1).wf = true → (Lit.int .i64 a1).wf = true → (Lit.int .i64 a2).wf = true → ∃ k, laws_FnExactFirstGabidulin.f k a0_0 a0_1 a1 a2 = some true

end Go.Proofs.Ytaopplbahakpgaa.PFnExactFirstGabidulin
