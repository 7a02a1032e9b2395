/- The program's spaces and SpacesOf hand back what the plain functions spacesF.f and implSO.f tell. -/
import Derived.Test.YtaopplbahakpgaaPFnExactGreedySpacesxb
import Derived.Laws.EntriesVeiled
namespace Go.Proofs.Ytaopplbahakpgaa.PFnExactGreedySpaces
open Go.RowKit Go.Proofs.YtaopplbahakpgaaW.PrintWords Go.Proofs.YtaopplbahakpgaaW.PrintLast Go.Proofs.YtaopplbahakpgaaW.PrintMore
attribute [local go_sem] max2_int min2_int max_two min_two max_three min_three max_four min_four   -- for this text's walks alone
set_option linter.unusedVariables false
set_option linter.unusedSimpArgs false
def kerL : Nat → List S33 → Int → List S33 → Option (List S33)
 | 0, _, _, _ => none
 | k + 1, us, i, out => if i < (us.length : Int) then (if 0 ≤ i then ((impl_Matrix_kernel.f k (rd_T33 us i).f0 (rd_T33 us i).f1).bind fun (r1, r2) => (if out.length < 4398046511104 then kerL k us (wrap64 (i + 1)) (out ++ [(⟨r1, r2⟩ : S33)]) else none)) else none) else some out
def spacesF.f : Nat → Int → Int → Option (List S33)
 | 0, _, _ => none
 | k + 1, n, kk => if n < wrap64 (2 * kk) then ((spacesF.f k n (wrap64 (n - kk))).bind fun us => ((kerL k us 0 []).bind fun o => (if o.length < 4398046511104 then sortS n o else none))) else ((fromL.f k n kk [] []).bind fun o => (if o.length < 4398046511104 then sortS n o else none))
structure OW (W : World) (base gk go gn : Nat) (kk n : Int) (v : Value) (out : List (S33)) : Prop where
 hk : W.heap[gk]? = some (.cells #[.int .i64 kk] 2 (0, 0))
 hn : W.heap[gn]? = some (.cells #[.int .i64 n] 2 (0, 0))
 ho : W.heap[go]? = some (.cells #[v] 60 (0, 0))
 bk : gk < base
 bn : gn < base
 bo : base ≤ go
 s : Kd.S k33 33 W base (fun k => base ≤ k) v out
theorem OW.step {W W1 : World} {base gk go gn : Nat} {kk n : Int} {v : Value} {out : List S33} (h : OW W base gk go gn kk n v out) (hb : Below W.heap.size W W1) : OW W1 base gk go gn kk n v out :=
 ⟨blk_below h.hk hb, blk_below h.hn hb, blk_below h.ho hb, h.bk, h.bn, h.bo, Kd.S_below h.s hb⟩
theorem OW.set {W : World} {base gk go gn : Nat} {kk n : Int} {v x : Value} {out : List S33} (hk : W.heap[gk]? = some (.cells #[.int .i64 kk] 2 (0, 0))) (hn : W.heap[gn]? = some (.cells #[.int .i64 n] 2 (0, 0))) (ho : W.heap[go]? = some (.cells #[x] 60 (0, 0))) (bk : gk < base) (bn : gn < base) (bo : base ≤ go) (s : Kd.S k33 33 W base (fun k => base ≤ k) v out) : OW (W.setCell ⟨go, 0, none⟩ v) base gk go gn kk n v out :=
 ⟨blk_far hk (fun e_ => by have h1_ : gk = go := e_; omega) _, blk_far hn (fun e_ => by have h1_ : gn = go := e_; omega) _, blk_put ho 0 _ rfl, bk, bn, bo, Kd.S_set s ho (by decide) 0 v⟩
theorem FW.set {W : World} {base gk go gn gf : Nat} {kk n : Int} {v x : Value} {out : List S33} (h : OW W base gk go gn kk n v out) (hf : W.heap[gf]? = some (.cells #[x] 113 (0, 0))) : FW (W.setCell ⟨gf, 0, none⟩ (.func (.func 134) #[] #[.pointer (some ⟨gk, 0, none⟩), .pointer (some ⟨go, 0, none⟩), .pointer (some ⟨gn, 0, none⟩), .pointer (some ⟨gf, 0, none⟩)])) base gk go gn gf kk n v out := by
 have hne : ∀ {g t : Nat} {cs : Array Value}, W.heap[g]? = some (.cells cs t (0, 0)) → t ≠ 113 → g ≠ gf := by
  intro g t cs hg ht e
  subst e
  rw [hg] at hf
  injection hf with hf
  injection hf with _ h2
  exact ht h2
 exact ⟨blk_far h.hk (hne h.hk (by decide)) _, blk_far h.hn (hne h.hn (by decide)) _, blk_far h.ho (hne h.ho (by decide)) _, blk_put hf 0 _ rfl, h.bk, h.bn, h.bo, Kd.S_set h.s hf (by decide) 0 _⟩
structure KW (W : World) (base qo : Nat) (U : Nat → Prop) (vu : Value) (us : List S33) (v : Value) (out : List S33) : Prop where
 ho : W.heap[qo]? = some (.cells #[v] 60 (0, 0))
 su : Kd.S k33 33 W base U vu us
 s : Kd.S k33 33 W base (fun k => base ≤ k ∧ ¬ U k) v out
 lt : ∀ k, U k → k < W.heap.size
 bo : base ≤ qo
section
variable {W W1 : World} {base qo : Nat} {U : Nat → Prop} {vu v v1 : Value} {us out out1 : List S33}
theorem KW.step (h : KW W base qo U vu us v out) (hb : Below W.heap.size W W1) : KW W1 base qo U vu us v out :=
 ⟨blk_below h.ho hb, Kd.S_below h.su hb, Kd.S_below h.s hb, fun k hk => Nat.lt_of_lt_of_le (h.lt k hk) hb.size, h.bo⟩
theorem KW.mk7 {w7 w8 : World} {qk qn N7 c8 : Nat} {kk n : Int} {v0 : Value} {A8 : Option Addr} (h : OW w7 base qk qo qn kk n v0 []) (hN : N7 = w7.heap.size) (hs : Kd.S k33 33 w8 w7.heap.size (fun _ => True) (.slice A8 us.length c8) us) (hb : Below w7.heap.size w7 w8) : KW w8 base qo (fun k_ => N7 ≤ k_ ∧ k_ < w8.heap.size) (.slice A8 us.length c8) us v0 [] := by
 subst hN
 refine ⟨blk_below h.ho hb, Kd.S_lower (Kd.S_mono (Kd.S_bound hs) (fun k hk => ⟨hk.2.1, hk.2.2.1⟩)) (Nat.le_trans h.bo (Nat.le_of_lt (blk_lt h.ho))), ?_, fun k hk => hk.2, h.bo⟩
 exact Kd.S_mono (Kd.S_below (Kd.S_bound h.s) hb) (fun k hk => ⟨hk.1, fun h2 => by have := hk.2.2.1; omega⟩)
theorem KW.app (h : KW W base qo U vu us v out) (hs : Kd.S k33 33 W1 base (fun k => base ≤ k ∧ ¬ U k) v1 out1) (hg : W.grownBy W1 v.ownBlock) : KW (W1.setCell ⟨qo, 0, none⟩ v1) base qo U vu us v1 out1 := by
 have ho2 := blk_grown h.ho hg (Kd.S_ne h.s h.ho (by decide))
 obtain ⟨f, h0, _⟩ := h.s
 refine ⟨blk_put ho2 0 _ rfl, Kd.S_set (Kd.S_grown h.su hg (fun k hk e => (h0 k e.symm).2 hk)) ho2 (by decide) 0 _, Kd.S_set hs ho2 (by decide) 0 _, fun k hk => ?_, h.bo⟩
 have h1 := hg.size
 have h2 := h.lt k hk
 simp only [World.setCell, Array.size_modify]
 omega
end
set_option maxHeartbeats 8000000 in
set_option maxRecDepth 100000 in
theorem spaces_calls (k : Nat) : ∀ (n kk : Int) (r : List S33) (w : World), spacesF.f k n kk = some r →
  Calls Try.prog 90 #[.int .i64 n, .int .i64 kk] w fun e w' => ∃ v', e = .returned v' ∧ Kd.S k33 33 w' w.heap.size (fun _ => True) v' r ∧ Below w.heap.size w w' := by
 induction k using Nat.strongRecOn with
 | _ k ih =>
 intro n kk r w H
 cases k with
 | zero => exact absurd H (by simp [spacesF.f])
 | succ k =>
 simp only [spacesF.f] at H
 have hu33 := Try.underlying33
 have HB := Aside0.mk (Below.refl w.heap.size w)
 by_cases c1 : n < wrap64 (2 * kk)
 ·rw [if_pos c1] at H
  have c1b0 : decide (n < wrap64 (2 * kk)) = true := decide_eq_true c1
  clear c1
  replace H := Option.bind_eq_some_iff.mp H
  obtain ⟨us, A10, H⟩ := H
  have A1 := Aside0.mk A10
  clear A10
  replace H := Option.bind_eq_some_iff.mp H
  obtain ⟨o, A20, H⟩ := H
  have H' := Aside0.mk A20
  clear A20
  by_cases c2 : o.length < 4398046511104
  ·rw [if_pos c2] at H
   have A2 := Aside0.mk H
   have LM2 := Aside0.mk c2
   clear c2 H
   go_enter Try.func90, Try.ntmps90
   go_wp2_with (first | ((with_reducible refine gate_dst (N := 2) rfl ?_); refine box_event ?hg (N := 2) ?hd (cs := #[.int .i64 n]) (t := 2) ?hr ?_; (case hd => rfl); (case hg => rfl); (case hr => first | (go_simp; done) | (go_simp; rfl)); intro qn hqn w3 hbox hb; have n0_ := Aside0.mk (below_step (by repeat (first | (with_reducible first | exact HB.out | apply below_alloc | apply pw_below_drewN | apply below_drew1) | exact HB.out)) hb); have BKn := Aside0.mk hbox; clear HB; have HB := n0_; clear n0_ hb hbox hqn) | ((with_reducible refine gate_dst (N := 3) rfl ?_); refine box_event ?hg (N := 3) ?hd (cs := #[.int .i64 kk]) (t := 2) ?hr ?_; (case hd => rfl); (case hg => rfl); (case hr => first | (go_simp; done) | (go_simp; rfl)); intro qk hqk w4 hbox hb; have n1_ := Aside0.mk (blk_below (g := qn) (o := .cells #[.int .i64 n] 2 (0, 0)) (by (with_reducible repeat (first | refine blk_drewN ?_ _ | refine blk_drew ?_ | refine blk_alloc ?_ _)); exact BKn.out) hb); have n0_ := Aside0.mk (below_step (by repeat (first | (with_reducible first | exact HB.out | apply below_alloc | apply pw_below_drewN | apply below_drew1) | exact HB.out)) hb); have BKk := Aside0.mk hbox; clear HB BKn; have HB := n0_; have BKn := n1_; clear n0_ n1_ hb hbox hqk; obtain ⟨base, hbase⟩ : ∃ b_, b_ = w4.heap.size := ⟨_, rfl⟩; have LTk := Aside0.mk (show qk < base by rw [hbase]; exact blk_lt BKk.out); have LTn := Aside0.mk (show qn < base by rw [hbase]; exact blk_lt BKn.out); have HBASE := Aside0.mk hbase; clear hbase; have WB := Aside0.mk (show w.heap.size ≤ base by rw [HBASE.out]; exact below_size HB.out)) | ((with_reducible refine gate_dst (N := 10) rfl ?_); refine Kd.S_lit k33 _ 33 ?hg (N := 10) ?hd (xs := ([] : List S33)) (inner := []) (ok := fun _ => True) (okp := fun _ => True) ?hr ?hp (fun _ hk => hk) trivial (Below.refl _ _) (Nat.le_refl _) (by simp) ?_; (case hd => rfl); (case hg => rfl); (case hr => first | (go_simp; done) | (go_simp; rfl)); (case hp => exact (Reps.none _ _)); intro v0 w5 hs hb hg_ hnew_; clear hg_ hnew_; have n0_ := Aside0.mk (below_step (by repeat (first | (with_reducible first | exact HB.out | apply below_alloc | apply pw_below_drewN | apply below_drew1) | exact HB.out)) hb); have n1_ := Aside0.mk (blk_below (g := qn) (o := .cells #[.int .i64 n] 2 (0, 0)) (by (with_reducible repeat (first | refine blk_drewN ?_ _ | refine blk_drew ?_ | refine blk_alloc ?_ _)); exact BKn.out) hb); have n2_ := Aside0.mk (blk_below (g := qk) (o := .cells #[.int .i64 kk] 2 (0, 0)) (by (with_reducible repeat (first | refine blk_drewN ?_ _ | refine blk_drew ?_ | refine blk_alloc ?_ _)); exact BKk.out) hb); have n3_ : Aside0 (Kd.S k33 33 w5 base (fun k_ => base ≤ k_) v0 []) := ⟨by rw [HBASE.out]; exact Kd.S_mono (Kd.S_bound hs) (fun k_ hk => hk.2.1)⟩; have n4_ : Aside0 (base ≤ w5.heap.size) := ⟨by rw [HBASE.out]; exact hb.size⟩; clear HB BKn BKk; have HB := n0_; have BKn := n1_; have BKk := n2_; have HS := n3_; have HZ := n4_; clear n0_ n1_ n2_ n3_ n4_ hs hb) | ((with_reducible refine gate_dst (N := 5) rfl ?_); refine box_event ?hg (N := 5) ?hd (cs := #[.slice none 0 0]) (t := 60) ?hr ?_; (case hd => rfl); (case hg => rfl); (case hr => first | (go_simp; done) | (go_simp; rfl)); intro qo hqo w6 hbox hb; have n0_ := Aside0.mk (below_step (by repeat (first | (with_reducible first | exact HB.out | apply below_alloc | apply pw_below_drewN | apply below_drew1) | exact HB.out)) hb); have n1_ := Aside0.mk (blk_below (g := qn) (o := .cells #[.int .i64 n] 2 (0, 0)) (by (with_reducible repeat (first | refine blk_drewN ?_ _ | refine blk_drew ?_ | refine blk_alloc ?_ _)); exact BKn.out) hb); have n2_ := Aside0.mk (blk_below (g := qk) (o := .cells #[.int .i64 kk] 2 (0, 0)) (by (with_reducible repeat (first | refine blk_drewN ?_ _ | refine blk_drew ?_ | refine blk_alloc ?_ _)); exact BKk.out) hb); have n3_ := Aside0.mk (Kd.S_below (by (with_reducible repeat (first | apply Kd.S_alloc | apply Kd.S_drewN | apply Kd.S_drew)); exact HS.out) hb); have BKo := Aside0.mk hbox; have GEo := Aside0.mk (show base ≤ qo by rw [hqo]; exact HZ.out); clear HB BKn BKk HS; have HB := n0_; have BKn := n1_; have BKk := n2_; have HS := n3_; clear n0_ n1_ n2_ n3_ hb hbox hqo; have hczo : w6.cell? ⟨qo, 0, none⟩ = some (.slice none 0 0) := (blk_cell BKo.out 0).trans rfl; have hfzo := blk_frozen BKo.out 0) | ((with_reducible refine gate_store (t := 60) (p := 5) rfl ?_); refine store_event (t := 60) (p := 5) (v := ?vo_) (w1 := (w6.setCell ⟨qo, 0, none⟩ v0)) ?hg ?ho ?hn ?hr ?_; (case ho => rfl); (case hg => rfl); (case hn => rfl); (case hr => obtain ⟨A0_, c0_, e0_⟩ := Kd.S_slice HS.out; subst e0_; first | (go_simp; done) | (go_simp; rfl)); intro w7 hw7; have OW1 : Aside0 (OW w7 base qk qo qn kk n v0 []) := ⟨by rw [hw7]; exact OW.set BKk.out BKn.out BKo.out LTk.out LTn.out GEo.out HS.out⟩; have n0_ : Aside0 (Below w.heap.size w w7) := ⟨by rw [hw7]; exact below_set HB.out (Nat.le_trans WB.out GEo.out)⟩; clear HB BKn BKk BKo HS hczo hfzo hw7 HZ; have HB := n0_; clear n0_; have hczk : w7.cell? ⟨qk, 0, none⟩ = some (.int .i64 kk) := (blk_cell OW1.out.hk 0).trans rfl; have hczn : w7.cell? ⟨qn, 0, none⟩ = some (.int .i64 n) := (blk_cell OW1.out.hn 0).trans rfl; have hfzk := blk_frozen OW1.out.hk 0; have hfzn := blk_frozen OW1.out.hn 0) | ((with_reducible refine gate_callee (f := 90) rfl ?_); refine goesL_ (some 20) rfl rfl Try.func90 (by kernel_rfl) rfl #[.int .i64 n, .int .i64 (wrap64 (n - kk))] rfl (by (try simp only [List.map_toArray, List.map_cons, List.map_nil]); first | done | rfl | (simp only [List.length_drop, List.length_take]; rfl)) ?_; (with_reducible refine (ih k (Nat.lt_succ_self _) n (wrap64 (n - kk)) us _ A1.out).mono ?_); rintro e w8 ⟨v8, rfl, hs, hb⟩; refine ⟨_, rfl, ?_⟩; obtain ⟨A8, c8, e8⟩ := Kd.S_slice hs; subst e8; obtain ⟨N7, hN7⟩ : ∃ N_, N_ = w7.heap.size := ⟨_, rfl⟩; have KW1 : Aside0 (KW w8 base qo (fun k_ => N7 ≤ k_ ∧ k_ < w8.heap.size) (.slice A8 us.length c8) us v0 []) := ⟨KW.mk7 OW1.out hN7 hs hb⟩; have n0_ := Aside0.mk (below_step (by repeat (first | (with_reducible first | exact HB.out | apply below_alloc | apply pw_below_drewN | apply below_drew1) | exact HB.out)) hb); clear HB hs hb OW1 hczk hczn hfzk hfzn; have HB := n0_; clear n0_))
   have HL8 := Aside0.mk (Kd.S_reads' KW1.out.su).2.1
   go_loopg [22] k (fun kq v22 w' => ∃ (x22_1 : Int) (v1 : Value) (o1 : List S33), v22 = .int .i64 x22_1 ∧ Aside0 (kerL kq us x22_1 o1 = some o) ∧ Aside0 (kq ≤ k) ∧ Aside0 (KW w' base qo (fun k_ => N7 ≤ k_ ∧ k_ < w8.heap.size) (.slice A8 us.length c8) us v1 o1) ∧ Aside0 (Below w.heap.size w w'))
   case atStart => exact ⟨0, v0, [], rfl, H', ⟨Nat.le_refl _⟩, ⟨KW1.out.step (by repeat (first | (with_reducible first | exact Below.refl _ _ | apply below_alloc | apply pw_below_drewN | apply below_drew1)))⟩, ⟨(by repeat (first | (with_reducible first | exact HB.out | apply below_alloc | apply pw_below_drewN | apply below_drew1) | exact HB.out))⟩⟩
   case round =>
    clear H' HB KW1
    try clear c1b0
    obtain ⟨x22_1, v1, o1, rfl, HA, HK1, KW1, HB⟩ := hrel
    cases gk with
    | zero => exact absurd HA.out (by simp [kerL])
    | succ k1 =>
     have H := HA.out
     clear HA
     simp only [kerL] at H
     by_cases c4 : x22_1 < (us.length : Int)
     ·rw [if_pos c4] at H
      have c4b0 : decide (x22_1 < (us.length : Int)) = true := decide_eq_true c4
      by_cases c5 : 0 ≤ x22_1
      ·rw [if_pos c5] at H
       have c5b0 : decide (0 ≤ x22_1) = true := decide_eq_true c5
       replace H := Option.bind_eq_some_iff.mp H
       obtain ⟨⟨r1, r2⟩, A240, H⟩ := H
       have A24_ := Aside0.mk A240
       clear A240
       dsimp only at H
       by_cases c6 : o1.length < 4398046511104
       ·rw [if_pos c6] at H
        have LM6 := Aside0.mk c6
        clear c6
        have H' := Aside0.mk H
        clear H
        obtain ⟨ad24, A24, c24, e24, hx24_0, hx24_1, hl24, hi24⟩ := at_T33 (Kd.S_reads' KW1.out.su).2.2 x22_1 c5 c4
        cases e24
        have HC24 := Aside0.mk hi24
        have HL24 := Aside0.mk hl24
        clear hi24 hl24
        replace c5 := eq_true c5
        replace c4 := eq_true c4
        go_wp2_with (first | ((with_reducible refine gate_dst (N := 8) rfl ?_); refine box_event ?hg (N := 8) ?hd (cs := #[.int .i64 0, .slice none 0 0]) (t := 33) ?hr ?_; (case hd => rfl); (case hg => rfl); (case hr => first | (go_simp; done) | (go_simp; rfl)); intro qu hqu w9 hbox hb; have HB1 := Aside0.mk hb; have BKu := Aside0.mk hbox; have GEu := Aside0.mk (show wr.heap.size ≤ qu by rw [hqu]; exact Nat.le_refl _); have hczu0 : w9.cell? ⟨qu, 0, none⟩ = some (.int .i64 0) := (blk_cell BKu.out 0).trans rfl; have hczu1 : w9.cell? ⟨qu, 1, none⟩ = some (.slice none 0 0) := (blk_cell BKu.out 1).trans rfl; have hfzu0 := blk_frozen BKu.out 0; have hfzu1 := blk_frozen BKu.out 1; clear hb hbox hqu) | ((with_reducible refine gate_store (t := 33) (p := 8) rfl ?_); refine store_event (t := 33) (p := 8) (v := ?vo3_) (w1 := ((w9.setCell ⟨qu, 0, none⟩ (.int .i64 (rd_T33 us x22_1).f0)).setCell ⟨qu, 1, none⟩ (.slice A24 (rd_T33 us x22_1).f1.length c24))) ?hg ?ho ?hn ?hr ?_; (case ho => rfl); (case hg => rfl); (case hn => rfl); (case hr => first | (go_simp; done) | (go_simp; rfl)); intro w10 hw10; have BKv : Aside0 (w10.heap[qu]? = some (.cells #[.int .i64 (rd_T33 us x22_1).f0, .slice A24 (rd_T33 us x22_1).f1.length c24] 33 (0, 0))) := ⟨by rw [hw10]; exact blk_put (blk_put BKu.out 0 _ rfl) 1 _ rfl⟩; have n0_ : Aside0 (Below wr.heap.size wr w10) := ⟨by rw [hw10]; exact below_set (below_set HB1.out GEu.out) GEu.out⟩; clear HB1 BKu hczu0 hczu1 hfzu0 hfzu1 hw10; have HB1 := n0_; clear n0_))
        have KW2 := Aside0.mk (KW1.out.step HB1.out)
        have HBR := Aside0.mk (show base ≤ wr.heap.size from Nat.le_trans KW1.out.bo (Nat.le_of_lt (blk_lt KW1.out.ho)))
        refine start_ (n := 6) (S := fun w' => w'.cell? ⟨qo, 0, none⟩ = some v1 ∧ w'.cell? ⟨qu, 0, none⟩ = some (.int .i64 (rd_T33 us x22_1).f0) ∧ w'.cell? ⟨qu, 1, none⟩ = some (.slice A24 (rd_T33 us x22_1).f1.length c24)) (ds := [5]) #[false, false, false, false, false, false] (by kernel_rfl) rfl rfl ⟨(blk_cell KW2.out.ho 0).trans rfl, (blk_cell BKv.out 0).trans rfl, (blk_cell BKv.out 1).trans rfl⟩ (fun hHeld => ?_)
        have n0_ := Aside0.mk (below_drew1 HB1.out)
        have n1_ := Aside0.mk (blk_drew BKv.out)
        have n2_ := Aside0.mk (KW2.out.step (below_drew1 (Below.refl _ _)))
        clear HB1 BKv KW2
        have HB1 := n0_
        have BKv := n1_
        have KW2 := n2_
        clear n0_ n1_ n2_
        generalize w10.drew = w11 at HB1 hHeld BKv KW2 ⊢
        refine take_ (i := 0) (N := some 26) (v := ?_) (a' := ?_) #[true, false, false, false, false, false] rfl rfl (by kernel_rfl) (fun _ _ _ h => h) (Or.inl ⟨by rfl, ?_⟩) hHeld ?_ ?_
        rotate_left
        ·rintro w' ⟨s0, s1, s2⟩
         go_simp
         with_reducible rfl
        rotate_left
        ·simp only [Act.put, List.setIfInBounds_toArray, List.set_cons_zero, List.set_cons_succ, i64_w, i32_w]
         rfl
        refine take_ (i := 1) (N := some 27) (v := ?_) (a' := ?_) #[true, true, false, false, false, false] rfl rfl (by kernel_rfl) (fun _ _ _ h => h) (Or.inl ⟨by rfl, ?_⟩) hHeld ?_ ?_
        rotate_left
        ·rintro w' ⟨s0, s1, s2⟩
         go_simp
         with_reducible rfl
        rotate_left
        ·simp only [Act.put, List.setIfInBounds_toArray, List.set_cons_zero, List.set_cons_succ, i64_w, i32_w]
         rfl
        refine one_ (i := 2) (N := some 28) #[true, true, true, false, false, false] rfl rfl (by kernel_rfl) (by decide) (fun K hK => ?_)
        refine goes_ Try.func133 (by kernel_rfl) rfl #[.agg #[.int .i64 (rd_T33 us x22_1).f0, .slice A24 (rd_T33 us x22_1).f1.length c24]] (by rfl) rfl rfl (by (try simp only [List.map_toArray, List.map_cons, List.map_nil]); first | done | rfl | (simp only [List.length_drop, List.length_take]; rfl)) ?_
        with_reducible refine (impl_Matrix_kernel.calls k1 _ _ _ _ r1 r2 _ ?side1 ?side2 A24_.out).mono ?_
        (case side1 => exact Kd.C_below HC24.out HB1.out)
        (case side2 => exact HL24.out)
        rintro e w12 ⟨v12, rfl, ho0, hb⟩
        refine ⟨_, rfl, ?_⟩
        have KW3 := Aside0.mk (KW2.out.step hb)
        have HOc := Aside0.mk ho0
        have BKw := Aside0.mk (blk_below BKv.out hb)
        have n0_ := Aside0.mk (below_step HB1.out hb)
        have SZ := Aside0.mk hb.size
        have HBK := Aside0.mk hb
        clear HB1
        have HB1 := n0_
        clear n0_ ho0 hb
        obtain ⟨Ao14, co14, eo14⟩ := Kd.R_slice HOc.out
        subst eo14
        refine hK.out _ _ ⟨(blk_cell KW3.out.ho 0).trans rfl, (blk_cell BKw.out 0).trans rfl, (blk_cell BKw.out 1).trans rfl⟩ (fun hHeld => ?_)
        clear hK K
        refine norm_ (a' := ?_) ?_ ?_
        rotate_left
        ·show Act.put _ (some 28) _ = _
         simp only [Act.put, List.setIfInBounds_toArray, List.set_cons_zero, List.set_cons_succ, i64_w, i32_w]
         rfl
        refine one_ (i := 3) (N := some 29) #[true, true, true, true, false, false] rfl rfl (by kernel_rfl) (by decide) (fun K hK => ?_)
        refine value_ (w1 := ?_) (v := ?_) (by rfl) rfl ?_ ?_
        rotate_left 2
        ·go_simp
         constructor
         ·rfl
         ·rfl
        refine hK.out _ _ ⟨(blk_cell (blk_alloc KW3.out.ho _) 0).trans rfl, (blk_cell (blk_alloc BKw.out _) 0).trans rfl, (blk_cell (blk_alloc BKw.out _) 1).trans rfl⟩ (fun hHeld => ?_)
        clear hK K
        refine norm_ (a' := ?_) ?_ ?_
        rotate_left
        ·show Act.put _ (some 29) _ = _
         simp only [Act.put, List.setIfInBounds_toArray, List.set_cons_zero, List.set_cons_succ, i64_w, i32_w]
         rfl
        refine one_ (i := 4) (N := some 30) #[true, true, true, true, true, false] rfl rfl (by kernel_rfl) (by decide) (fun K hK => ?_)
        have hlt_ : ∀ k_, v1.ownBlock = some k_ → k_ < w11.heap.size := Kd.S_lt KW2.out.s
        have hbz : base ≤ w11.heap.size := Nat.le_trans KW2.out.bo (Nat.le_of_lt (blk_lt KW2.out.ho))
        refine Kd.S_append_step k33 (w0 := wr) base (by rfl) (.tmp 26) (.tmp 29) 60 33 (.agg #[(.int .i64 0), (.slice none 0 0)]) 32 rfl Try.underlying60 info33 rfl (by decide) (by omega) v1 o1 (⟨r1, r2⟩ : S33) [.int .i64 r1, .slice Ao14 r2.length co14] (fun k_ => base ≤ k_ ∧ ¬ (N7 ≤ k_ ∧ k_ < w8.heap.size)) (fun k_ => w11.heap.size ≤ k_) rfl rfl ?aP ?aK ?aF ?aO ?aB ?aS ?aL ?_
        (case aP => exact k33_mkM _ _ _ (⟨r1, r2⟩ : S33) (Kd.R_lower (Kd.R_mono (Kd.R_bound HOc.out) (fun k_ hk => hk.2.1)) hbz))
        (case aK => exact fun k_ hk => ⟨⟨Nat.le_trans hbz hk, fun h2_ => by have := KW2.out.lt k_ h2_; omega⟩, fun e_ => by have := hlt_ k_ e_.symm; omega⟩)
        (case aF => exact fun k_ hk => ⟨Nat.le_trans hbz (Nat.le_trans SZ.out hk), fun h2_ => by have h3_ := KW2.out.lt k_ h2_; have h4_ := SZ.out; omega⟩)
        (case aO => exact Kd.S_mono (Kd.S_below (Kd.S_bound KW2.out.s) HBK.out) (fun k_ hk => ⟨hk.1, Nat.not_le_of_lt hk.2.2.1⟩))
        (case aB => exact (HB1.out.mono HBR.out))
        (case aS => exact Nat.le_trans hbz SZ.out)
        (case aL => have := LM6.out; omega)
        intro v30 w15 ho hb hg hat
        obtain ⟨Ao16, co16, eo16⟩ := Kd.S_slice ho
        subst eo16
        have hlr_ : ∀ k_, v1.ownBlock = some k_ → k_ < wr.heap.size := Kd.S_lt KW1.out.s
        have hnu : some qu ≠ v1.ownBlock := fun e_ => by have h1_ := hlr_ qu e_.symm; have h2_ := GEu.out; omega
        have KW4 := Aside0.mk (KW.app KW3.out ho hg)
        have BKo := Aside0.mk (blk_grown KW3.out.ho hg (Kd.S_ne KW3.out.s KW3.out.ho (by decide)))
        have BKu2 := Aside0.mk (blk_grown BKw.out hg hnu)
        have HB4 := Aside0.mk (below_set (g := qo) (j := 0) (v := .slice Ao16 (o1 ++ [(⟨r1, r2⟩ : S33)]).length co16) (HB.out.trans (hb.mono WB.out)) (Nat.le_trans WB.out KW3.out.bo))
        have hlen_ : (o1 ++ [(⟨r1, r2⟩ : S33)]).length = o1.length + 1 := by simp
        rw [hlen_] at KW4 HB4
        clear ho hb hg hat
        refine hK.out _ _ ⟨(blk_cell BKo.out 0).trans rfl, (blk_cell BKu2.out 0).trans rfl, (blk_cell BKu2.out 1).trans rfl⟩ (fun hHeld => ?_)
        clear hK K
        refine norm_ (a' := ?_) ?_ ?_
        rotate_left
        ·show Act.put _ (some 30) _ = _
         simp only [Act.put, List.setIfInBounds_toArray, List.set_cons_zero, List.set_cons_succ, i64_w, i32_w]
         rfl
        refine last_ (i := 5) (N := none) #[true, true, true, true, true, true] rfl rfl (by kernel_rfl) (by decide) (fun K hK => ?_)
        have hs17 : w15.cell? ⟨qo, 0, none⟩ = some v1 := (blk_cell BKo.out 0).trans rfl
        have hfs17 := blk_frozen BKo.out 0
        refine skip_ (w1 := ?_) (by rfl) rfl ?_ ?_
        rotate_left
        ·go_simp
         rfl
        refine hK.out _ _ ?_
        clear hK K
        refine done_ (by kernel_rfl) ?_
        try go_wp2
        go_roundg k1
        case measure => have := HK1.out; omega
        case rel => exact ⟨(wrap64 (x22_1 + 1)), _, _, (by first | rfl | (simp; done) | (simp [*]; done)), H', ⟨by have := HK1.out; omega⟩, ⟨KW4.out.step (by repeat (first | (with_reducible first | exact Below.refl _ _ | apply below_alloc | apply pw_below_drewN | apply below_drew1)))⟩, ⟨by repeat (first | (with_reducible first | exact HB4.out | apply below_alloc | apply pw_below_drewN | apply below_drew1) | exact HB4.out)⟩⟩
       ·rw [if_neg c6] at H
        exact absurd H (by simp)
      ·rw [if_neg c5] at H
       exact absurd H (by simp)
     ·rw [if_neg c4] at H
      have c4b0 : decide (x22_1 < (us.length : Int)) = false := decide_eq_false c4
      clear c4
      obtain rfl := Option.some.inj H
      go_wp2_with ((with_reducible refine (inOrder_calls KW1.out.ho (Kd.S_mono KW1.out.s (fun _ hk => hk.1)) LM2.out A2.out).mono ?_); rintro e w11 ⟨v3, rfl, hs, hb⟩; dsimp only; have HS3 := Aside0.mk hs; have n0_ := Aside0.mk (HB.out.trans (hb.mono WB.out)); clear HB hs hb KW1; have HB := n0_; clear n0_)
      go_ret
      exact ⟨_, rfl, Kd.S_mono (Kd.S_lower HS3.out WB.out) (fun _ _ => trivial), HB.out⟩
  ·rw [if_neg c2] at H
   exact absurd H (by simp)
 ·rw [if_neg c1] at H
  have c1b0 : decide (n < wrap64 (2 * kk)) = false := decide_eq_false c1
  clear c1
  replace H := Option.bind_eq_some_iff.mp H
  obtain ⟨o, A10, H⟩ := H
  have A1 := Aside0.mk A10
  clear A10
  by_cases c2 : o.length < 4398046511104
  ·rw [if_pos c2] at H
   have A2 := Aside0.mk H
   have LM2 := Aside0.mk c2
   clear c2 H
   go_enter Try.func90, Try.ntmps90
   go_wp2_with (first | ((with_reducible refine gate_dst (N := 2) rfl ?_); refine box_event ?hg (N := 2) ?hd (cs := #[.int .i64 n]) (t := 2) ?hr ?_; (case hd => rfl); (case hg => rfl); (case hr => first | (go_simp; done) | (go_simp; rfl)); intro qn hqn w3 hbox hb; have n0_ := Aside0.mk (below_step (by repeat (first | (with_reducible first | exact HB.out | apply below_alloc | apply pw_below_drewN | apply below_drew1) | exact HB.out)) hb); have BKn := Aside0.mk hbox; clear HB; have HB := n0_; clear n0_ hb hbox hqn) | ((with_reducible refine gate_dst (N := 3) rfl ?_); refine box_event ?hg (N := 3) ?hd (cs := #[.int .i64 kk]) (t := 2) ?hr ?_; (case hd => rfl); (case hg => rfl); (case hr => first | (go_simp; done) | (go_simp; rfl)); intro qk hqk w4 hbox hb; have n1_ := Aside0.mk (blk_below (g := qn) (o := .cells #[.int .i64 n] 2 (0, 0)) (by (with_reducible repeat (first | refine blk_drewN ?_ _ | refine blk_drew ?_ | refine blk_alloc ?_ _)); exact BKn.out) hb); have n0_ := Aside0.mk (below_step (by repeat (first | (with_reducible first | exact HB.out | apply below_alloc | apply pw_below_drewN | apply below_drew1) | exact HB.out)) hb); have BKk := Aside0.mk hbox; clear HB BKn; have HB := n0_; have BKn := n1_; clear n0_ n1_ hb hbox hqk; obtain ⟨base, hbase⟩ : ∃ b_, b_ = w4.heap.size := ⟨_, rfl⟩; have LTk := Aside0.mk (show qk < base by rw [hbase]; exact blk_lt BKk.out); have LTn := Aside0.mk (show qn < base by rw [hbase]; exact blk_lt BKn.out); have HBASE := Aside0.mk hbase; clear hbase; have WB := Aside0.mk (show w.heap.size ≤ base by rw [HBASE.out]; exact below_size HB.out)) | ((with_reducible refine gate_dst (N := 10) rfl ?_); refine Kd.S_lit k33 _ 33 ?hg (N := 10) ?hd (xs := ([] : List S33)) (inner := []) (ok := fun _ => True) (okp := fun _ => True) ?hr ?hp (fun _ hk => hk) trivial (Below.refl _ _) (Nat.le_refl _) (by simp) ?_; (case hd => rfl); (case hg => rfl); (case hr => first | (go_simp; done) | (go_simp; rfl)); (case hp => exact (Reps.none _ _)); intro v0 w5 hs hb hg_ hnew_; clear hg_ hnew_; have n0_ := Aside0.mk (below_step (by repeat (first | (with_reducible first | exact HB.out | apply below_alloc | apply pw_below_drewN | apply below_drew1) | exact HB.out)) hb); have n1_ := Aside0.mk (blk_below (g := qn) (o := .cells #[.int .i64 n] 2 (0, 0)) (by (with_reducible repeat (first | refine blk_drewN ?_ _ | refine blk_drew ?_ | refine blk_alloc ?_ _)); exact BKn.out) hb); have n2_ := Aside0.mk (blk_below (g := qk) (o := .cells #[.int .i64 kk] 2 (0, 0)) (by (with_reducible repeat (first | refine blk_drewN ?_ _ | refine blk_drew ?_ | refine blk_alloc ?_ _)); exact BKk.out) hb); have n3_ : Aside0 (Kd.S k33 33 w5 base (fun k_ => base ≤ k_) v0 []) := ⟨by rw [HBASE.out]; exact Kd.S_mono (Kd.S_bound hs) (fun k_ hk => hk.2.1)⟩; have n4_ : Aside0 (base ≤ w5.heap.size) := ⟨by rw [HBASE.out]; exact hb.size⟩; clear HB BKn BKk; have HB := n0_; have BKn := n1_; have BKk := n2_; have HS := n3_; have HZ := n4_; clear n0_ n1_ n2_ n3_ n4_ hs hb) | ((with_reducible refine gate_dst (N := 5) rfl ?_); refine box_event ?hg (N := 5) ?hd (cs := #[.slice none 0 0]) (t := 60) ?hr ?_; (case hd => rfl); (case hg => rfl); (case hr => first | (go_simp; done) | (go_simp; rfl)); intro qo hqo w6 hbox hb; have n0_ := Aside0.mk (below_step (by repeat (first | (with_reducible first | exact HB.out | apply below_alloc | apply pw_below_drewN | apply below_drew1) | exact HB.out)) hb); have n1_ := Aside0.mk (blk_below (g := qn) (o := .cells #[.int .i64 n] 2 (0, 0)) (by (with_reducible repeat (first | refine blk_drewN ?_ _ | refine blk_drew ?_ | refine blk_alloc ?_ _)); exact BKn.out) hb); have n2_ := Aside0.mk (blk_below (g := qk) (o := .cells #[.int .i64 kk] 2 (0, 0)) (by (with_reducible repeat (first | refine blk_drewN ?_ _ | refine blk_drew ?_ | refine blk_alloc ?_ _)); exact BKk.out) hb); have n3_ := Aside0.mk (Kd.S_below (by (with_reducible repeat (first | apply Kd.S_alloc | apply Kd.S_drewN | apply Kd.S_drew)); exact HS.out) hb); have BKo := Aside0.mk hbox; have GEo := Aside0.mk (show base ≤ qo by rw [hqo]; exact HZ.out); clear HB BKn BKk HS; have HB := n0_; have BKn := n1_; have BKk := n2_; have HS := n3_; clear n0_ n1_ n2_ n3_ hb hbox hqo; have hczo : w6.cell? ⟨qo, 0, none⟩ = some (.slice none 0 0) := (blk_cell BKo.out 0).trans rfl; have hfzo := blk_frozen BKo.out 0) | ((with_reducible refine gate_store (t := 60) (p := 5) rfl ?_); refine store_event (t := 60) (p := 5) (v := ?vo_) (w1 := (w6.setCell ⟨qo, 0, none⟩ v0)) ?hg ?ho ?hn ?hr ?_; (case ho => rfl); (case hg => rfl); (case hn => rfl); (case hr => obtain ⟨A0_, c0_, e0_⟩ := Kd.S_slice HS.out; subst e0_; first | (go_simp; done) | (go_simp; rfl)); intro w7 hw7; have OW1 : Aside0 (OW w7 base qk qo qn kk n v0 []) := ⟨by rw [hw7]; exact OW.set BKk.out BKn.out BKo.out LTk.out LTn.out GEo.out HS.out⟩; have n0_ : Aside0 (Below w.heap.size w w7) := ⟨by rw [hw7]; exact below_set HB.out (Nat.le_trans WB.out GEo.out)⟩; clear HB BKn BKk BKo HS hczo hfzo hw7 HZ; have HB := n0_; clear n0_; have hczk : w7.cell? ⟨qk, 0, none⟩ = some (.int .i64 kk) := (blk_cell OW1.out.hk 0).trans rfl; have hczn : w7.cell? ⟨qn, 0, none⟩ = some (.int .i64 n) := (blk_cell OW1.out.hn 0).trans rfl; have hfzk := blk_frozen OW1.out.hk 0; have hfzn := blk_frozen OW1.out.hn 0) | ((with_reducible refine gate_dst (N := 9) rfl ?_); refine box_event ?hg (N := 9) ?hd (cs := #[.nilFunc]) (t := 113) ?hr ?_; (case hd => rfl); (case hg => rfl); (case hr => first | (go_simp; done) | (go_simp; rfl)); intro qf hqf w8 hbox hb; have n0_ := Aside0.mk (below_step (by repeat (first | (with_reducible first | exact HB.out | apply below_alloc | apply pw_below_drewN | apply below_drew1) | exact HB.out)) hb); have n1_ := Aside0.mk (OW1.out.step hb); have BKf := Aside0.mk hbox; have GEf := Aside0.mk (show base ≤ qf by rw [hqf]; exact Nat.le_trans OW1.out.bo (Nat.le_of_lt (blk_lt OW1.out.ho))); clear HB OW1 hczk hczn hfzk hfzn; have HB := n0_; have OW1 := n1_; clear n0_ n1_ hb hbox hqf; have hczf : w8.cell? ⟨qf, 0, none⟩ = some .nilFunc := (blk_cell BKf.out 0).trans rfl; have hfzf := blk_frozen BKf.out 0) | ((with_reducible refine gate_store (t := 113) (p := 9) rfl ?_); refine store_event (t := 113) (p := 9) (v := ?vo2_) (w1 := (w8.setCell ⟨qf, 0, none⟩ (.func (.func 134) #[] #[.pointer (some ⟨qk, 0, none⟩), .pointer (some ⟨qo, 0, none⟩), .pointer (some ⟨qn, 0, none⟩), .pointer (some ⟨qf, 0, none⟩)]))) ?hg ?ho ?hn ?hr ?_; (case ho => rfl); (case hg => rfl); (case hn => rfl); (case hr => first | (go_simp; done) | (go_simp; rfl)); intro w9 hw9; have FW1 : Aside0 (FW w9 base qk qo qn qf kk n v0 []) := ⟨by rw [hw9]; exact FW.set OW1.out BKf.out⟩; have n0_ : Aside0 (Below w.heap.size w w9) := ⟨by rw [hw9]; exact below_set HB.out (Nat.le_trans WB.out GEf.out)⟩; clear HB OW1 BKf hczf hfzf hw9; have HB := n0_; clear n0_; have hczf : w9.cell? ⟨qf, 0, none⟩ = some (.func (.func 134) #[] #[.pointer (some ⟨qk, 0, none⟩), .pointer (some ⟨qo, 0, none⟩), .pointer (some ⟨qn, 0, none⟩), .pointer (some ⟨qf, 0, none⟩)]) := (blk_cell FW1.out.hf 0).trans rfl; have hfzf := blk_frozen FW1.out.hf 0) | (refine (show Calls Try.prog 134 #[.slice none 0 0, .pointer (some ⟨qk, 0, none⟩), .pointer (some ⟨qo, 0, none⟩), .pointer (some ⟨qn, 0, none⟩), .pointer (some ⟨qf, 0, none⟩)] w9 _ from from_calls k base qk qo qn qf kk n none 0 [] v0 [] o w9 (Kd.R_nil _ _ _ _ _) FW1.out A1.out).mono ?_; rintro e w10 ⟨rfl, v2, hfw, hfp⟩; dsimp only; have FW2 := Aside0.mk hfw; have n0_ := Aside0.mk (HB.out.trans (hfp.below.mono WB.out)); clear HB hfw hfp FW1 hczf hfzf; have HB := n0_; clear n0_) | ((with_reducible refine (inOrder_calls FW2.out.ho FW2.out.s LM2.out A2.out).mono ?_); rintro e w11 ⟨v3, rfl, hs, hb⟩; dsimp only; have HS3 := Aside0.mk hs; have n0_ := Aside0.mk (HB.out.trans (hb.mono WB.out)); clear HB hs hb FW2; have HB := n0_; clear n0_))
   skip
   go_ret
   exact ⟨_, rfl, Kd.S_mono (Kd.S_lower HS3.out WB.out) (fun _ _ => trivial), HB.out⟩
  ·rw [if_neg c2] at H
   exact absurd H (by simp)
def implSO.f (k : Nat) (n kk : Int) : Option (List S33 × Int) := (impl_GaussNumber.f k n kk).bind fun (many, code) => (if code = 0 then (if 400 < many then some ([], 3) else ((spacesF.f k n kk).bind fun l => some (l, 0))) else some ([], code))
set_option maxHeartbeats 8000000 in
set_option maxRecDepth 100000 in
theorem implSO_calls (k : Nat) (n kk : Int) (l : List S33) (c : Int) (w : World) (h : implSO.f k n kk = some (l, c)) :
  Calls Try.prog 49 #[.int .i64 n, .int .i64 kk] w fun e w' => ∃ v', e = .returned (.tuple #[v', .int .i64 c]) ∧ Kd.S k33 33 w' w.heap.size (fun _ => True) v' l ∧ Below w.heap.size w w' := by
 have hu33 := Try.underlying33
 have HB := Aside0.mk (Below.refl w.heap.size w)
 unfold implSO.f at h
 replace h := Option.bind_eq_some_iff.mp h
 obtain ⟨⟨many, code⟩, A10, H⟩ := h
 have A1 := Aside0.mk A10
 clear A10
 dsimp only at H
 by_cases c1 : code = 0
 ·rw [if_pos c1] at H
  subst c1
  by_cases c2 : 400 < many
  ·rw [if_pos c2] at H
   have c2b0 : decide (400 < many) = true := decide_eq_true c2
   clear c2
   obtain ⟨rfl, rfl⟩ := Prod.mk.inj (Option.some.inj H)
   clear H
   go_enter Try.func49, Try.ntmps49
   go_wp2_with (first | ((with_reducible refine gate_callee (f := 89) rfl ?_); refine goesL_ (some 11) rfl rfl Try.func89 (by kernel_rfl) rfl #[.int .i64 n, .int .i64 kk] rfl (by (try simp only [List.map_toArray, List.map_cons, List.map_nil]); first | done | rfl | (simp only [List.length_drop, List.length_take]; rfl)) ?_; (with_reducible refine (impl_GaussNumber.calls k n kk many 0 _ A1.out).mono ?_); rintro e w' ⟨rfl, ⟨nd, rfl⟩⟩; refine ⟨_, rfl, ?_⟩))
   go_ret2
   exact ⟨_, rfl, Kd.S_nil _ _ _ _ _, (by repeat (first | (with_reducible first | exact HB.out | apply below_alloc | apply pw_below_drewN | apply below_drew1) | exact HB.out))⟩
  ·rw [if_neg c2] at H
   have c2b0 : decide (400 < many) = false := decide_eq_false c2
   clear c2
   replace H := Option.bind_eq_some_iff.mp H
   obtain ⟨l2, A20, H⟩ := H
   have A2 := Aside0.mk A20
   clear A20
   obtain ⟨rfl, rfl⟩ := Prod.mk.inj (Option.some.inj H)
   clear H
   go_enter Try.func49, Try.ntmps49
   go_wp2_with (first | ((with_reducible refine gate_callee (f := 89) rfl ?_); refine goesL_ (some 11) rfl rfl Try.func89 (by kernel_rfl) rfl #[.int .i64 n, .int .i64 kk] rfl (by (try simp only [List.map_toArray, List.map_cons, List.map_nil]); first | done | rfl | (simp only [List.length_drop, List.length_take]; rfl)) ?_; (with_reducible refine (impl_GaussNumber.calls k n kk many 0 _ A1.out).mono ?_); rintro e w' ⟨rfl, ⟨nd, rfl⟩⟩; refine ⟨_, rfl, ?_⟩) | ((with_reducible refine gate_callee (f := 90) rfl ?_); refine goesL_ (some 23) rfl rfl Try.func90 (by kernel_rfl) rfl #[.int .i64 n, .int .i64 kk] rfl (by (try simp only [List.map_toArray, List.map_cons, List.map_nil]); first | done | rfl | (simp only [List.length_drop, List.length_take]; rfl)) ?_; (with_reducible refine (spaces_calls k n kk _ _ A2.out).mono ?_); rintro e w5 ⟨v5, rfl, hs, hb⟩; refine ⟨_, rfl, ?_⟩; have n0_ := Aside0.mk (below_step (by repeat (first | (with_reducible first | exact HB.out | apply below_alloc | apply pw_below_drewN | apply below_drew1) | exact HB.out)) hb); have HS := Aside0.mk (Kd.S_lower (Kd.S_mono hs (fun _ _ => trivial)) (below_size (by repeat (first | (with_reducible first | exact HB.out | apply below_alloc | apply pw_below_drewN | apply below_drew1) | exact HB.out)))); clear HB hs hb; have HB := n0_; clear n0_))
   go_ret2
   exact ⟨_, rfl, HS.out, (by repeat (first | (with_reducible first | exact HB.out | apply below_alloc | apply pw_below_drewN | apply below_drew1) | exact HB.out))⟩
 ·rw [if_neg c1] at H
  have c1b0 : (code == 0) = false := beq_eq_false_iff_ne.mpr c1
  have c1b1 : (code != 0) = true := bne_iff_ne.mpr c1
  clear c1
  obtain ⟨rfl, rfl⟩ := Prod.mk.inj (Option.some.inj H)
  clear H
  go_enter Try.func49, Try.ntmps49
  go_wp2_with (first | ((with_reducible refine gate_callee (f := 89) rfl ?_); refine goesL_ (some 11) rfl rfl Try.func89 (by kernel_rfl) rfl #[.int .i64 n, .int .i64 kk] rfl (by (try simp only [List.map_toArray, List.map_cons, List.map_nil]); first | done | rfl | (simp only [List.length_drop, List.length_take]; rfl)) ?_; (with_reducible refine (impl_GaussNumber.calls k n kk many _ _ A1.out).mono ?_); rintro e w' ⟨rfl, ⟨nd, rfl⟩⟩; refine ⟨_, rfl, ?_⟩))
  go_ret2
  exact ⟨_, rfl, Kd.S_nil _ _ _ _ _, (by repeat (first | (with_reducible first | exact HB.out | apply below_alloc | apply pw_below_drewN | apply below_drew1) | exact HB.out))⟩
end Go.Proofs.Ytaopplbahakpgaa.PFnExactGreedySpaces
