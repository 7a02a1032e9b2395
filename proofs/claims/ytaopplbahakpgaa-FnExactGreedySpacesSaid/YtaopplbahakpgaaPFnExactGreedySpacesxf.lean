/- The reference's GreedySpaces hands back what the plain function specGS.f tells. -/
import Derived.Test.YtaopplbahakpgaaPFnExactGreedySpacesxe
namespace Go.Proofs.Ytaopplbahakpgaa.PFnExactGreedySpaces
open Go.RowKit Go.Proofs.YtaopplbahakpgaaW.PrintWords Go.Proofs.YtaopplbahakpgaaW.PrintLast Go.Proofs.YtaopplbahakpgaaW.PrintMore
attribute [local go_sem] max2_int min2_int max_two min_two max_three min_three max_four min_four   -- for this text's walks alone
set_option linter.unusedVariables false
set_option linter.unusedSimpArgs false
/-! ### a block's cells, at an element -/
theorem blk_el {W : World} {base : Nat} {ok : Nat → Prop} {A : Option Addr} {n c : Nat} {l : List S33} (h : k33.R 33 W base ok (.slice A n c) l) (i : Int) (h0 : 0 ≤ i) (h1 : i < (l.length : Int)) :
  ∃ g cells A1 c1, A = some ⟨g, 0, none⟩ ∧ W.heap[g]? = some (.cells cells 33 (0, 0)) ∧ cells[i.toNat * 2]? = some (.int .i64 (rd_T33 l i).f0) ∧ cells[i.toNat * 2 + 1]? = some (.slice A1 (rd_T33 l i).f1.length c1) ∧ (rd_T33 l i).f1.length ≤ c1 ∧ (Kd.int .i64).C W A1 (rd_T33 l i).f1.length (rd_T33 l i).f1 := by
 obtain ⟨g, cap, hv, _, _, cells, hc⟩ := Kd.R_form h (by omega)
 injection hv with hA _ _
 subst hA
 obtain ⟨ad, A1, c1, e, q0, q1, hl, hC⟩ := at_T33 (Kd.R_reads' h).2.2 i h0 h1
 injection e with e
 subst e
 refine ⟨g, cells, A1, c1, rfl, hc, ?_, ?_, hl, hC⟩
 ·rw [← blk_cell hc]; rw [add_at, Nat.zero_add] at q0; exact q0
 ·rw [← blk_cell hc]; rw [add_at, Nat.zero_add] at q1; exact q1
theorem tag_R {W : World} {base : Nat} {ok : Nat → Prop} {f : Nat → Nat} {v : Value} {l : List S33} (h : (Kd.tag f k33).R 33 W base ok v l.zipIdx) : k33.R 33 W base ok v l := Kd.S_R ⟨f, h⟩
def farS (k : Nat) (d : Int) (u : S33) : List S33 → Option Bool
 | [] => some true
 | v :: vs => (spec_l02Distance.f k u.f0 u.f1 v.f0 v.f1).bind fun t => if d ≤ t then farS k d u vs else some false
def greedyS (k : Nat) (d : Int) : List S33 → List S33 → Option (List S33)
 | [], out => some out
 | u :: us, out => (farS k d u out).bind fun b => if b = true then (if out.length < 4398046511103 then greedyS k d us (out ++ [u]) else none) else greedyS k d us out
def specGS.f (k : Nat) (n kk d : Int) : Option (List S33 × Int) := (spec_l06Distance.f n kk d).bind fun b => if b = true then ((specSO.f k n kk).bind fun (l, c2) => if c2 = 0 then ((greedyS k d l []).bind fun o => some (o, 0)) else some ([], c2)) else some ([], 2)
set_option maxHeartbeats 8000000 in
set_option maxRecDepth 100000 in
theorem specGS_calls (k : Nat) (n kk d : Int) (r : List S33) (c : Int) (w : World) (h : specGS.f k n kk d = some (r, c)) :
  Calls Try.prog 53 #[.int .i64 n, .int .i64 kk, .int .i64 d] w fun e w' => ∃ v', e = .returned (.tuple #[v', .int .i64 c]) ∧ Kd.S k33 33 w' w.heap.size (fun _ => True) v' r ∧ Below w.heap.size w w' := by
 have hu33 := Try.underlying33
 have HB := Aside0.mk (Below.refl w.heap.size w)
 unfold specGS.f at h
 replace h := Option.bind_eq_some_iff.mp h
 obtain ⟨b, A10, H⟩ := h
 have A1 := Aside0.mk A10
 clear A10
 cases b with
 | true =>
  rw [if_pos rfl] at H
  replace H := Option.bind_eq_some_iff.mp H
  obtain ⟨⟨l, code⟩, A20, H⟩ := H
  have A2 := Aside0.mk A20
  clear A20
  dsimp only at H
  by_cases c2 : code = 0
  ·rw [if_pos c2] at H
   subst c2
   replace H := Option.bind_eq_some_iff.mp H
   obtain ⟨o, A30, H⟩ := H
   have A3 := Aside0.mk A30
   clear A30
   obtain ⟨rfl, rfl⟩ := Prod.mk.inj (Option.some.inj H)
   clear H
   go_enter Try.func53, Try.ntmps53
   go_wp2_with (first | ((with_reducible refine gate_callee (f := 91) rfl ?_); refine goesL_ (some 17) rfl rfl Try.func91 (by kernel_rfl) rfl #[.int .i64 n, .int .i64 kk, .int .i64 d] rfl (by (try simp only [List.map_toArray, List.map_cons, List.map_nil]); first | done | rfl | (simp only [List.length_drop, List.length_take]; rfl)) ?_; (with_reducible refine (spec_l06Distance.calls n kk d _ _ A1.out).mono ?_); rintro e w' ⟨rfl, ⟨nd, rfl⟩⟩; refine ⟨_, rfl, ?_⟩) | ((with_reducible refine gate_callee (f := 48) rfl ?_); refine goesL_ (some 23) rfl rfl Try.func48 (by kernel_rfl) rfl #[.int .i64 n, .int .i64 kk] rfl (by (try simp only [List.map_toArray, List.map_cons, List.map_nil]); first | done | rfl | (simp only [List.length_drop, List.length_take]; rfl)) ?_; (with_reducible refine (specSO_calls k n kk l _ _ A2.out).mono ?_); rintro e wa ⟨va, rfl, hs, hb⟩; refine ⟨_, rfl, ?_⟩; have n0_ := Aside0.mk (below_step (by repeat (first | (with_reducible first | exact HB.out | apply below_alloc | apply pw_below_drewN | apply below_drew1) | exact HB.out)) hb); have n2_ := Aside0.mk (Kd.S_lower (Kd.S_bound hs) (below_size (by repeat (first | (with_reducible first | exact HB.out | apply below_alloc | apply pw_below_drewN | apply below_drew1) | exact HB.out)))); clear HB hs hb; have HB := n0_; have HALL := n2_; clear n0_ n2_; obtain ⟨Aa, ca, ea⟩ := Kd.S_slice HALL.out; subst ea; have HN := Aside0.mk (Below.refl wa.heap.size wa)) | ((with_reducible refine gate_dst (N := 30) rfl ?_); refine Kd.S_lit k33 _ 33 ?hg (N := 30) ?hd (xs := ([] : List S33)) (inner := []) (ok := fun _ => True) (okp := fun _ => True) ?hr ?hp (fun _ hk => hk) trivial (Below.refl _ _) (Nat.le_refl _) (by simp) ?_; (case hd => rfl); (case hg => rfl); (case hr => first | (go_simp; done) | (go_simp; rfl)); (case hp => exact (Reps.none _ _)); intro v0 w5 hs hb hg_ hnew_; clear hg_; obtain ⟨f, hf⟩ := HALL.out; have AL : Aside0 ((Kd.tag f k33).R 33 wa w.heap.size (fun k => k < wa.heap.size) (.slice Aa l.length ca) l.zipIdx) := ⟨Kd.R_mono hf (fun k hk => hk.2.2.1)⟩; have HL := Aside0.mk (show (l.length : Int) ≤ 9223372036854775807 by have := (Kd.S_reads' HALL.out).2.2.2.1; omega); have n0_ := Aside0.mk (below_step (by repeat (first | (with_reducible first | exact HB.out | apply below_alloc | apply pw_below_drewN | apply below_drew1) | exact HB.out)) hb); have n2_ := Aside0.mk (below_step (by repeat (first | (with_reducible first | exact HN.out | apply below_alloc | apply pw_below_drewN | apply below_drew1) | exact HN.out)) hb); have GW1 : Aside0 (GW w5 wa.heap.size w.heap.size f 0 v0 []) := ⟨⟨Kd.S_lower (Kd.S_mono (Kd.S_bound hs) (fun k_ hk => Or.inl (Nat.le_trans (below_size (by repeat (first | (with_reducible first | exact HN.out | apply below_alloc | apply pw_below_drewN | apply below_drew1) | exact HN.out))) hk.2.1))) (below_size (by repeat (first | (with_reducible first | exact HB.out | apply below_alloc | apply pw_below_drewN | apply below_drew1) | exact HB.out))), fun k_ hk => by obtain ⟨b_, e_, hb_⟩ := hnew_; rw [e_] at hk; injection hk with hk; rw [← hk]; exact Nat.le_trans (below_size (by repeat (first | (with_reducible first | exact HN.out | apply below_alloc | apply pw_below_drewN | apply below_drew1) | exact HN.out))) hb_⟩⟩; clear HB HN hs hb hnew_ hf HALL; have HB := n0_; have HN := n2_; clear n0_ n2_))
   go_loopg [10, 11] l.length (fun kq v10 v11 w' => ∃ (x : Int) (o1 : List S33), v11 = .int .i64 x ∧ Aside0 (0 ≤ x ∧ x ≤ (l.length : Int) ∧ (l.length : Int) - x ≤ kq) ∧ Aside0 (greedyS k d (l.drop x.toNat) o1 = some o) ∧ Aside0 (GW w' wa.heap.size w.heap.size f x v10 o1) ∧ Aside0 (Below wa.heap.size wa w') ∧ Aside0 (Below w.heap.size w w'))
   case atStart => exact ⟨0, [], rfl, ⟨by omega, by omega, by omega⟩, A3, ⟨GW1.out.step (by repeat (first | (with_reducible first | exact Below.refl _ _ | apply below_alloc | apply pw_below_drewN | apply below_drew1)))⟩, ⟨(by repeat (first | (with_reducible first | exact HN.out | apply below_alloc | apply pw_below_drewN | apply below_drew1) | exact HN.out))⟩, ⟨(by repeat (first | (with_reducible first | exact HB.out | apply below_alloc | apply pw_below_drewN | apply below_drew1) | exact HB.out))⟩⟩
   case round =>
    clear A3 HB HN GW1
    obtain ⟨x, o1, rfl, HX, HA, GW1, HN, HB⟩ := hrel
    by_cases hlt : x < (l.length : Int)
    ·have hlt0 : decide (x < (l.length : Int)) = true := decide_eq_true hlt
     have hw1 : wrap64 (x + 1) = x + 1 := by have := HX.out; have := HL.out; unfold wrap64; omega
     have hge := HX.out.1
     have h := HA.out
     rw [drop_rd l x hge hlt, greedyS] at h
     replace h := Option.bind_eq_some_iff.mp h
     obtain ⟨q, A40, H⟩ := h
     have A4 := Aside0.mk A40
     clear HA
     have HA := Aside0.mk H
     clear A40 H
     obtain ⟨gu, csu, Au, cu, ead, hbu, qu0, qu1, hlu, hcu⟩ := blk_el (tag_R (Kd.R_below AL.out HN.out)) x hge hlt
     subst ead
     have BKu := Aside0.mk hbu
     have QU0 := Aside0.mk qu0
     have QU1 := Aside0.mk qu1
     have HLU := Aside0.mk hlu
     have HCU := Aside0.mk hcu
     have HW := Aside0.mk hw1
     obtain ⟨Ao, co, eo⟩ := Kd.S_slice GW1.out.s
     subst eo
     have hc0 : decide (0 ≤ x) = true := decide_eq_true hge
     have hc1 := eq_true hge
     have hc2 := eq_true hlt
     have HGE := Aside0.mk hge
     have HLT := Aside0.mk hlt
     have HLO := Aside0.mk (show (o1.length : Int) ≤ 9223372036854775807 by have := (Kd.S_reads' GW1.out.s).2.2.2.1; omega)
     clear hbu qu0 qu1 hlu hcu hlt hge hw1
     have HS := Aside0.mk (Below.refl wr.heap.size wr)
     obtain ⟨gk_, hgk_⟩ : ∃ g_, g_ = gk := ⟨_, rfl⟩
     subst hgk_
     obtain ⟨w1, hw1_⟩ : ∃ w_, w_ = wr := ⟨_, rfl⟩
     subst hw1_
     go_wp2
     go_loopg [12, 13] o1.length (fun kq v12 v13 w' => ∃ (y : Int) (far : Bool), v12 = .bool far ∧ v13 = .int .i64 y ∧ Aside0 (0 ≤ y ∧ y ≤ (o1.length : Int) ∧ (o1.length : Int) - y ≤ kq) ∧ Aside0 (if far = true then farS k d (rd_T33 l x) (o1.drop y.toNat) = some q else q = false) ∧ Aside0 (Below w1.heap.size w1 w'))
     case atStart => exact ⟨0, true, rfl, rfl, ⟨by omega, by omega, by omega⟩, ⟨by rw [if_pos rfl]; exact A4.out⟩, ⟨(by repeat (first | (with_reducible first | exact HS.out | apply below_alloc | apply pw_below_drewN | apply below_drew1) | exact HS.out))⟩⟩
     case round =>
      clear A4 HS
      obtain ⟨y, far, rfl, rfl, HY, HF, H2⟩ := hrel
      by_cases hly : y < (o1.length : Int)
      ·have hly0 : decide (y < (o1.length : Int)) = true := decide_eq_true hly
       cases far with
       | true =>
        have hwy : wrap64 (y + 1) = y + 1 := by have := HY.out; have := HLO.out; unfold wrap64; omega
        have hgy := HY.out.1
        have h := HF.out
        rw [if_pos rfl, drop_rd o1 y hgy hly, farS] at h
        replace h := Option.bind_eq_some_iff.mp h
        obtain ⟨t, A50, H⟩ := h
        have A5 := Aside0.mk A50
        clear A50 HF
        obtain ⟨gv, csv, Av, cv, ead, hbv, qv0, qv1, hlv, hcv⟩ := blk_el (Kd.S_R (GW1.out.step H2.out).s) y hgy hly
        subst ead
        have BKv := Aside0.mk hbv
        have QV0 := Aside0.mk qv0
        have QV1 := Aside0.mk qv1
        have HLV := Aside0.mk hlv
        have HCV := Aside0.mk hcv
        have HWY := Aside0.mk hwy
        have hd0 : decide (0 ≤ y) = true := decide_eq_true hgy
        have hd1 := eq_true hgy
        have hd2 := eq_true hly
        have HLY := Aside0.mk hly
        clear hbv qv0 qv1 hlv hcv hly hgy hwy
        have n0_ := Aside0.mk (blk_below BKu.out H2.out)
        have n1_ := Aside0.mk (Kd.C_below HCU.out H2.out)
        have HZ := H2
        clear BKu HCU H2
        have BKu := n0_
        have HCU := n1_
        have H2 := Aside0.mk (Below.refl wr.heap.size wr)
        clear n0_ n1_
        by_cases c6 : d ≤ t
        ·rw [if_pos c6] at H
         have c6b0 : decide (d ≤ t) = true := decide_eq_true c6
         have HF2 := Aside0.mk H
         clear H c6
         go_wp2
         refine start_ (n := 10) (S := fun _ => True) (ds := []) #[false, false, false, false, false, false, false, false, false, false] (by kernel_rfl) rfl rfl trivial (fun hHeld => ?_)
         have n0_ := Aside0.mk (below_drew1 H2.out)
         clear H2
         have H2 := n0_
         clear n0_
         generalize wr.drew = w3 at H2 hHeld ⊢
         refine pure_ (i := 0) (N := some 46) (v := ?_) (a' := ?_) #[true, false, false, false, false, false, false, false, false, false] rfl rfl (by kernel_rfl) (fun _ _ _ h => h) (Or.inl ⟨by rfl, ?_⟩) ?_ ?_
         rotate_left
         ·intro w'
          go_simp
          with_reducible rfl
         rotate_left
         ·simp only [Act.put, List.setIfInBounds_toArray, List.set_cons_zero, List.set_cons_succ, i64_w, i32_w]
          rfl
         refine pure_ (i := 1) (N := some 47) (v := ?_) (a' := ?_) #[true, true, false, false, false, false, false, false, false, false] rfl rfl (by kernel_rfl) (fun _ _ _ h => h) (Or.inl ⟨by rfl, ?_⟩) ?_ ?_
         rotate_left
         ·intro w'
          go_simp
          with_reducible rfl
         rotate_left
         ·simp only [Act.put, List.setIfInBounds_toArray, List.set_cons_zero, List.set_cons_succ, i64_w, i32_w]
          rfl
         refine pure_ (i := 2) (N := some 48) (v := ?_) (a' := ?_) #[true, true, true, false, false, false, false, false, false, false] rfl rfl (by kernel_rfl) (fun _ _ _ h => h) (Or.inl ⟨by rfl, ?_⟩) ?_ ?_
         rotate_left
         ·intro w'
          go_simp
          with_reducible rfl
         rotate_left
         ·simp only [Act.put, List.setIfInBounds_toArray, List.set_cons_zero, List.set_cons_succ, i64_w, i32_w]
          rfl
         refine pure_ (i := 3) (N := some 49) (v := ?_) (a' := ?_) #[true, true, true, true, false, false, false, false, false, false] rfl rfl (by kernel_rfl) (fun _ _ _ h => h) (Or.inl ⟨by rfl, ?_⟩) ?_ ?_
         rotate_left
         ·intro w'
          go_simp
          with_reducible rfl
         rotate_left
         ·simp only [Act.put, List.setIfInBounds_toArray, List.set_cons_zero, List.set_cons_succ, i64_w, i32_w]
          rfl
         refine pure_ (i := 4) (N := some 50) (v := ?_) (a' := ?_) #[true, true, true, true, true, false, false, false, false, false] rfl rfl (by kernel_rfl) (fun _ _ _ h => h) (Or.inl ⟨by rfl, ?_⟩) ?_ ?_
         rotate_left
         ·intro w'
          go_simp
          with_reducible rfl
         rotate_left
         ·simp only [Act.put, List.setIfInBounds_toArray, List.set_cons_zero, List.set_cons_succ, i64_w, i32_w]
          rfl
         refine pure_ (i := 5) (N := some 51) (v := ?_) (a' := ?_) #[true, true, true, true, true, true, false, false, false, false] rfl rfl (by kernel_rfl) (fun _ _ _ h => h) (Or.inl ⟨by rfl, ?_⟩) ?_ ?_
         rotate_left
         ·intro w'
          go_simp
          with_reducible rfl
         rotate_left
         ·simp only [Act.put, List.setIfInBounds_toArray, List.set_cons_zero, List.set_cons_succ, i64_w, i32_w]
          rfl
         refine pure_ (i := 7) (N := some 53) (v := ?_) (a' := ?_) #[true, true, true, true, true, true, false, true, false, false] rfl rfl (by kernel_rfl) (fun _ _ _ h => h) (Or.inl ⟨by rfl, ?_⟩) ?_ ?_
         rotate_left
         ·intro w'
          go_simp
          with_reducible rfl
         rotate_left
         ·simp only [Act.put, List.setIfInBounds_toArray, List.set_cons_zero, List.set_cons_succ, i64_w, i32_w]
          rfl
         refine one_ (i := 6) (N := some 52) #[true, true, true, true, true, true, true, true, false, false] rfl rfl (by kernel_rfl) (by decide) (fun K hK => ?_)
         refine goes_ Try.func92 (by kernel_rfl) rfl #[.pointer (some ⟨gu, x.toNat * 2, none⟩), .pointer (some ⟨gv, y.toNat * 2, none⟩)] (by rfl) rfl rfl (by (try simp only [List.map_toArray, List.map_cons, List.map_nil]); first | done | rfl | (simp only [List.length_drop, List.length_take]; rfl)) ?_
         with_reducible refine (spec_l02Distance.calls k gu (x.toNat * 2) csu (rd_T33 l x).f0 Au cu (rd_T33 l x).f1 gv (y.toNat * 2) csv (rd_T33 o1 y).f0 Av cv (rd_T33 o1 y).f1 t _ ?side1 ?side2 ?side3 ?side4 ?side5 ?side6 ?side7 ?side8 ?side9 ?side10 A5.out).mono ?_
         (case side1 => exact blk_below BKu.out (by repeat (first | (with_reducible first | exact H2.out | apply below_alloc | apply pw_below_drewN | apply below_drew1) | exact H2.out)))
         (case side2 => exact QU0.out)
         (case side3 => exact QU1.out)
         (case side4 => exact Kd.C_below HCU.out (by repeat (first | (with_reducible first | exact H2.out | apply below_alloc | apply pw_below_drewN | apply below_drew1) | exact H2.out)))
         (case side5 => exact HLU.out)
         (case side6 => exact blk_below BKv.out (by repeat (first | (with_reducible first | exact H2.out | apply below_alloc | apply pw_below_drewN | apply below_drew1) | exact H2.out)))
         (case side7 => exact QV0.out)
         (case side8 => exact QV1.out)
         (case side9 => exact Kd.C_below HCV.out (by repeat (first | (with_reducible first | exact H2.out | apply below_alloc | apply pw_below_drewN | apply below_drew1) | exact H2.out)))
         (case side10 => exact HLV.out)
         rintro e w4 ⟨rfl, hb⟩
         refine ⟨_, rfl, ?_⟩
         have n0_ := Aside0.mk (below_step H2.out hb)
         clear H2 hb
         have H2 := n0_
         clear n0_
         refine hK.out _ _ trivial (fun hHeld => ?_)
         clear hK K
         refine norm_ (a' := ?_) ?_ ?_
         rotate_left
         ·show Act.put _ (some 52) _ = _
          simp only [Act.put, List.setIfInBounds_toArray, List.set_cons_zero, List.set_cons_succ, i64_w, i32_w]
          rfl
         refine pure_ (i := 8) (N := some 54) (v := ?_) (a' := ?_) #[true, true, true, true, true, true, true, true, true, false] rfl rfl (by kernel_rfl) (fun _ _ _ h => h) (Or.inl ⟨by rfl, ?_⟩) ?_ ?_
         rotate_left
         ·intro w'
          go_simp
          with_reducible rfl
         rotate_left
         ·simp only [Act.put, List.setIfInBounds_toArray, List.set_cons_zero, List.set_cons_succ, i64_w, i32_w]
          rfl
         refine pure_ (i := 9) (N := some 12) (v := ?_) (a' := ?_) #[true, true, true, true, true, true, true, true, true, true] rfl rfl (by kernel_rfl) (fun _ _ _ h => h) (Or.inl ⟨by rfl, ?_⟩) ?_ ?_
         rotate_left
         ·intro w'
          go_simp
          with_reducible rfl
         rotate_left
         ·simp only [Act.put, List.setIfInBounds_toArray, List.set_cons_zero, List.set_cons_succ, i64_w, i32_w]
          rfl
         refine done_ (by kernel_rfl) ?_
         have n0_ := Aside0.mk (below_step HZ.out H2.out)
         clear H2 HZ
         have H2 := n0_
         clear n0_
         go_wp2
         go_roundg (gk - 1)
         case measure => have := HY.out; have := HLY.out; omega
         case rel => exact ⟨y + 1, true, rfl, (by first | rfl | rw [HWY.out] | simp [HWY.out]), ⟨by have := HY.out; omega, by have := HLY.out; omega, by have := HY.out; have := HLY.out; omega⟩, ⟨by rw [if_pos rfl]; exact HF2.out⟩, ⟨(by repeat (first | (with_reducible first | exact H2.out | apply below_alloc | apply pw_below_drewN | apply below_drew1) | exact H2.out))⟩⟩
        ·rw [if_neg c6] at H
         have c6b0 : decide (d ≤ t) = false := decide_eq_false c6
         have HF2 := Aside0.mk (Option.some.inj H).symm
         clear H c6
         go_wp2
         refine start_ (n := 10) (S := fun _ => True) (ds := []) #[false, false, false, false, false, false, false, false, false, false] (by kernel_rfl) rfl rfl trivial (fun hHeld => ?_)
         have n0_ := Aside0.mk (below_drew1 H2.out)
         clear H2
         have H2 := n0_
         clear n0_
         generalize wr.drew = w3 at H2 hHeld ⊢
         refine pure_ (i := 0) (N := some 46) (v := ?_) (a' := ?_) #[true, false, false, false, false, false, false, false, false, false] rfl rfl (by kernel_rfl) (fun _ _ _ h => h) (Or.inl ⟨by rfl, ?_⟩) ?_ ?_
         rotate_left
         ·intro w'
          go_simp
          with_reducible rfl
         rotate_left
         ·simp only [Act.put, List.setIfInBounds_toArray, List.set_cons_zero, List.set_cons_succ, i64_w, i32_w]
          rfl
         refine pure_ (i := 1) (N := some 47) (v := ?_) (a' := ?_) #[true, true, false, false, false, false, false, false, false, false] rfl rfl (by kernel_rfl) (fun _ _ _ h => h) (Or.inl ⟨by rfl, ?_⟩) ?_ ?_
         rotate_left
         ·intro w'
          go_simp
          with_reducible rfl
         rotate_left
         ·simp only [Act.put, List.setIfInBounds_toArray, List.set_cons_zero, List.set_cons_succ, i64_w, i32_w]
          rfl
         refine pure_ (i := 2) (N := some 48) (v := ?_) (a' := ?_) #[true, true, true, false, false, false, false, false, false, false] rfl rfl (by kernel_rfl) (fun _ _ _ h => h) (Or.inl ⟨by rfl, ?_⟩) ?_ ?_
         rotate_left
         ·intro w'
          go_simp
          with_reducible rfl
         rotate_left
         ·simp only [Act.put, List.setIfInBounds_toArray, List.set_cons_zero, List.set_cons_succ, i64_w, i32_w]
          rfl
         refine pure_ (i := 3) (N := some 49) (v := ?_) (a' := ?_) #[true, true, true, true, false, false, false, false, false, false] rfl rfl (by kernel_rfl) (fun _ _ _ h => h) (Or.inl ⟨by rfl, ?_⟩) ?_ ?_
         rotate_left
         ·intro w'
          go_simp
          with_reducible rfl
         rotate_left
         ·simp only [Act.put, List.setIfInBounds_toArray, List.set_cons_zero, List.set_cons_succ, i64_w, i32_w]
          rfl
         refine pure_ (i := 4) (N := some 50) (v := ?_) (a' := ?_) #[true, true, true, true, true, false, false, false, false, false] rfl rfl (by kernel_rfl) (fun _ _ _ h => h) (Or.inl ⟨by rfl, ?_⟩) ?_ ?_
         rotate_left
         ·intro w'
          go_simp
          with_reducible rfl
         rotate_left
         ·simp only [Act.put, List.setIfInBounds_toArray, List.set_cons_zero, List.set_cons_succ, i64_w, i32_w]
          rfl
         refine pure_ (i := 5) (N := some 51) (v := ?_) (a' := ?_) #[true, true, true, true, true, true, false, false, false, false] rfl rfl (by kernel_rfl) (fun _ _ _ h => h) (Or.inl ⟨by rfl, ?_⟩) ?_ ?_
         rotate_left
         ·intro w'
          go_simp
          with_reducible rfl
         rotate_left
         ·simp only [Act.put, List.setIfInBounds_toArray, List.set_cons_zero, List.set_cons_succ, i64_w, i32_w]
          rfl
         refine pure_ (i := 7) (N := some 53) (v := ?_) (a' := ?_) #[true, true, true, true, true, true, false, true, false, false] rfl rfl (by kernel_rfl) (fun _ _ _ h => h) (Or.inl ⟨by rfl, ?_⟩) ?_ ?_
         rotate_left
         ·intro w'
          go_simp
          with_reducible rfl
         rotate_left
         ·simp only [Act.put, List.setIfInBounds_toArray, List.set_cons_zero, List.set_cons_succ, i64_w, i32_w]
          rfl
         refine one_ (i := 6) (N := some 52) #[true, true, true, true, true, true, true, true, false, false] rfl rfl (by kernel_rfl) (by decide) (fun K hK => ?_)
         refine goes_ Try.func92 (by kernel_rfl) rfl #[.pointer (some ⟨gu, x.toNat * 2, none⟩), .pointer (some ⟨gv, y.toNat * 2, none⟩)] (by rfl) rfl rfl (by (try simp only [List.map_toArray, List.map_cons, List.map_nil]); first | done | rfl | (simp only [List.length_drop, List.length_take]; rfl)) ?_
         with_reducible refine (spec_l02Distance.calls k gu (x.toNat * 2) csu (rd_T33 l x).f0 Au cu (rd_T33 l x).f1 gv (y.toNat * 2) csv (rd_T33 o1 y).f0 Av cv (rd_T33 o1 y).f1 t _ ?side1 ?side2 ?side3 ?side4 ?side5 ?side6 ?side7 ?side8 ?side9 ?side10 A5.out).mono ?_
         (case side1 => exact blk_below BKu.out (by repeat (first | (with_reducible first | exact H2.out | apply below_alloc | apply pw_below_drewN | apply below_drew1) | exact H2.out)))
         (case side2 => exact QU0.out)
         (case side3 => exact QU1.out)
         (case side4 => exact Kd.C_below HCU.out (by repeat (first | (with_reducible first | exact H2.out | apply below_alloc | apply pw_below_drewN | apply below_drew1) | exact H2.out)))
         (case side5 => exact HLU.out)
         (case side6 => exact blk_below BKv.out (by repeat (first | (with_reducible first | exact H2.out | apply below_alloc | apply pw_below_drewN | apply below_drew1) | exact H2.out)))
         (case side7 => exact QV0.out)
         (case side8 => exact QV1.out)
         (case side9 => exact Kd.C_below HCV.out (by repeat (first | (with_reducible first | exact H2.out | apply below_alloc | apply pw_below_drewN | apply below_drew1) | exact H2.out)))
         (case side10 => exact HLV.out)
         rintro e w4 ⟨rfl, hb⟩
         refine ⟨_, rfl, ?_⟩
         have n0_ := Aside0.mk (below_step H2.out hb)
         clear H2 hb
         have H2 := n0_
         clear n0_
         refine hK.out _ _ trivial (fun hHeld => ?_)
         clear hK K
         refine norm_ (a' := ?_) ?_ ?_
         rotate_left
         ·show Act.put _ (some 52) _ = _
          simp only [Act.put, List.setIfInBounds_toArray, List.set_cons_zero, List.set_cons_succ, i64_w, i32_w]
          rfl
         refine pure_ (i := 8) (N := some 54) (v := ?_) (a' := ?_) #[true, true, true, true, true, true, true, true, true, false] rfl rfl (by kernel_rfl) (fun _ _ _ h => h) (Or.inl ⟨by rfl, ?_⟩) ?_ ?_
         rotate_left
         ·intro w'
          go_simp
          with_reducible rfl
         rotate_left
         ·simp only [Act.put, List.setIfInBounds_toArray, List.set_cons_zero, List.set_cons_succ, i64_w, i32_w]
          rfl
         refine pure_ (i := 9) (N := some 12) (v := ?_) (a' := ?_) #[true, true, true, true, true, true, true, true, true, true] rfl rfl (by kernel_rfl) (fun _ _ _ h => h) (Or.inl ⟨by rfl, ?_⟩) ?_ ?_
         rotate_left
         ·intro w'
          go_simp
          with_reducible rfl
         rotate_left
         ·simp only [Act.put, List.setIfInBounds_toArray, List.set_cons_zero, List.set_cons_succ, i64_w, i32_w]
          rfl
         refine done_ (by kernel_rfl) ?_
         have n0_ := Aside0.mk (below_step HZ.out H2.out)
         clear H2 HZ
         have H2 := n0_
         clear n0_
         go_wp2
         go_roundg (gk - 1)
         case measure => have := HY.out; have := HLY.out; omega
         case rel => exact ⟨y + 1, false, rfl, (by first | rfl | rw [HWY.out] | simp [HWY.out]), ⟨by have := HY.out; omega, by have := HLY.out; omega, by have := HY.out; have := HLY.out; omega⟩, ⟨by rw [if_neg (by simp)]; exact HF2.out⟩, ⟨(by repeat (first | (with_reducible first | exact H2.out | apply below_alloc | apply pw_below_drewN | apply below_drew1) | exact H2.out))⟩⟩
       | false =>
        have h := HF.out
        rw [if_neg (by simp)] at h
        subst h
        clear HF
        have H := HA.out
        rw [if_neg (by simp)] at H
        have HA2 := Aside0.mk H
        clear H HA
        go_wp2
        go_roundg (gk_ - 1)
        case measure => have := HX.out; have := HLT.out; omega
        case rel => exact ⟨x + 1, o1, (by first | rfl | rw [HW.out] | simp [HW.out]), ⟨by have := HX.out; omega, by have := HLT.out; omega, by have := HX.out; have := HLT.out; omega⟩, HA2, ⟨(GW1.out.step (by repeat (first | (with_reducible first | exact H2.out | apply below_alloc | apply pw_below_drewN | apply below_drew1) | exact H2.out))).up (by omega)⟩, ⟨below_step HN.out (by repeat (first | (with_reducible first | exact H2.out | apply below_alloc | apply pw_below_drewN | apply below_drew1) | exact H2.out))⟩, ⟨below_step HB.out (by repeat (first | (with_reducible first | exact H2.out | apply below_alloc | apply pw_below_drewN | apply below_drew1) | exact H2.out))⟩⟩
      ·have hly0 : decide (y < (o1.length : Int)) = false := decide_eq_false hly
       cases far with
       | true =>
        have h := HF.out
        rw [if_pos rfl, List.drop_eq_nil_of_le (by have := HY.out; omega), farS] at h
        obtain rfl := Option.some.inj h
        clear HF h
        obtain ⟨ad, Aw, cw, ead, hx0, hx1, hlw, hcw, hrw⟩ := el_at (Kd.R_below AL.out (below_step HN.out H2.out)) x HGE.out HLT.out
        cases ead
        simp only [add_at, Nat.zero_add] at hx0 hx1
        have HRW := Aside0.mk hrw
        clear hlw hcw hrw
        by_cases c4 : o1.length < 4398046511103
        case neg =>
         have H := HA.out
         rw [if_pos rfl, if_neg c4] at H
         exact absurd H (by simp)
        have H := HA.out
        rw [if_pos rfl, if_pos c4] at H
        have HA2 := Aside0.mk H
        have LM4 := Aside0.mk c4
        clear H HA c4
        go_wp2_with (first | ((with_reducible refine gate_builtin (b := .append) (xs := #[.tmp 56, .tmp 61]) rfl ?_); at_builtin; refine Kd.S_append k33 (w0 := w) w.heap.size rfl (.tmp 56) (.tmp 61) 60 33 (.agg #[(.int .i64 0), (.slice none 0 0)]) 32 rfl Try.underlying60 info33 rfl (by decide) (by omega) (.slice Ao o1.length co) o1 (rd_T33 l x) [.int .i64 (rd_T33 l x).f0, .slice Aw (rd_T33 l x).f1.length cw] (fun k_ => wa.heap.size ≤ k_ ∨ (f k_ : Int) < x + 1) (fun k_ => k_ < wa.heap.size ∧ (f k_ : Int) = x) rfl rfl ?aP ?aK ?aF ?aO ?aB ?aS ?aL ?_; (case aP => exact k33_mkM _ _ _ (rd_T33 l x) (Kd.R_below HRW.out (by repeat (first | (with_reducible first | exact Below.refl _ _ | apply below_alloc | apply pw_below_drewN | apply below_drew1))))); (case aK => exact fun k_ hk => ⟨Or.inr (by omega), fun e_ => by have := GW1.out.own k_ e_.symm; omega⟩); (case aF => exact fun k_ hk => Or.inl (Nat.le_trans (below_size (below_step HN.out (by repeat (first | (with_reducible first | exact H2.out | apply below_alloc | apply pw_below_drewN | apply below_drew1) | exact H2.out)))) hk)); (case aO => exact (GW1.out.step (by repeat (first | (with_reducible first | exact H2.out | apply below_alloc | apply pw_below_drewN | apply below_drew1) | exact H2.out))).hole); (case aB => exact below_step HB.out (by repeat (first | (with_reducible first | exact H2.out | apply below_alloc | apply pw_below_drewN | apply below_drew1) | exact H2.out))); (case aS => exact below_size (below_step HB.out (by repeat (first | (with_reducible first | exact H2.out | apply below_alloc | apply pw_below_drewN | apply below_drew1) | exact H2.out)))); (case aL => have := LM4.out; omega); intro v20 w15 ho hb hg hat; have GW2 : Aside0 (GW w15 wa.heap.size w.heap.size f (x + 1) v20 (o1 ++ [(rd_T33 l x)])) := ⟨(GW1.out.step (by repeat (first | (with_reducible first | exact H2.out | apply below_alloc | apply pw_below_drewN | apply below_drew1) | exact H2.out))).app ho (below_size (below_step HN.out (by repeat (first | (with_reducible first | exact H2.out | apply below_alloc | apply pw_below_drewN | apply below_drew1) | exact H2.out)))) hat⟩; have n0_ := Aside0.mk ((below_step HN.out (by repeat (first | (with_reducible first | exact H2.out | apply below_alloc | apply pw_below_drewN | apply below_drew1) | exact H2.out))).grown hg (below_size (below_step HN.out (by repeat (first | (with_reducible first | exact H2.out | apply below_alloc | apply pw_below_drewN | apply below_drew1) | exact H2.out)))) GW1.out.own); clear HN HB; have HN := n0_; have HB := Aside0.mk hb; clear n0_ ho hb hg hat))
        go_roundg (gk_ - 1)
        case measure => have := HX.out; have := HLT.out; omega
        case rel => exact ⟨x + 1, o1 ++ [(rd_T33 l x)], (by first | rfl | rw [HW.out] | simp [HW.out]), ⟨by have := HX.out; omega, by have := HLT.out; omega, by have := HX.out; have := HLT.out; omega⟩, HA2, ⟨GW2.out.step (by repeat (first | (with_reducible first | exact Below.refl _ _ | apply below_alloc | apply pw_below_drewN | apply below_drew1)))⟩, ⟨(by repeat (first | (with_reducible first | exact HN.out | apply below_alloc | apply pw_below_drewN | apply below_drew1) | exact HN.out))⟩, ⟨(by repeat (first | (with_reducible first | exact HB.out | apply below_alloc | apply pw_below_drewN | apply below_drew1) | exact HB.out))⟩⟩
       | false =>
        have h := HF.out
        rw [if_neg (by simp)] at h
        subst h
        clear HF
        have H := HA.out
        rw [if_neg (by simp)] at H
        have HA2 := Aside0.mk H
        clear H HA
        go_wp2
        go_roundg (gk_ - 1)
        case measure => have := HX.out; have := HLT.out; omega
        case rel => exact ⟨x + 1, o1, (by first | rfl | rw [HW.out] | simp [HW.out]), ⟨by have := HX.out; omega, by have := HLT.out; omega, by have := HX.out; have := HLT.out; omega⟩, HA2, ⟨(GW1.out.step (by repeat (first | (with_reducible first | exact H2.out | apply below_alloc | apply pw_below_drewN | apply below_drew1) | exact H2.out))).up (by omega)⟩, ⟨below_step HN.out (by repeat (first | (with_reducible first | exact H2.out | apply below_alloc | apply pw_below_drewN | apply below_drew1) | exact H2.out))⟩, ⟨below_step HB.out (by repeat (first | (with_reducible first | exact H2.out | apply below_alloc | apply pw_below_drewN | apply below_drew1) | exact H2.out))⟩⟩
    ·have hlt0 : decide (x < (l.length : Int)) = false := decide_eq_false hlt
     have h := HA.out
     rw [List.drop_eq_nil_of_le (by have := HX.out; omega), greedyS] at h
     obtain rfl := Option.some.inj h
     clear hlt HA h
     go_wp2
     go_ret2
     exact ⟨_, rfl, (by (with_reducible repeat (first | apply Kd.S_alloc | apply Kd.S_drewN | apply Kd.S_drew)); exact Kd.S_mono GW1.out.s (fun _ _ => trivial)), (by repeat (first | (with_reducible first | exact HB.out | apply below_alloc | apply pw_below_drewN | apply below_drew1) | exact HB.out))⟩
  ·rw [if_neg c2] at H
   have c2b0 : (code == 0) = false := beq_eq_false_iff_ne.mpr c2
   have c2b1 : (code != 0) = true := bne_iff_ne.mpr c2
   clear c2
   obtain ⟨rfl, rfl⟩ := Prod.mk.inj (Option.some.inj H)
   clear H
   go_enter Try.func53, Try.ntmps53
   go_wp2_with (first | ((with_reducible refine gate_callee (f := 91) rfl ?_); refine goesL_ (some 17) rfl rfl Try.func91 (by kernel_rfl) rfl #[.int .i64 n, .int .i64 kk, .int .i64 d] rfl (by (try simp only [List.map_toArray, List.map_cons, List.map_nil]); first | done | rfl | (simp only [List.length_drop, List.length_take]; rfl)) ?_; (with_reducible refine (spec_l06Distance.calls n kk d _ _ A1.out).mono ?_); rintro e w' ⟨rfl, ⟨nd, rfl⟩⟩; refine ⟨_, rfl, ?_⟩) | ((with_reducible refine gate_callee (f := 48) rfl ?_); refine goesL_ (some 23) rfl rfl Try.func48 (by kernel_rfl) rfl #[.int .i64 n, .int .i64 kk] rfl (by (try simp only [List.map_toArray, List.map_cons, List.map_nil]); first | done | rfl | (simp only [List.length_drop, List.length_take]; rfl)) ?_; (with_reducible refine (specSO_calls k n kk l _ _ A2.out).mono ?_); rintro e wa ⟨va, rfl, hs, hb⟩; refine ⟨_, rfl, ?_⟩; have n0_ := Aside0.mk (below_step (by repeat (first | (with_reducible first | exact HB.out | apply below_alloc | apply pw_below_drewN | apply below_drew1) | exact HB.out)) hb); have n2_ := Aside0.mk (Kd.S_lower (Kd.S_bound hs) (below_size (by repeat (first | (with_reducible first | exact HB.out | apply below_alloc | apply pw_below_drewN | apply below_drew1) | exact HB.out)))); clear HB hs hb; have HB := n0_; have HALL := n2_; clear n0_ n2_; obtain ⟨Aa, ca, ea⟩ := Kd.S_slice HALL.out; subst ea; have HN := Aside0.mk (Below.refl wa.heap.size wa)) | ((with_reducible refine gate_dst (N := 28) rfl ?_); refine Kd.S_lit k33 _ 33 ?hg (N := 28) ?hd (xs := ([] : List S33)) (inner := []) (ok := fun _ => True) (okp := fun _ => True) ?hr ?hp (fun _ hk => hk) trivial (Below.refl _ _) (Nat.le_refl _) (by simp) ?_; (case hd => rfl); (case hg => rfl); (case hr => first | (go_simp; done) | (go_simp; rfl)); (case hp => exact (Reps.none _ _)); intro v0 w5 hs hb hg_ hnew_; clear hg_ hnew_; have n0_ := Aside0.mk (below_step (by repeat (first | (with_reducible first | exact HB.out | apply below_alloc | apply pw_below_drewN | apply below_drew1) | exact HB.out)) hb); have HE := Aside0.mk (Kd.S_lower hs (below_size (by repeat (first | (with_reducible first | exact HB.out | apply below_alloc | apply pw_below_drewN | apply below_drew1) | exact HB.out)))); clear HB hs hb; have HB := n0_; clear n0_; obtain ⟨A0_, c0_, e0_⟩ := Kd.S_slice HE.out; subst e0_))
   go_ret2
   exact ⟨_, rfl, HE.out, (by repeat (first | (with_reducible first | exact HB.out | apply below_alloc | apply pw_below_drewN | apply below_drew1) | exact HB.out))⟩
 | false =>
  rw [if_neg (by simp)] at H
  obtain ⟨rfl, rfl⟩ := Prod.mk.inj (Option.some.inj H)
  clear H
  go_enter Try.func53, Try.ntmps53
  go_wp2_with (first | ((with_reducible refine gate_callee (f := 91) rfl ?_); refine goesL_ (some 17) rfl rfl Try.func91 (by kernel_rfl) rfl #[.int .i64 n, .int .i64 kk, .int .i64 d] rfl (by (try simp only [List.map_toArray, List.map_cons, List.map_nil]); first | done | rfl | (simp only [List.length_drop, List.length_take]; rfl)) ?_; (with_reducible refine (spec_l06Distance.calls n kk d _ _ A1.out).mono ?_); rintro e w' ⟨rfl, ⟨nd, rfl⟩⟩; refine ⟨_, rfl, ?_⟩) | ((with_reducible refine gate_dst (N := 19) rfl ?_); refine Kd.S_lit k33 _ 33 ?hg (N := 19) ?hd (xs := ([] : List S33)) (inner := []) (ok := fun _ => True) (okp := fun _ => True) ?hr ?hp (fun _ hk => hk) trivial (Below.refl _ _) (Nat.le_refl _) (by simp) ?_; (case hd => rfl); (case hg => rfl); (case hr => first | (go_simp; done) | (go_simp; rfl)); (case hp => exact (Reps.none _ _)); intro v0 w5 hs hb hg_ hnew_; clear hg_ hnew_; have n0_ := Aside0.mk (below_step (by repeat (first | (with_reducible first | exact HB.out | apply below_alloc | apply pw_below_drewN | apply below_drew1) | exact HB.out)) hb); have HE := Aside0.mk (Kd.S_lower hs (below_size (by repeat (first | (with_reducible first | exact HB.out | apply below_alloc | apply pw_below_drewN | apply below_drew1) | exact HB.out)))); clear HB hs hb; have HB := n0_; clear n0_; obtain ⟨A0_, c0_, e0_⟩ := Kd.S_slice HE.out; subst e0_))
  go_ret2
  exact ⟨_, rfl, HE.out, (by repeat (first | (with_reducible first | exact HB.out | apply below_alloc | apply pw_below_drewN | apply below_drew1) | exact HB.out))⟩
end Go.Proofs.Ytaopplbahakpgaa.PFnExactGreedySpaces
