/- The program's GreedySpaces hands back what the plain function implGS.f tells. -/
import Derived.Test.YtaopplbahakpgaaPFnExactGreedySpacesxd
namespace Go.Proofs.Ytaopplbahakpgaa.PFnExactGreedySpaces
open Go.RowKit Go.Proofs.YtaopplbahakpgaaW.PrintWords Go.Proofs.YtaopplbahakpgaaW.PrintLast Go.Proofs.YtaopplbahakpgaaW.PrintMore
attribute [local go_sem] max2_int min2_int max_two min_two max_three min_three max_four min_four   -- for this text's walks alone
set_option linter.unusedVariables false
set_option linter.unusedSimpArgs false
/-! ### a list of some of another list's elements: they lead to the same rows -/
theorem zip_rd (l : List S33) (i : Int) (h0 : 0 ≤ i) (h1 : i < (l.length : Int)) : l.zipIdx.getD i.toNat (z33, 0) = (rd_T33 l i, i.toNat) := by
 have hl : i.toNat < l.length := by omega
 unfold rd_T33
 rw [List.getD_eq_getElem?_getD, List.getElem?_zipIdx, List.getD_eq_getElem?_getD, List.getElem?_eq_getElem hl, Nat.zero_add]; rfl
theorem el_at {W : World} {N base : Nat} {f : Nat → Nat} {A : Option Addr} {n c : Nat} {l : List S33} (h : (Kd.tag f k33).R 33 W base (fun k => k < N) (.slice A n c) l.zipIdx) (i : Int) (h0 : 0 ≤ i) (h1 : i < (l.length : Int)) :
  ∃ ad A1 c1, A = some ad ∧ W.cell? (ad.add (i.toNat * 2)) = some (.int .i64 (rd_T33 l i).f0) ∧ W.cell? ⟨(ad.add (i.toNat * 2)).block, (ad.add (i.toNat * 2)).off + 1, none⟩ = some (.slice A1 (rd_T33 l i).f1.length c1) ∧ (rd_T33 l i).f1.length ≤ c1 ∧ (Kd.int .i64).C W A1 (rd_T33 l i).f1.length (rd_T33 l i).f1 ∧ Kd.R (Kd.int .i64) 2 W base (fun k => k < N ∧ (f k : Int) = i) (.slice A1 (rd_T33 l i).f1.length c1) (rd_T33 l i).f1 := by
 obtain ⟨hn, _, _⟩ := Kd.R_reads' h
 rw [List.length_zipIdx] at hn
 obtain ⟨g, cap, hv, _⟩ := Kd.R_form h (by rw [List.length_zipIdx]; omega)
 injection hv with hA _ _
 subst hA
 obtain ⟨cs, hcl, hM, hcc⟩ := Kd.R_getA h (z33, 0) i h0 (by omega)
 rw [zip_rd l i h0 h1] at hM
 have hM2 : k33.M W base (fun k => (k < N ∧ some k ≠ (Value.slice (some ⟨g, 0, none⟩) n c).ownBlock) ∧ f k = i.toNat) (rd_T33 l i) cs := hM
 obtain ⟨v1, rfl, hR⟩ := k33_openM hM2
 obtain ⟨A1, c1, rfl⟩ := Kd.R_slice hR
 have hR2 := Kd.R_mono (ok' := fun k => k < N ∧ (f k : Int) = i) hR (fun k hk => ⟨hk.1.1, by omega⟩)
 exact ⟨_, A1, c1, rfl, hcc 0 _ rfl, by rw [← add_field _ _ 1 (by omega)]; exact hcc 1 _ rfl, (Kd.R_reads' hR).2.1, (Kd.R_reads' hR).2.2, hR2⟩
theorem drop_rd (l : List S33) (x : Int) (h0 : 0 ≤ x) (h1 : x < (l.length : Int)) : l.drop x.toNat = rd_T33 l x :: l.drop (x + 1).toNat := by
 have hl : x.toNat < l.length := by omega
 rw [List.drop_eq_getElem_cons hl, show (x + 1).toNat = x.toNat + 1 by omega]
 congr 1
 unfold rd_T33
 rw [List.getD_eq_getElem?_getD, List.getElem?_eq_getElem hl]; rfl
structure GW (W : World) (N base : Nat) (f : Nat → Nat) (i : Int) (v : Value) (out : List S33) : Prop where
 s : Kd.S k33 33 W base (fun k => N ≤ k ∨ (f k : Int) < i) v out
 own : ∀ k, v.ownBlock = some k → N ≤ k
section
variable {W W1 : World} {N base : Nat} {f : Nat → Nat} {i j : Int} {v v1 : Value} {out : List S33}
theorem GW.step (h : GW W N base f i v out) (hb : Below W.heap.size W W1) : GW W1 N base f i v out := ⟨Kd.S_below h.s hb, h.own⟩
theorem GW.up (h : GW W N base f i v out) (hi : i ≤ j) : GW W N base f j v out := ⟨Kd.S_mono h.s (fun k hk => hk.imp id (fun h => by omega)), h.own⟩
theorem GW.hole (h : GW W N base f i v out) : Kd.S k33 33 W base (fun k => (N ≤ k ∨ (f k : Int) < i + 1) ∧ ¬ (k < N ∧ (f k : Int) = i)) v out :=
 Kd.S_mono h.s (fun k hk => ⟨hk.imp id (fun h => by omega), fun h2 => by omega⟩)
theorem GW.app (h : GW W N base f i v out) {o2 : List S33} (hs : Kd.S k33 33 W1 base (fun k => N ≤ k ∨ (f k : Int) < j) v1 o2) (hN : N ≤ W.heap.size) (hat : v1.ownBlock = v.ownBlock ∨ ∃ b, v1.ownBlock = some b ∧ W.heap.size ≤ b) : GW W1 N base f j v1 o2 := by
 refine ⟨hs, fun k hk => ?_⟩
 rcases hat with e | ⟨b, e, hb⟩
 ·exact h.own k (by rw [← e]; exact hk)
 ·rw [e] at hk; injection hk with hk; omega
end
def greedyI (k : Nat) (d : Int) : List S33 → List S33 → Option (List S33)
 | [], out => some out
 | u :: us, out => (anyO (fun x_ => impl_GreedySpaces_1.f k x_.f0 x_.f1 u.f0 u.f1 d) out).bind fun b => if b = true then greedyI k d us out else if out.length < 4398046511103 then greedyI k d us (out ++ [u]) else none
def implGS.f (k : Nat) (n kk d : Int) : Option (List S33 × Int) := (impl_distanceCode.f n kk d).bind fun c => if c = 0 then ((implSO.f k n kk).bind fun (l, c2) => if c2 = 0 then ((greedyI k d l []).bind fun o => some (o, 0)) else some ([], c2)) else some ([], c)
set_option maxHeartbeats 8000000 in
set_option maxRecDepth 100000 in
theorem implGS_calls (k : Nat) (n kk d : Int) (r : List S33) (c : Int) (w : World) (h : implGS.f k n kk d = some (r, c)) :
  Calls Try.prog 54 #[.int .i64 n, .int .i64 kk, .int .i64 d] w fun e w' => ∃ v', e = .returned (.tuple #[v', .int .i64 c]) ∧ Kd.S k33 33 w' w.heap.size (fun _ => True) v' r ∧ Below w.heap.size w w' := by
 have hu33 := Try.underlying33
 have HB := Aside0.mk (Below.refl w.heap.size w)
 unfold implGS.f at h
 replace h := Option.bind_eq_some_iff.mp h
 obtain ⟨code, A10, H⟩ := h
 have A1 := Aside0.mk A10
 clear A10
 by_cases c1 : code = 0
 ·rw [if_pos c1] at H
  subst c1
  replace H := Option.bind_eq_some_iff.mp H
  obtain ⟨⟨l, code⟩, A20, H⟩ := H
  have A2 := Aside0.mk A20
  clear A20
  dsimp only at H
  by_cases c2 : code = 0
  ·rw [if_pos c2] at H
   subst c2
   replace H := Option.bind_eq_some_iff.mp H
   obtain ⟨o, A30, H⟩ := H
   have A3 := Aside0.mk A30
   clear A30
   obtain ⟨rfl, rfl⟩ := Prod.mk.inj (Option.some.inj H)
   clear H
   go_enter Try.func54, Try.ntmps54
   go_wp2_with (first | ((with_reducible refine gate_dst (N := 5) rfl ?_); refine box_event ?hg (N := 5) ?hd (cs := #[.int .i64 d]) (t := 2) ?hr ?_; (case hd => rfl); (case hg => rfl); (case hr => first | (go_simp; done) | (go_simp; rfl)); intro qd hqd w3 hbox hb; have n0_ := Aside0.mk (below_step (by repeat (first | (with_reducible first | exact HB.out | apply below_alloc | apply pw_below_drewN | apply below_drew1) | exact HB.out)) hb); have BKd := Aside0.mk hbox; have hczd : w3.cell? ⟨qd, 0, none⟩ = some (.int .i64 d) := (blk_cell BKd.out 0).trans rfl; have hfzd := blk_frozen BKd.out 0; clear HB; have HB := n0_; clear n0_ hb hbox hqd) | ((with_reducible refine gate_callee (f := 93) rfl ?_); refine goesL_ (some 17) rfl rfl Try.func93 (by kernel_rfl) rfl #[.int .i64 n, .int .i64 kk, .int .i64 d] rfl (by (try simp only [List.map_toArray, List.map_cons, List.map_nil]); first | done | rfl | (simp only [List.length_drop, List.length_take]; rfl)) ?_; (with_reducible refine (impl_distanceCode.calls n kk d _ _ A1.out).mono ?_); rintro e w' ⟨rfl, ⟨nd, rfl⟩⟩; refine ⟨_, rfl, ?_⟩) | ((with_reducible refine gate_callee (f := 49) rfl ?_); refine goesL_ (some 24) rfl rfl Try.func49 (by kernel_rfl) rfl #[.int .i64 n, .int .i64 kk] rfl (by (try simp only [List.map_toArray, List.map_cons, List.map_nil]); first | done | rfl | (simp only [List.length_drop, List.length_take]; rfl)) ?_; (with_reducible refine (implSO_calls k n kk l _ _ A2.out).mono ?_); rintro e wa ⟨va, rfl, hs, hb⟩; refine ⟨_, rfl, ?_⟩; have n0_ := Aside0.mk (below_step (by repeat (first | (with_reducible first | exact HB.out | apply below_alloc | apply pw_below_drewN | apply below_drew1) | exact HB.out)) hb); have n1_ : Aside0 (wa.heap[qd]? = some (.cells #[.int .i64 d] 2 (0, 0))) := ⟨blk_below (by (with_reducible repeat (first | refine blk_drewN ?_ _ | refine blk_drew ?_ | refine blk_alloc ?_ _)); exact BKd.out) hb⟩; have n2_ := Aside0.mk (Kd.S_lower (Kd.S_bound hs) (below_size (by repeat (first | (with_reducible first | exact HB.out | apply below_alloc | apply pw_below_drewN | apply below_drew1) | exact HB.out)))); clear HB BKd hs hb; have HB := n0_; have BKd := n1_; have HALL := n2_; clear n0_ n1_ n2_; obtain ⟨Aa, ca, ea⟩ := Kd.S_slice HALL.out; subst ea; have HN := Aside0.mk (Below.refl wa.heap.size wa)) | ((with_reducible refine gate_dst (N := 30) rfl ?_); refine Kd.S_lit k33 _ 33 ?hg (N := 30) ?hd (xs := ([] : List S33)) (inner := []) (ok := fun _ => True) (okp := fun _ => True) ?hr ?hp (fun _ hk => hk) trivial (Below.refl _ _) (Nat.le_refl _) (by simp) ?_; (case hd => rfl); (case hg => rfl); (case hr => first | (go_simp; done) | (go_simp; rfl)); (case hp => exact (Reps.none _ _)); intro v0 w5 hs hb hg_ hnew_; clear hg_; obtain ⟨f, hf⟩ := HALL.out; have AL : Aside0 ((Kd.tag f k33).R 33 wa w.heap.size (fun k => k < wa.heap.size) (.slice Aa l.length ca) l.zipIdx) := ⟨Kd.R_mono hf (fun k hk => hk.2.2.1)⟩; have HL := Aside0.mk (show (l.length : Int) ≤ 9223372036854775807 by have := (Kd.S_reads' HALL.out).2.2.2.1; omega); have n0_ := Aside0.mk (below_step (by repeat (first | (with_reducible first | exact HB.out | apply below_alloc | apply pw_below_drewN | apply below_drew1) | exact HB.out)) hb); have n1_ : Aside0 (w5.heap[qd]? = some (.cells #[.int .i64 d] 2 (0, 0))) := ⟨blk_below (by (with_reducible repeat (first | refine blk_drewN ?_ _ | refine blk_drew ?_ | refine blk_alloc ?_ _)); exact BKd.out) hb⟩; have n2_ := Aside0.mk (below_step (by repeat (first | (with_reducible first | exact HN.out | apply below_alloc | apply pw_below_drewN | apply below_drew1) | exact HN.out)) hb); have GW1 : Aside0 (GW w5 wa.heap.size w.heap.size f 0 v0 []) := ⟨⟨Kd.S_lower (Kd.S_mono (Kd.S_bound hs) (fun k_ hk => Or.inl (Nat.le_trans (below_size (by repeat (first | (with_reducible first | exact HN.out | apply below_alloc | apply pw_below_drewN | apply below_drew1) | exact HN.out))) hk.2.1))) (below_size (by repeat (first | (with_reducible first | exact HB.out | apply below_alloc | apply pw_below_drewN | apply below_drew1) | exact HB.out))), fun k_ hk => by obtain ⟨b_, e_, hb_⟩ := hnew_; rw [e_] at hk; injection hk with hk; rw [← hk]; exact Nat.le_trans (below_size (by repeat (first | (with_reducible first | exact HN.out | apply below_alloc | apply pw_below_drewN | apply below_drew1) | exact HN.out))) hb_⟩⟩; clear HB BKd HN hs hb hnew_ hf HALL; have HB := n0_; have BKd := n1_; have HN := n2_; clear n0_ n1_ n2_))
   go_loopg [11, 33] l.length (fun kq v11 v33 w' => ∃ (x : Int) (o1 : List S33), v33 = .int .i64 x ∧ Aside0 (0 ≤ x ∧ x ≤ (l.length : Int) ∧ (l.length : Int) - x ≤ kq) ∧ Aside0 (greedyI k d (l.drop x.toNat) o1 = some o) ∧ Aside0 (GW w' wa.heap.size w.heap.size f x v11 o1) ∧ Aside0 (Below wa.heap.size wa w') ∧ Aside0 (Below w.heap.size w w') ∧ Aside0 (w'.heap[qd]? = some (.cells #[.int .i64 d] 2 (0, 0))))
   case atStart => exact ⟨0, [], rfl, ⟨by omega, by omega, by omega⟩, A3, ⟨GW1.out.step (by repeat (first | (with_reducible first | exact Below.refl _ _ | apply below_alloc | apply pw_below_drewN | apply below_drew1)))⟩, ⟨(by repeat (first | (with_reducible first | exact HN.out | apply below_alloc | apply pw_below_drewN | apply below_drew1) | exact HN.out))⟩, ⟨(by repeat (first | (with_reducible first | exact HB.out | apply below_alloc | apply pw_below_drewN | apply below_drew1) | exact HB.out))⟩, ⟨by (with_reducible repeat (first | refine blk_drewN ?_ _ | refine blk_drew ?_ | refine blk_alloc ?_ _)); exact BKd.out⟩⟩
   case round =>
    clear A3 HB HN GW1 BKd
    obtain ⟨x, o1, rfl, HX, HA, GW1, HN, HB, BKd⟩ := hrel
    by_cases hlt : x < (l.length : Int)
    ·have hlt0 : decide (x < (l.length : Int)) = true := decide_eq_true hlt
     have hw1 : wrap64 (x + 1) = x + 1 := by have := HX.out; have := HL.out; unfold wrap64; omega
     have hge := HX.out.1
     have h := HA.out
     rw [drop_rd l x hge hlt, greedyI] at h
     replace h := Option.bind_eq_some_iff.mp h
     obtain ⟨q, A40, H⟩ := h
     have A4 := Aside0.mk A40
     clear A40 HA
     obtain ⟨ad, Au, cu, ead, hx0, hx1, hlu, hcu, hru⟩ := el_at (Kd.R_below AL.out HN.out) x hge hlt
     cases ead
     have HLU := Aside0.mk hlu
     have HCU := Aside0.mk hcu
     have HRU := Aside0.mk hru
     have HW := Aside0.mk hw1
     obtain ⟨Ao, co, eo⟩ := Kd.S_slice GW1.out.s
     subst eo
     have hc0 : decide (0 ≤ x) = true := decide_eq_true hge
     have hc1 := eq_true hge
     have hc2 := eq_true hlt
     have HGE := Aside0.mk hge
     have HLT := Aside0.mk hlt
     clear hlu hcu hru hlt hge hw1
     have HS := Aside0.mk (Below.refl wr.heap.size wr)
     cases q with
     | true =>
      rw [if_pos rfl] at H
      have HA := Aside0.mk H
      clear H
      go_wp2_with (first | ((with_reducible refine gate_dst (N := 13) rfl ?_); refine box_event ?hg (N := 13) ?hd (cs := #[.int .i64 0, .slice none 0 0]) (t := 33) ?hr ?_; (case hd => rfl); (case hg => rfl); (case hr => first | (go_simp; done) | (go_simp; rfl)); intro qu hqu w9 hbox hb; have n0_ := Aside0.mk (below_step (by repeat (first | (with_reducible first | exact HS.out | apply below_alloc | apply pw_below_drewN | apply below_drew1) | exact HS.out)) hb); have BKu := Aside0.mk hbox; have GEu := Aside0.mk (show wr.heap.size ≤ qu by rw [hqu]; exact below_size (by repeat (first | (with_reducible first | exact HS.out | apply below_alloc | apply pw_below_drewN | apply below_drew1) | exact HS.out))); have hczu0 : w9.cell? ⟨qu, 0, none⟩ = some (.int .i64 0) := (blk_cell BKu.out 0).trans rfl; have hczu1 : w9.cell? ⟨qu, 1, none⟩ = some (.slice none 0 0) := (blk_cell BKu.out 1).trans rfl; have hfzu0 := blk_frozen BKu.out 0; have hfzu1 := blk_frozen BKu.out 1; clear HS; have HS := n0_; clear n0_ hb hbox hqu) | ((with_reducible refine gate_store (t := 33) (p := 13) rfl ?_); refine store_event (t := 33) (p := 13) (v := ?vo3_) (w1 := ((w9.setCell ⟨qu, 0, none⟩ (.int .i64 (rd_T33 l x).f0)).setCell ⟨qu, 1, none⟩ (.slice Au (rd_T33 l x).f1.length cu))) ?hg ?ho ?hn ?hr ?_; (case ho => rfl); (case hg => rfl); (case hn => rfl); (case hr => first | (go_simp; done) | (go_simp; rfl)); intro w10 hw10; have n1_ : Aside0 (w10.heap[qu]? = some (.cells #[.int .i64 (rd_T33 l x).f0, .slice Au (rd_T33 l x).f1.length cu] 33 (0, 0))) := ⟨by rw [hw10]; exact blk_put (blk_put BKu.out 0 _ rfl) 1 _ rfl⟩; have n0_ : Aside0 (Below wr.heap.size wr w10) := ⟨by rw [hw10]; exact below_set (below_set HS.out GEu.out) GEu.out⟩; clear HS BKu hczu0 hczu1 hfzu0 hfzu1 hw10; have HS := n0_; have BKu := n1_; clear n0_ n1_) | ((with_reducible refine gate_callee (f := 94) rfl ?_); refine goesL_ (some 39) rfl rfl Try.func94 (by kernel_rfl) rfl #[.slice Ao o1.length co, .func (.func 95) #[] #[.pointer (some ⟨qu, 0, none⟩), .pointer (some ⟨qd, 0, none⟩)]] rfl (by (try simp only [List.map_toArray, List.map_cons, List.map_nil]); first | done | rfl | (simp only [List.length_drop, List.length_take]; rfl)) ?_; (with_reducible refine (impl_Matrix_94.own (fun x_ => impl_GreedySpaces_1.f k x_.f0 x_.f1 (rd_T33 l x).f0 (rd_T33 l x).f1 d) 95 #[.pointer (some ⟨qu, 0, none⟩), .pointer (some ⟨qd, 0, none⟩)] (enters_of Try.func95 (by kernel_rfl) rfl) _ _ o1 _ _ ?hp ?side1 ?side2 A4.out).mono ?_); (case hp => intro W_ x_ A_ c_ q_ hb_ hl_ hc_ hx_; exact impl_GreedySpaces_1.calls k x_.f0 A_ c_ x_.f1 qu (rd_T33 l x).f0 Au cu (rd_T33 l x).f1 qd d q_ W_ hc_ hl_ (blk_below (by (with_reducible repeat (first | refine blk_drewN ?_ _ | refine blk_drew ?_ | refine blk_alloc ?_ _)); exact BKu.out) hb_) (Kd.C_below HCU.out (below_step (by repeat (first | (with_reducible first | exact HS.out | apply below_alloc | apply pw_below_drewN | apply below_drew1) | exact HS.out)) hb_)) HLU.out (blk_below BKd.out (below_step (by repeat (first | (with_reducible first | exact HS.out | apply below_alloc | apply pw_below_drewN | apply below_drew1) | exact HS.out)) hb_)) hx_); (case side1 => exact Kd.C_below (Kd.S_reads' GW1.out.s).2.2 (by repeat (first | (with_reducible first | exact HS.out | apply below_alloc | apply pw_below_drewN | apply below_drew1) | exact HS.out))); (case side2 => exact (Kd.S_reads' GW1.out.s).2.1); rintro e w11 ⟨rfl, hb⟩; refine ⟨_, rfl, ?_⟩; have n0_ := Aside0.mk (below_step (by repeat (first | (with_reducible first | exact HS.out | apply below_alloc | apply pw_below_drewN | apply below_drew1) | exact HS.out)) hb); have n1_ : Aside0 (w11.heap[qu]? = some (.cells #[.int .i64 (rd_T33 l x).f0, .slice Au (rd_T33 l x).f1.length cu] 33 (0, 0))) := ⟨blk_below (by (with_reducible repeat (first | refine blk_drewN ?_ _ | refine blk_drew ?_ | refine blk_alloc ?_ _)); exact BKu.out) hb⟩; clear HS BKu hb; have HS := n0_; have BKu := n1_; clear n0_ n1_; have hczu0 : w11.cell? ⟨qu, 0, none⟩ = some (.int .i64 (rd_T33 l x).f0) := (blk_cell BKu.out 0).trans rfl; have hczu1 : w11.cell? ⟨qu, 1, none⟩ = some (.slice Au (rd_T33 l x).f1.length cu) := (blk_cell BKu.out 1).trans rfl; have hfzu0 := blk_frozen BKu.out 0; have hfzu1 := blk_frozen BKu.out 1))
      go_roundg (gk - 1)
      case measure => have := HX.out; have := HLT.out; omega
      case rel => exact ⟨x + 1, o1, (by first | rfl | rw [HW.out] | simp [HW.out]), ⟨by have := HX.out; omega, by have := HLT.out; omega, by have := HX.out; have := HLT.out; omega⟩, HA, ⟨(GW1.out.step (by repeat (first | (with_reducible first | exact HS.out | apply below_alloc | apply pw_below_drewN | apply below_drew1) | exact HS.out))).up (by omega)⟩, ⟨below_step HN.out (by repeat (first | (with_reducible first | exact HS.out | apply below_alloc | apply pw_below_drewN | apply below_drew1) | exact HS.out))⟩, ⟨below_step HB.out (by repeat (first | (with_reducible first | exact HS.out | apply below_alloc | apply pw_below_drewN | apply below_drew1) | exact HS.out))⟩, ⟨blk_below BKd.out (by repeat (first | (with_reducible first | exact HS.out | apply below_alloc | apply pw_below_drewN | apply below_drew1) | exact HS.out))⟩⟩
     | false =>
      rw [if_neg (by simp)] at H
      by_cases c4 : o1.length < 4398046511103
      ·rw [if_pos c4] at H
       have HA := Aside0.mk H
       have LM4 := Aside0.mk c4
       clear H c4
       go_wp2_with (first | ((with_reducible refine gate_dst (N := 13) rfl ?_); refine box_event ?hg (N := 13) ?hd (cs := #[.int .i64 0, .slice none 0 0]) (t := 33) ?hr ?_; (case hd => rfl); (case hg => rfl); (case hr => first | (go_simp; done) | (go_simp; rfl)); intro qu hqu w9 hbox hb; have n0_ := Aside0.mk (below_step (by repeat (first | (with_reducible first | exact HS.out | apply below_alloc | apply pw_below_drewN | apply below_drew1) | exact HS.out)) hb); have BKu := Aside0.mk hbox; have GEu := Aside0.mk (show wr.heap.size ≤ qu by rw [hqu]; exact below_size (by repeat (first | (with_reducible first | exact HS.out | apply below_alloc | apply pw_below_drewN | apply below_drew1) | exact HS.out))); have hczu0 : w9.cell? ⟨qu, 0, none⟩ = some (.int .i64 0) := (blk_cell BKu.out 0).trans rfl; have hczu1 : w9.cell? ⟨qu, 1, none⟩ = some (.slice none 0 0) := (blk_cell BKu.out 1).trans rfl; have hfzu0 := blk_frozen BKu.out 0; have hfzu1 := blk_frozen BKu.out 1; clear HS; have HS := n0_; clear n0_ hb hbox hqu) | ((with_reducible refine gate_store (t := 33) (p := 13) rfl ?_); refine store_event (t := 33) (p := 13) (v := ?vo3_) (w1 := ((w9.setCell ⟨qu, 0, none⟩ (.int .i64 (rd_T33 l x).f0)).setCell ⟨qu, 1, none⟩ (.slice Au (rd_T33 l x).f1.length cu))) ?hg ?ho ?hn ?hr ?_; (case ho => rfl); (case hg => rfl); (case hn => rfl); (case hr => first | (go_simp; done) | (go_simp; rfl)); intro w10 hw10; have n1_ : Aside0 (w10.heap[qu]? = some (.cells #[.int .i64 (rd_T33 l x).f0, .slice Au (rd_T33 l x).f1.length cu] 33 (0, 0))) := ⟨by rw [hw10]; exact blk_put (blk_put BKu.out 0 _ rfl) 1 _ rfl⟩; have n0_ : Aside0 (Below wr.heap.size wr w10) := ⟨by rw [hw10]; exact below_set (below_set HS.out GEu.out) GEu.out⟩; clear HS BKu hczu0 hczu1 hfzu0 hfzu1 hw10; have HS := n0_; have BKu := n1_; clear n0_ n1_) | ((with_reducible refine gate_callee (f := 94) rfl ?_); refine goesL_ (some 39) rfl rfl Try.func94 (by kernel_rfl) rfl #[.slice Ao o1.length co, .func (.func 95) #[] #[.pointer (some ⟨qu, 0, none⟩), .pointer (some ⟨qd, 0, none⟩)]] rfl (by (try simp only [List.map_toArray, List.map_cons, List.map_nil]); first | done | rfl | (simp only [List.length_drop, List.length_take]; rfl)) ?_; (with_reducible refine (impl_Matrix_94.own (fun x_ => impl_GreedySpaces_1.f k x_.f0 x_.f1 (rd_T33 l x).f0 (rd_T33 l x).f1 d) 95 #[.pointer (some ⟨qu, 0, none⟩), .pointer (some ⟨qd, 0, none⟩)] (enters_of Try.func95 (by kernel_rfl) rfl) _ _ o1 _ _ ?hp ?side1 ?side2 A4.out).mono ?_); (case hp => intro W_ x_ A_ c_ q_ hb_ hl_ hc_ hx_; exact impl_GreedySpaces_1.calls k x_.f0 A_ c_ x_.f1 qu (rd_T33 l x).f0 Au cu (rd_T33 l x).f1 qd d q_ W_ hc_ hl_ (blk_below (by (with_reducible repeat (first | refine blk_drewN ?_ _ | refine blk_drew ?_ | refine blk_alloc ?_ _)); exact BKu.out) hb_) (Kd.C_below HCU.out (below_step (by repeat (first | (with_reducible first | exact HS.out | apply below_alloc | apply pw_below_drewN | apply below_drew1) | exact HS.out)) hb_)) HLU.out (blk_below BKd.out (below_step (by repeat (first | (with_reducible first | exact HS.out | apply below_alloc | apply pw_below_drewN | apply below_drew1) | exact HS.out)) hb_)) hx_); (case side1 => exact Kd.C_below (Kd.S_reads' GW1.out.s).2.2 (by repeat (first | (with_reducible first | exact HS.out | apply below_alloc | apply pw_below_drewN | apply below_drew1) | exact HS.out))); (case side2 => exact (Kd.S_reads' GW1.out.s).2.1); rintro e w11 ⟨rfl, hb⟩; refine ⟨_, rfl, ?_⟩; have n0_ := Aside0.mk (below_step (by repeat (first | (with_reducible first | exact HS.out | apply below_alloc | apply pw_below_drewN | apply below_drew1) | exact HS.out)) hb); have n1_ : Aside0 (w11.heap[qu]? = some (.cells #[.int .i64 (rd_T33 l x).f0, .slice Au (rd_T33 l x).f1.length cu] 33 (0, 0))) := ⟨blk_below (by (with_reducible repeat (first | refine blk_drewN ?_ _ | refine blk_drew ?_ | refine blk_alloc ?_ _)); exact BKu.out) hb⟩; clear HS BKu hb; have HS := n0_; have BKu := n1_; clear n0_ n1_; have hczu0 : w11.cell? ⟨qu, 0, none⟩ = some (.int .i64 (rd_T33 l x).f0) := (blk_cell BKu.out 0).trans rfl; have hczu1 : w11.cell? ⟨qu, 1, none⟩ = some (.slice Au (rd_T33 l x).f1.length cu) := (blk_cell BKu.out 1).trans rfl; have hfzu0 := blk_frozen BKu.out 0; have hfzu1 := blk_frozen BKu.out 1) | ((with_reducible refine gate_builtin (b := .append) (xs := #[.tmp 41, .tmp 43]) rfl ?_); at_builtin; refine Kd.S_append k33 (w0 := w) w.heap.size rfl (.tmp 41) (.tmp 43) 60 33 (.agg #[(.int .i64 0), (.slice none 0 0)]) 32 rfl Try.underlying60 info33 rfl (by decide) (by omega) (.slice Ao o1.length co) o1 (rd_T33 l x) [.int .i64 (rd_T33 l x).f0, .slice Au (rd_T33 l x).f1.length cu] (fun k_ => wa.heap.size ≤ k_ ∨ (f k_ : Int) < x + 1) (fun k_ => k_ < wa.heap.size ∧ (f k_ : Int) = x) rfl rfl ?aP ?aK ?aF ?aO ?aB ?aS ?aL ?_; (case aP => exact k33_mkM _ _ _ (rd_T33 l x) (Kd.R_below HRU.out (by repeat (first | (with_reducible first | exact HS.out | apply below_alloc | apply pw_below_drewN | apply below_drew1) | exact HS.out)))); (case aK => exact fun k_ hk => ⟨Or.inr (by omega), fun e_ => by have := GW1.out.own k_ e_.symm; omega⟩); (case aF => exact fun k_ hk => Or.inl (Nat.le_trans (below_size (below_step HN.out (by repeat (first | (with_reducible first | exact HS.out | apply below_alloc | apply pw_below_drewN | apply below_drew1) | exact HS.out)))) hk)); (case aO => exact (GW1.out.step (by repeat (first | (with_reducible first | exact HS.out | apply below_alloc | apply pw_below_drewN | apply below_drew1) | exact HS.out))).hole); (case aB => exact below_step HB.out (by repeat (first | (with_reducible first | exact HS.out | apply below_alloc | apply pw_below_drewN | apply below_drew1) | exact HS.out))); (case aS => exact below_size (below_step HB.out (by repeat (first | (with_reducible first | exact HS.out | apply below_alloc | apply pw_below_drewN | apply below_drew1) | exact HS.out)))); (case aL => have := LM4.out; omega); intro v20 w15 ho hb hg hat; have GW2 : Aside0 (GW w15 wa.heap.size w.heap.size f (x + 1) v20 (o1 ++ [(rd_T33 l x)])) := ⟨(GW1.out.step (by repeat (first | (with_reducible first | exact HS.out | apply below_alloc | apply pw_below_drewN | apply below_drew1) | exact HS.out))).app ho (below_size (below_step HN.out (by repeat (first | (with_reducible first | exact HS.out | apply below_alloc | apply pw_below_drewN | apply below_drew1) | exact HS.out)))) hat⟩; have n0_ := Aside0.mk ((below_step HN.out (by repeat (first | (with_reducible first | exact HS.out | apply below_alloc | apply pw_below_drewN | apply below_drew1) | exact HS.out))).grown hg (below_size (below_step HN.out (by repeat (first | (with_reducible first | exact HS.out | apply below_alloc | apply pw_below_drewN | apply below_drew1) | exact HS.out)))) GW1.out.own); have n1_ : Aside0 (w15.heap[qd]? = some (.cells #[.int .i64 d] 2 (0, 0))) := ⟨blk_grown (blk_below BKd.out (by repeat (first | (with_reducible first | exact HS.out | apply below_alloc | apply pw_below_drewN | apply below_drew1) | exact HS.out))) hg (Kd.S_ne (GW1.out.step (by repeat (first | (with_reducible first | exact HS.out | apply below_alloc | apply pw_below_drewN | apply below_drew1) | exact HS.out))).s (blk_below BKd.out (by repeat (first | (with_reducible first | exact HS.out | apply below_alloc | apply pw_below_drewN | apply below_drew1) | exact HS.out))) (by decide))⟩; clear HN HB BKd; have HN := n0_; have HB := Aside0.mk hb; have BKd := n1_; clear n0_ n1_ ho hb hg hat))
       go_roundg (gk - 1)
       case measure => have := HX.out; have := HLT.out; omega
       case rel => exact ⟨x + 1, o1 ++ [rd_T33 l x], (by first | rfl | rw [HW.out] | simp [HW.out]), ⟨by have := HX.out; omega, by have := HLT.out; omega, by have := HX.out; have := HLT.out; omega⟩, HA, ⟨GW2.out.step (by repeat (first | (with_reducible first | exact Below.refl _ _ | apply below_alloc | apply pw_below_drewN | apply below_drew1)))⟩, ⟨(by repeat (first | (with_reducible first | exact HN.out | apply below_alloc | apply pw_below_drewN | apply below_drew1) | exact HN.out))⟩, ⟨(by repeat (first | (with_reducible first | exact HB.out | apply below_alloc | apply pw_below_drewN | apply below_drew1) | exact HB.out))⟩, ⟨by (with_reducible repeat (first | refine blk_drewN ?_ _ | refine blk_drew ?_ | refine blk_alloc ?_ _)); exact BKd.out⟩⟩
      ·rw [if_neg c4] at H
       exact absurd H (by simp)
    ·have hlt0 : decide (x < (l.length : Int)) = false := decide_eq_false hlt
     have h := HA.out
     rw [List.drop_eq_nil_of_le (by have := HX.out; omega), greedyI] at h
     obtain rfl := Option.some.inj h
     clear hlt HA h
     go_wp2
     go_ret2
     exact ⟨_, rfl, (by (with_reducible repeat (first | apply Kd.S_alloc | apply Kd.S_drewN | apply Kd.S_drew)); exact Kd.S_mono GW1.out.s (fun _ _ => trivial)), (by repeat (first | (with_reducible first | exact HB.out | apply below_alloc | apply pw_below_drewN | apply below_drew1) | exact HB.out))⟩
  ·rw [if_neg c2] at H
   have c2b0 : (code == 0) = false := beq_eq_false_iff_ne.mpr c2
   have c2b1 : (code != 0) = true := bne_iff_ne.mpr c2
   clear c2
   obtain ⟨rfl, rfl⟩ := Prod.mk.inj (Option.some.inj H)
   clear H
   go_enter Try.func54, Try.ntmps54
   go_wp2_with (first | ((with_reducible refine gate_dst (N := 5) rfl ?_); refine box_event ?hg (N := 5) ?hd (cs := #[.int .i64 d]) (t := 2) ?hr ?_; (case hd => rfl); (case hg => rfl); (case hr => first | (go_simp; done) | (go_simp; rfl)); intro qd hqd w3 hbox hb; have n0_ := Aside0.mk (below_step (by repeat (first | (with_reducible first | exact HB.out | apply below_alloc | apply pw_below_drewN | apply below_drew1) | exact HB.out)) hb); have BKd := Aside0.mk hbox; have hczd : w3.cell? ⟨qd, 0, none⟩ = some (.int .i64 d) := (blk_cell BKd.out 0).trans rfl; have hfzd := blk_frozen BKd.out 0; clear HB; have HB := n0_; clear n0_ hb hbox hqd) | ((with_reducible refine gate_callee (f := 93) rfl ?_); refine goesL_ (some 17) rfl rfl Try.func93 (by kernel_rfl) rfl #[.int .i64 n, .int .i64 kk, .int .i64 d] rfl (by (try simp only [List.map_toArray, List.map_cons, List.map_nil]); first | done | rfl | (simp only [List.length_drop, List.length_take]; rfl)) ?_; (with_reducible refine (impl_distanceCode.calls n kk d _ _ A1.out).mono ?_); rintro e w' ⟨rfl, ⟨nd, rfl⟩⟩; refine ⟨_, rfl, ?_⟩) | ((with_reducible refine gate_callee (f := 49) rfl ?_); refine goesL_ (some 24) rfl rfl Try.func49 (by kernel_rfl) rfl #[.int .i64 n, .int .i64 kk] rfl (by (try simp only [List.map_toArray, List.map_cons, List.map_nil]); first | done | rfl | (simp only [List.length_drop, List.length_take]; rfl)) ?_; (with_reducible refine (implSO_calls k n kk l _ _ A2.out).mono ?_); rintro e wa ⟨va, rfl, hs, hb⟩; refine ⟨_, rfl, ?_⟩; have n0_ := Aside0.mk (below_step (by repeat (first | (with_reducible first | exact HB.out | apply below_alloc | apply pw_below_drewN | apply below_drew1) | exact HB.out)) hb); have n1_ : Aside0 (wa.heap[qd]? = some (.cells #[.int .i64 d] 2 (0, 0))) := ⟨blk_below (by (with_reducible repeat (first | refine blk_drewN ?_ _ | refine blk_drew ?_ | refine blk_alloc ?_ _)); exact BKd.out) hb⟩; have n2_ := Aside0.mk (Kd.S_lower (Kd.S_bound hs) (below_size (by repeat (first | (with_reducible first | exact HB.out | apply below_alloc | apply pw_below_drewN | apply below_drew1) | exact HB.out)))); clear HB BKd hs hb; have HB := n0_; have BKd := n1_; have HALL := n2_; clear n0_ n1_ n2_; obtain ⟨Aa, ca, ea⟩ := Kd.S_slice HALL.out; subst ea; have HN := Aside0.mk (Below.refl wa.heap.size wa)))
   go_ret2
   exact ⟨_, rfl, Kd.S_nil _ _ _ _ _, (by repeat (first | (with_reducible first | exact HB.out | apply below_alloc | apply pw_below_drewN | apply below_drew1) | exact HB.out))⟩
 ·rw [if_neg c1] at H
  have c1b0 : (code == 0) = false := beq_eq_false_iff_ne.mpr c1
  have c1b1 : (code != 0) = true := bne_iff_ne.mpr c1
  clear c1
  obtain ⟨rfl, rfl⟩ := Prod.mk.inj (Option.some.inj H)
  clear H
  go_enter Try.func54, Try.ntmps54
  go_wp2_with (first | ((with_reducible refine gate_dst (N := 5) rfl ?_); refine box_event ?hg (N := 5) ?hd (cs := #[.int .i64 d]) (t := 2) ?hr ?_; (case hd => rfl); (case hg => rfl); (case hr => first | (go_simp; done) | (go_simp; rfl)); intro qd hqd w3 hbox hb; have n0_ := Aside0.mk (below_step (by repeat (first | (with_reducible first | exact HB.out | apply below_alloc | apply pw_below_drewN | apply below_drew1) | exact HB.out)) hb); have BKd := Aside0.mk hbox; have hczd : w3.cell? ⟨qd, 0, none⟩ = some (.int .i64 d) := (blk_cell BKd.out 0).trans rfl; have hfzd := blk_frozen BKd.out 0; clear HB; have HB := n0_; clear n0_ hb hbox hqd) | ((with_reducible refine gate_callee (f := 93) rfl ?_); refine goesL_ (some 17) rfl rfl Try.func93 (by kernel_rfl) rfl #[.int .i64 n, .int .i64 kk, .int .i64 d] rfl (by (try simp only [List.map_toArray, List.map_cons, List.map_nil]); first | done | rfl | (simp only [List.length_drop, List.length_take]; rfl)) ?_; (with_reducible refine (impl_distanceCode.calls n kk d _ _ A1.out).mono ?_); rintro e w' ⟨rfl, ⟨nd, rfl⟩⟩; refine ⟨_, rfl, ?_⟩))
  go_ret2
  exact ⟨_, rfl, Kd.S_nil _ _ _ _ _, (by repeat (first | (with_reducible first | exact HB.out | apply below_alloc | apply pw_below_drewN | apply below_drew1) | exact HB.out))⟩
end Go.Proofs.Ytaopplbahakpgaa.PFnExactGreedySpaces
