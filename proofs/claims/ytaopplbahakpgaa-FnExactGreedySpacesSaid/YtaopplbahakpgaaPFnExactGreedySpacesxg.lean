/- The law FnExactGreedySpaces answers true where both plain functions tell the same list and code, and the list answers the law's marks. -/
import Derived.Test.YtaopplbahakpgaaPFnExactGreedySpacesxf
namespace Go.Proofs.Ytaopplbahakpgaa.PFnExactGreedySpaces
open Go.RowKit Go.Proofs.YtaopplbahakpgaaW.PrintWords Go.Proofs.YtaopplbahakpgaaW.PrintLast Go.Proofs.YtaopplbahakpgaaW.PrintMore
attribute [local go_sem] max2_int min2_int max_two min_two max_three min_three max_four min_four   -- for this text's walks alone
set_option linter.unusedVariables false
set_option linter.unusedSimpArgs false
def markMS.l : Nat → List S33 → Int → Int → Option (Int × List S33)
 | 0, _, _, _ => none
 | k + 1, xs, i, m => if i < (xs.length : Int) then (if 0 ≤ i then ((laws_markInt64S.f k (rd_T33 xs i).f1 (wrap64 (m + 1))).bind fun (m2, r2) => markMS.l k (xs.set i.toNat (⟨m, r2⟩ : S33)) (wrap64 (i + 1)) m2) else none) else some (m, xs)
theorem set_same {xs : List S33} {i : Nat} {x y : S33} (h : i < xs.length) : (xs.set i x).set i y = xs.set i y := by simp
theorem getD_set {x1 : List S33} {x5 m1 : Int} {W : World} {base : Nat} {ok : Nat → Prop} {v : Value} (hl : x5.toNat < x1.length) (h : Kd.R (Kd.int .i64) 2 W base ok v ((x1.set x5.toNat (⟨m1, (x1.getD x5.toNat z33).f1⟩ : S33)).getD x5.toNat z33).f1) : Kd.R (Kd.int .i64) 2 W base ok v (rd_T33 x1 x5).f1 := by
 have : ((x1.set x5.toNat (⟨m1, (x1.getD x5.toNat z33).f1⟩ : S33)).getD x5.toNat z33).f1 = (rd_T33 x1 x5).f1 := by
  simp [rd_T33, hl]
 rw [← this]; exact h
theorem mark_back {x1 : List S33} {x5 m1 : Int} {w8 w10 : World} {base g n cap : Nat} {oki : Nat → Prop} {v : Value} {r3 : List Int} (hh : Kd.H k33 33 w8 base (fun k_ => base ≤ k_) (.slice (some ⟨g, 0, none⟩) n cap) (x1.set x5.toNat (⟨m1, (x1.getD x5.toNat z33).f1⟩ : S33)) x5 oki [.int .i64 ((x1.set x5.toNat (⟨m1, (x1.getD x5.toNat z33).f1⟩ : S33)).getD x5.toNat z33).f0, v]) (hl : x5.toNat < x1.length) (hr : Kd.R (Kd.int .i64) 2 w10 base (fun k_ => oki k_ ∨ w8.heap.size ≤ k_) v r3) (hk : Kept w8 w10 (fun k_ => oki k_)) (hb : base ≤ w8.heap.size) : Kd.S k33 33 w10 base (fun k_ => base ≤ k_) (.slice (some ⟨g, 0, none⟩) n cap) (x1.set x5.toNat (⟨m1, r3⟩ : S33)) := by
 have he : ((x1.set x5.toNat (⟨m1, (x1.getD x5.toNat z33).f1⟩ : S33)).getD x5.toNat z33).f0 = m1 := by simp [hl]
 rw [he] at hh
 have h1 := Kd.H_step (Kd.H_widen hh) (w1 := w10) (fun k_ _ h2 h3 => hk.2 k_ h3 (fun h4 => h2 (.inl h4)))
 have h2 := Kd.H_back h1 (x' := (⟨m1, r3⟩ : S33)) (okp := fun k_ => oki k_ ∨ w8.heap.size ≤ k_) (k33_mkM _ _ _ (⟨m1, r3⟩ : S33) hr) (fun k_ h => h.elim .inl (fun h => .inr ⟨Nat.le_trans hb h, h⟩))
 rwa [set_same hl] at h2
set_option maxHeartbeats 8000000 in
set_option maxRecDepth 100000 in
theorem markMS_calls (k : Nat) (v : Value) (xs xs2 : List S33) (m m2 : Int) (w0 w : World) (hB : Below w0.heap.size w0 w) (hs : Kd.S k33 33 w w0.heap.size (fun k_ => w0.heap.size ≤ k_) v xs) (h : markMS.l k xs 0 m = some (m2, xs2)) :
  Calls Try.prog 51 #[v, .int .i64 m] w fun e w' => e = .returned (.int .i64 m2) ∧ Kd.S k33 33 w' w0.heap.size (fun k_ => w0.heap.size ≤ k_) v xs2 ∧ Below w0.heap.size w0 w' := by
 have hu33 := Try.underlying33
 have HB := Aside0.mk hB
 have HS := Aside0.mk hs
 have H' := Aside0.mk h
 clear hB hs h
 obtain ⟨A0, c0, e0⟩ := Kd.S_slice HS.out
 subst e0
 obtain ⟨N0, hN0⟩ : ∃ N_ : Nat, N_ = xs.length := ⟨_, rfl⟩
 rw [← hN0] at HS
 rw [← hN0]
 clear hN0
 go_enter Try.func51, Try.ntmps51
 go_wp2
 go_loopg [1, 5] k (fun kq v1 v5 w' => ∃ (x1 : List S33) (m1 : Int) (x5 : Int), v1 = .int .i64 m1 ∧ v5 = .int .i64 x5 ∧ Aside0 (markMS.l kq x1 x5 m1 = some (m2, xs2)) ∧ Aside0 (kq ≤ k) ∧ Aside0 (Kd.S k33 33 w' w0.heap.size (fun k_ => w0.heap.size ≤ k_) (.slice A0 N0 c0) x1) ∧ Aside0 (Below w0.heap.size w0 w'))
 case atStart => exact ⟨xs, m, 0, rfl, rfl, H', ⟨Nat.le_refl _⟩, ⟨by (with_reducible repeat (first | apply Kd.S_alloc | apply Kd.S_drewN | apply Kd.S_drew)); exact HS.out⟩, ⟨(by repeat (first | (with_reducible first | exact HB.out | apply below_alloc | apply pw_below_drewN | apply below_drew1) | exact HB.out))⟩⟩
 case round =>
  clear H' HB HS
  obtain ⟨x1, m1, x5, rfl, rfl, HA, HK1, HS, HB⟩ := hrel
  have HN1 := Aside0.mk (Kd.S_reads' HS.out).1
  cases gk with
  | zero => exact absurd HA.out (by simp [markMS.l])
  | succ k1 =>
   have H := HA.out
   clear HA
   simp only [markMS.l] at H
   rw [← HN1.out] at H
   by_cases c3 : x5 < (N0 : Int)
   ·rw [if_pos c3] at H
    have c3b0 : decide (x5 < (N0 : Int)) = true := decide_eq_true c3
    by_cases c4 : 0 ≤ x5
    ·rw [if_pos c4] at H
     have c4b0 : decide (0 ≤ x5) = true := decide_eq_true c4
     replace H := Option.bind_eq_some_iff.mp H
     obtain ⟨⟨m3, r3⟩, A30, H⟩ := H
     have A3 := Aside0.mk A30
     clear A30
     dsimp only at H
     have H' := Aside0.mk H
     clear H
     obtain ⟨g, cap, hv, hbg, hlt, hty⟩ := Kd.S_form HS.out (by have := HN1.out; omega)
     injection hv with ea_ en_ ec_
     subst ea_
     clear en_ ec_ cap hty
     have hil : x5.toNat < x1.length := by have := HN1.out; omega
     obtain ⟨oki, cl, hcl, hM, hcc, hok, hH⟩ := Kd.S_lend HS.out z33 x5 c4 (by exact_mod_cast c3)
     obtain ⟨v7, ecl, hR7⟩ := k33_openM hM
     subst ecl
     have HH := Aside0.mk hH
     have HR7 := Aside0.mk hR7
     have HOK := Aside0.mk hok
     have hx0 : wr.cell? ⟨g, x5.toNat * 2, none⟩ = some (.int .i64 (x1.getD x5.toNat z33).f0) := hcc 0 _ rfl
     have hx1 : wr.cell? ⟨g, x5.toNat * 2 + 1, none⟩ = some v7 := hcc 1 _ rfl
     have GG := Aside0.mk hbg
     have C3 := Aside0.mk c3
     have C4 := Aside0.mk c4
     have HIL := Aside0.mk hil
     clear hcl hM hcc hok hH hR7 hbg hlt hil
     replace c4 := eq_true c4
     replace c3 := eq_true c3
     go_wp2_with (first | ((with_reducible refine gate_store (t := 2) (p := 16) rfl ?_); refine Kd.H_store k33 (w0 := w0) w0.heap.size rfl rfl 2 (.tmp 16) (.tmp 14) rfl 33 (o' := x5.toNat * 2) x5 0 x1 (⟨m1, (x1.getD x5.toNat z33).f1⟩ : S33) (.int .i64 m1) [.int .i64 m1] _ (fun k_ => w0.heap.size ≤ k_) oki oki ?haddr ?hoff rfl rfl ?ht ?hone HH.out C4.out (by exact_mod_cast C3.out) (show 1 ≤ 2 by decide) ?hM (fun _ hk => hk) HB.out ?_; (case haddr => rfl); (case hoff => first | rfl | omega | simp); (case ht => kernel_rfl); (case hone => intro q hq; simp only [List.mem_singleton] at hq; subst hq; rfl); (case hM => exact k33_mkM _ _ _ (⟨m1, (x1.getD x5.toNat z33).f1⟩ : S33) HR7.out); intro w8 hs8 hb8 hg8; have HS8 := Aside0.mk hs8; clear HB HS HH HR7 HOK hx0 hx1; have HB := Aside0.mk hb8; clear hs8 hb8 hg8; obtain ⟨oki2, cl2, hcl2, hM2, hcc2, hok2, hH2⟩ := Kd.S_lend HS8.out z33 x5 C4.out (by exact_mod_cast C3.out); obtain ⟨v9, ecl2, hR9⟩ := k33_openM hM2; subst ecl2; have HH2 := Aside0.mk hH2; have HOK2 := Aside0.mk hok2; have hR9' : Kd.R (Kd.int .i64) 2 w8 w0.heap.size oki2 v9 (rd_T33 x1 x5).f1 := (getD_set HIL.out hR9); have HR9 := Aside0.mk hR9'; have hy1 : w8.cell? ⟨g, x5.toNat * 2 + 1, none⟩ = some v9 := hcc2 1 _ rfl; clear hcl2 hM2 hcc2 hok2 hH2 hR9 hR9') | ((with_reducible refine gate_callee (f := 30) rfl ?_); refine goesL_ (some 25) rfl rfl Try.func30 (by kernel_rfl) rfl #[v9, .int .i64 (wrap64 (m1 + 1))] rfl (by (try simp only [List.map_toArray, List.map_cons, List.map_nil]); first | done | rfl | (simp only [List.length_drop, List.length_take]; rfl)) ?_; (with_reducible refine (laws_markInt64S.calls k1 oki2 v9 _ _ m3 r3 w0 _ ?side1 ?side2 A3.out).mono ?_); (case side1 => exact HB.out); (case side2 => exact HR9.out); rintro e w10 ⟨rfl, hr10, hb10, hk10⟩; refine ⟨_, rfl, ?_⟩; have HS9 := Aside0.mk (mark_back HH2.out HIL.out hr10 hk10 HB.out.size); clear HB; have HB := Aside0.mk hb10; clear hr10 hb10 hk10))
     skip
     go_roundg k1
     case measure => have := HK1.out; omega
     case rel => exact ⟨_, m3, (wrap64 (x5 + 1)), (by first | rfl | (simp; done) | (simp [*]; done)), (by first | rfl | (simp; done) | (simp [*]; done)), H', ⟨by have := HK1.out; omega⟩, ⟨by (with_reducible repeat (first | apply Kd.S_alloc | apply Kd.S_drewN | apply Kd.S_drew)); exact HS9.out⟩, ⟨(by repeat (first | (with_reducible first | exact HB.out | apply below_alloc | apply pw_below_drewN | apply below_drew1) | exact HB.out))⟩⟩
    ·rw [if_neg c4] at H
     exact absurd H (by simp)
   ·rw [if_neg c3] at H
    have c3b0 : decide (x5 < (N0 : Int)) = false := decide_eq_false c3
    clear c3
    obtain ⟨rfl, rfl⟩ := Prod.mk.inj (Option.some.inj H)
    go_wp2
    go_ret
    exact ⟨rfl, by (with_reducible repeat (first | apply Kd.S_alloc | apply Kd.S_drewN | apply Kd.S_drew)); exact HS.out, (by repeat (first | (with_reducible first | exact HB.out | apply below_alloc | apply pw_below_drewN | apply below_drew1) | exact HB.out))⟩
theorem held_calls {k : Nat} {A : Option Addr} {c N base : Nat} {ok : Nat → Prop} {l2 : List S33} {a1 r : Int} {w : World} (hs : Kd.S k33 33 w base ok (.slice A N c) l2) (h : laws_heldMatrixS.f k l2 a1 = some r) : Calls Try.prog 52 #[.slice A N c, .int .i64 a1] w fun e w' => e = .returned (.int .i64 r) ∧ Drawn0 w w' := by
 obtain ⟨rfl, hc, hr⟩ := Kd.S_reads' hs
 exact laws_heldMatrixS.calls k _ _ l2 a1 r w hr hc h
set_option maxHeartbeats 8000000 in
set_option maxRecDepth 100000 in
theorem law_calls (k : Nat) (n kk d : Int) (l l2 : List S33) (c m2 : Int) (w : World) (h1 : specGS.f k n kk d = some (l, c)) (h2 : implGS.f k n kk d = some (l, c)) (h3 : laws_eqMatrixS.f k l l = some true) (h4 : markMS.l k l 0 1 = some (m2, l2)) (h5 : laws_heldMatrixS.f k l2 1 = some m2) (h6 : 0 ≤ m2) :
  Calls Try.prog 14 #[.int .i64 n, .int .i64 kk, .int .i64 d] w fun e w' => e = .returned (.bool true) ∧ Below w.heap.size w w' := by
 have hu33 := Try.underlying33
 have HB := Aside0.mk (Below.refl w.heap.size w)
 have A1 := Aside0.mk h1
 have A2 := Aside0.mk h2
 have A3 := Aside0.mk h3
 have A4 := Aside0.mk h4
 have A5 := Aside0.mk h5
 clear h1 h2 h3 h4 h5
 have c6b0 : decide (m2 < 0) = false := decide_eq_false (by omega)
 clear h6
 go_enter Try.func14, Try.ntmps14
 go_wp2_with (first | ((with_reducible refine gate_callee (f := 53) rfl ?_); refine goesL_ (some 19) rfl rfl Try.func53 (by kernel_rfl) rfl #[.int .i64 n, .int .i64 kk, .int .i64 d] rfl (by (try simp only [List.map_toArray, List.map_cons, List.map_nil]); first | done | rfl | (simp only [List.length_drop, List.length_take]; rfl)) ?_; (with_reducible refine (specGS_calls k n kk d l c _ A1.out).mono ?_); rintro e w3 ⟨v1, rfl, hs, hb⟩; refine ⟨_, rfl, ?_⟩; obtain ⟨Aa, ca, ea, hla, hra⟩ := Kd.S_reads hs; subst ea; have HRa := Aside0.mk hra; have HCa := Aside0.mk hla; have n0_ := Aside0.mk (below_step (by repeat (first | (with_reducible first | exact HB.out | apply below_alloc | apply pw_below_drewN | apply below_drew1) | exact HB.out)) hb); clear HB hs hb hra hla; have HB := n0_; clear n0_) | ((with_reducible refine gate_dst (N := 26) rfl ?_); refine goesL_ (some 26) rfl rfl Try.func54 (by kernel_rfl) rfl #[.int .i64 n, .int .i64 kk, .int .i64 d] rfl (by (try simp only [List.map_toArray, List.map_cons, List.map_nil]); first | done | rfl | (simp only [List.length_drop, List.length_take]; rfl)) ?_; (with_reducible refine (implGS_calls k n kk d l c _ A2.out).mono ?_); rintro e w4 ⟨v2, rfl, hs, hb⟩; refine ⟨_, rfl, ?_⟩; obtain ⟨w0, hs, hb0, hww, hca⟩ : ∃ w0 : World, Kd.S k33 33 w4 w0.heap.size (fun _ => True) v2 l ∧ Below w0.heap.size w0 w4 ∧ Below w.heap.size w w0 ∧ Kd.C k33 w0 Aa l.length l := ⟨_, hs, hb, (by repeat (first | (with_reducible first | exact HB.out | apply below_alloc | apply pw_below_drewN | apply below_drew1) | exact HB.out)), by repeat (first | exact HRa.out | (with_reducible refine Kd.C_alloc ?_ _) | (with_reducible refine Kd.C_drewN ?_ _) | (with_reducible refine Kd.C_drew ?_))⟩; have HS := Aside0.mk (Kd.S_mono (Kd.S_bound hs) (fun k_ hk => hk.2.1)); have HB0 := Aside0.mk hb0; have HW := Aside0.mk hww; have HCA := Aside0.mk hca; clear HB hs hb hb0 hww hca HRa; obtain ⟨Ab, cb, eb, hlb, _⟩ := Kd.S_reads HS.out; subst eb; have HCb := Aside0.mk hlb; clear hlb) | ((with_reducible refine gate_dst (N := 31) rfl ?_); refine goesL_ (some 31) rfl rfl Try.func50 (by kernel_rfl) rfl #[.slice Ab l.length cb, .slice Aa l.length ca] rfl (by (try simp only [List.map_toArray, List.map_cons, List.map_nil]); first | done | rfl | (simp only [List.length_drop, List.length_take]; rfl)) ?_; (with_reducible refine (laws_eqMatrixS.calls k _ _ l _ _ l true _ ?side1 ?side2 ?side3 ?side4 A3.out).mono ?_); (case side1 => repeat (first | exact (Kd.S_reads' HS.out).2.2 | (with_reducible refine Kd.C_alloc ?_ _) | (with_reducible refine Kd.C_drewN ?_ _) | (with_reducible refine Kd.C_drew ?_))); (case side2 => exact HCb.out); (case side3 => repeat (first | exact Kd.C_below HCA.out HB0.out | (with_reducible refine Kd.C_alloc ?_ _) | (with_reducible refine Kd.C_drewN ?_ _) | (with_reducible refine Kd.C_drew ?_))); (case side4 => exact HCa.out); rintro e w5 ⟨rfl, hb⟩; refine ⟨_, rfl, ?_⟩; have n0_ := Aside0.mk (below_step (by repeat (first | (with_reducible first | exact HB0.out | apply below_alloc | apply pw_below_drewN | apply below_drew1) | exact HB0.out)) hb); have n1_ := Aside0.mk (Kd.S_below (by (with_reducible repeat (first | apply Kd.S_alloc | apply Kd.S_drewN | apply Kd.S_drew)); exact HS.out) hb); clear HB0 HS hb; have HB0 := n0_; have HS := n1_; clear n0_ n1_) | ((with_reducible refine gate_dst (N := 40) rfl ?_); refine goesL_ (some 40) rfl rfl Try.func51 (by kernel_rfl) rfl #[.slice Ab l.length cb, .int .i64 1] rfl (by (try simp only [List.map_toArray, List.map_cons, List.map_nil]); first | done | rfl | (simp only [List.length_drop, List.length_take]; rfl)) ?_; (with_reducible refine (markMS_calls k _ l l2 1 m2 w0 _ ?side1 ?side2 A4.out).mono ?_); (case side1 => exact (by repeat (first | (with_reducible first | exact HB0.out | apply below_alloc | apply pw_below_drewN | apply below_drew1) | exact HB0.out))); (case side2 => (with_reducible repeat (first | apply Kd.S_alloc | apply Kd.S_drewN | apply Kd.S_drew)); exact HS.out); rintro e w6 ⟨rfl, hs, hb⟩; refine ⟨_, rfl, ?_⟩; have HS2 := Aside0.mk hs; have HLL := Aside0.mk (Kd.S_reads' hs).1; clear HB0 HS; have HB0 := Aside0.mk hb; clear hs hb) | ((with_reducible refine gate_dst (N := 43) rfl ?_); refine goesL_ (some 43) rfl rfl Try.func52 (by kernel_rfl) rfl #[.slice Ab l.length cb, .int .i64 1] rfl (by (try simp only [List.map_toArray, List.map_cons, List.map_nil]); first | done | rfl | (simp only [List.length_drop, List.length_take]; rfl)) ?_; (with_reducible refine (held_calls (k := k) (l2 := l2) (r := m2) (base := w0.heap.size) (ok := fun k_ => w0.heap.size ≤ k_) ?side1 A5.out).mono ?_); (case side1 => (with_reducible repeat (first | apply Kd.S_alloc | apply Kd.S_drewN | apply Kd.S_drew)); exact HS2.out); rintro e w7 ⟨rfl, ⟨nd, rfl⟩⟩; refine ⟨_, rfl, ?_⟩) | ((with_reducible refine gate_dst (N := 53) rfl ?_); refine goesL_ (some 53) rfl rfl Try.func54 (by kernel_rfl) rfl #[.int .i64 n, .int .i64 kk, .int .i64 d] rfl (by (try simp only [List.map_toArray, List.map_cons, List.map_nil]); first | done | rfl | (simp only [List.length_drop, List.length_take]; rfl)) ?_; (with_reducible refine (implGS_calls k n kk d l c _ A2.out).mono ?_); rintro e w8 ⟨v3, rfl, hs, hb⟩; refine ⟨_, rfl, ?_⟩; obtain ⟨Ac, cc, ec, hlc, hrc⟩ := Kd.S_reads hs; subst ec; have HRc := Aside0.mk hrc; have HCc := Aside0.mk hlc; have n0_ := Aside0.mk (below_step (by repeat (first | (with_reducible first | exact HB0.out | apply below_alloc | apply pw_below_drewN | apply below_drew1) | exact HB0.out)) hb); have n1_ := Aside0.mk (Kd.S_below (by (with_reducible repeat (first | apply Kd.S_alloc | apply Kd.S_drewN | apply Kd.S_drew)); exact HS2.out) hb); clear HB0 HS2 hs hb hrc hlc; have HB0 := n0_; have HS2 := n1_; clear n0_ n1_) | ((with_reducible refine gate_dst (N := 58) rfl ?_); refine goesL_ (some 58) rfl rfl Try.func50 (by kernel_rfl) rfl #[.slice Ac l.length cc, .slice Aa l.length ca] rfl (by (try simp only [List.map_toArray, List.map_cons, List.map_nil]); first | done | rfl | (simp only [List.length_drop, List.length_take]; rfl)) ?_; (with_reducible refine (laws_eqMatrixS.calls k _ _ l _ _ l true _ ?side1 ?side2 ?side3 ?side4 A3.out).mono ?_); (case side1 => repeat (first | exact HRc.out | (with_reducible refine Kd.C_alloc ?_ _) | (with_reducible refine Kd.C_drewN ?_ _) | (with_reducible refine Kd.C_drew ?_))); (case side2 => exact HCc.out); (case side3 => repeat (first | exact Kd.C_below HCA.out HB0.out | (with_reducible refine Kd.C_alloc ?_ _) | (with_reducible refine Kd.C_drewN ?_ _) | (with_reducible refine Kd.C_drew ?_))); (case side4 => exact HCa.out); rintro e w9 ⟨rfl, hb⟩; refine ⟨_, rfl, ?_⟩; have n0_ := Aside0.mk (below_step (by repeat (first | (with_reducible first | exact HB0.out | apply below_alloc | apply pw_below_drewN | apply below_drew1) | exact HB0.out)) hb); have n1_ := Aside0.mk (Kd.S_below (by (with_reducible repeat (first | apply Kd.S_alloc | apply Kd.S_drewN | apply Kd.S_drew)); exact HS2.out) hb); clear HB0 HS2 hb; have HB0 := n0_; have HS2 := n1_; clear n0_ n1_) | ((with_reducible refine gate_dst (N := 67) rfl ?_); refine goesL_ (some 67) rfl rfl Try.func52 (by kernel_rfl) rfl #[.slice Ab l.length cb, .int .i64 1] rfl (by (try simp only [List.map_toArray, List.map_cons, List.map_nil]); first | done | rfl | (simp only [List.length_drop, List.length_take]; rfl)) ?_; (with_reducible refine (held_calls (k := k) (l2 := l2) (r := m2) (base := w0.heap.size) (ok := fun k_ => w0.heap.size ≤ k_) ?side1 A5.out).mono ?_); (case side1 => (with_reducible repeat (first | apply Kd.S_alloc | apply Kd.S_drewN | apply Kd.S_drew)); exact HS2.out); rintro e w10 ⟨rfl, ⟨nd, rfl⟩⟩; refine ⟨_, rfl, ?_⟩))
 go_ret
 exact ⟨rfl, below_step HW.out (by repeat (first | (with_reducible first | exact HB0.out | apply below_alloc | apply pw_below_drewN | apply below_drew1) | exact HB0.out))⟩
end Go.Proofs.Ytaopplbahakpgaa.PFnExactGreedySpaces
