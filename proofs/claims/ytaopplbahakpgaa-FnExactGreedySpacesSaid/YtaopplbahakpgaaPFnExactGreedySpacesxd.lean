/- The reference's l02Ascend and SpacesOf hand back what the plain functions ascL.f and specSO.f tell. -/
import Derived.Test.YtaopplbahakpgaaPFnExactGreedySpacesxc
namespace Go.Proofs.Ytaopplbahakpgaa.PFnExactGreedySpaces
open Go.RowKit Go.Proofs.YtaopplbahakpgaaW.PrintWords Go.Proofs.YtaopplbahakpgaaW.PrintLast Go.Proofs.YtaopplbahakpgaaW.PrintMore
attribute [local go_sem] max2_int min2_int max_two min_two max_three min_three max_four min_four   -- for this text's walks alone
set_option linter.unusedVariables false
set_option linter.unusedSimpArgs false
mutual
def ascL.f : Nat → Int → Int → List Int → List (S33) → Option (List (S33))
 | 0, _, _, _, _ => none
 | k + 1, n, kk, l, out => if kk = 0 then (if out.length < 4398046511104 then some (out ++ [(⟨n, l⟩ : S33)]) else none) else ascL.l k n kk l out 1
def ascL.l : Nat → Int → Int → List Int → List (S33) → Int → Option (List (S33))
 | 0, _, _, _, _, _ => none
 | k + 1, n, kk, l, out, x => if 0 ≤ (IntKind.u64.wrap n) then (if x < shl .i64 1 (IntKind.u64.wrap n) then ((spec_l02Lead.f k x).bind fun t => (if t > wrap64 (n - kk) then ascL.l k n kk l out (wrap64 (x + 1)) else ((spec_l00Own.f l).bind fun c => (if c.length < 17592186044416 then ((spec_l02Forced.f k n (c ++ [x])).bind fun fo => (if wrap64 (wrap64 (fo + (l.length : Int)) + kk) ≤ n then ((spec_l02Echelon.f k n (c ++ [x])).bind fun e => ((spec_l00Same.f k e (c ++ [x])).bind fun q => (if q = true then ((ascL.f k n (wrap64 (kk - 1)) (c ++ [x]) out).bind fun o => ascL.l k n kk l o (wrap64 (x + 1))) else ascL.l k n kk l out (wrap64 (x + 1))))) else ascL.l k n kk l out (wrap64 (x + 1)))) else none)))) else some out) else none
end
structure AP (base : Nat) (W W' : World) (v v' : Value) : Prop where
 below : Below base W W'
 size : W.heap.size ≤ W'.heap.size
 kept : ∀ k, k < W.heap.size → some k ≠ v.ownBlock → W'.heap[k]? = W.heap[k]?
 row : v'.ownBlock = v.ownBlock ∨ ∃ b, v'.ownBlock = some b ∧ W.heap.size ≤ b
section
variable {W W1 W2 : World} {base : Nat} {v v1 v2 : Value} {out : List (S33)} {xs : List Int} {u : Value} {ok ok' : Nat → Prop}
theorem AP.refl (base : Nat) (W : World) (v : Value) : AP base W W v v := ⟨Below.refl _ _, Nat.le_refl _, fun _ _ _ => rfl, .inl rfl⟩
theorem AP.trans (h : AP base W W1 v v1) (h2 : AP base W1 W2 v1 v2) : AP base W W2 v v2 :=
 ⟨h.below.trans h2.below, Nat.le_trans h.size h2.size, fun k hk h3 => (h2.kept k (Nat.lt_of_lt_of_le hk h.size) (fun e => by
  rcases h.row with hr | ⟨b, hr, hb⟩
  ·exact h3 (by rw [← hr]; exact e)
  ·rw [hr] at e; injection e with e; omega)).trans (h.kept k hk h3), by
  rcases h2.row with hr | ⟨b, hr, hb⟩
  ·rw [hr]; exact h.row
  ·exact .inr ⟨b, hr, Nat.le_trans h.size hb⟩⟩
theorem AP.step (h : AP base W W1 v v1) (hb : Below W1.heap.size W1 W2) (hbase : base ≤ W1.heap.size) : AP base W W2 v v1 :=
 ⟨h.below.trans (hb.mono hbase), Nat.le_trans h.size (below_size hb), fun k hk h3 => (hb.block k (Nat.lt_of_lt_of_le hk h.size)).trans (h.kept k hk h3), h.row⟩
theorem AP.rows (h : AP base W W1 v v1) (hv : Kd.S k33 33 W base ok' v out) (hr : Kd.R (Kd.int .i64) 2 W base ok u xs) : Kd.R (Kd.int .i64) 2 W1 base ok u xs := by
 cases hv2 : v.ownBlock with
 | none => exact Kd.R_step hr (fun k hk hlt => h.kept k hlt (by rw [hv2]; simp))
 | some g =>
  obtain ⟨cells, hc⟩ := Kd.S_typed hv g hv2
  have h2 := Kd.R_types hr hc (by decide)
  exact Kd.R_mono (Kd.R_step h2 (fun k hk hlt => h.kept k hlt (by rw [hv2]; intro e; injection e with e; exact hk.2 e))) (fun _ hk => hk.1)
end
set_option maxHeartbeats 8000000 in
set_option maxRecDepth 100000 in
theorem asc_calls (k : Nat) : ∀ (base : Nat) (X : Nat → Prop) (n kk : Int) (A0 : Option Addr) (c0 : Nat) (l0 : List Int) (v : Value) (out out' : List (S33)) (w : World), Kd.R (Kd.int .i64) 2 w base X (.slice A0 l0.length c0) l0 → (∀ k, X k → base ≤ k) → Kd.S k33 33 w base (fun k => base ≤ k ∧ ¬ X k) v out → base ≤ w.heap.size → ascL.f k n kk l0 out = some out' →
  Calls Try.prog 88 #[.int .i64 n, .int .i64 kk, .slice A0 l0.length c0, v] w fun e w' => ∃ v', e = .returned v' ∧ Kd.S k33 33 w' base (fun k => base ≤ k) v' out' ∧ AP base w w' v v' := by
 induction k using Nat.strongRecOn with
 | _ k ih =>
 intro base X n kk A0 c0 l0 v out out' w hR hX hS hbs H
 cases k with
 | zero => exact absurd H (by simp [ascL.f])
 | succ k =>
 simp only [ascL.f] at H
 have hu33 := Try.underlying33
 have HR := Aside0.mk hR
 have HS := Aside0.mk hS
 have HX := Aside0.mk hX
 have HBS := Aside0.mk hbs
 have HB := Aside0.mk (Below.refl w.heap.size w)
 clear hR hS hX hbs
 by_cases c5 : kk = 0
 ·rw [if_pos c5] at H
  have c5b0 : (kk == 0) = true := beq_iff_eq.mpr c5
  have c5b1 : (kk != 0) = false := bne_eq_false_iff_eq.mpr c5
  clear c5
  by_cases c6 : out.length < 4398046511104
  ·rw [if_pos c6] at H
   have LMc6 := Aside0.mk c6
   clear c6
   obtain rfl := Option.some.inj H
   clear H
   have HOW := Aside0.mk HS.out.choose_spec.1
   go_enter Try.func88, Try.ntmps88
   go_wp2_with ((with_reducible refine gate_builtin (b := .append) (xs := #[.tmp 13, .tmp 17]) rfl ?_); at_builtin; refine Kd.S_append k33 (w0 := w) base rfl (.tmp 13) (.tmp 17) 60 33 (.agg #[(.int .i64 0), (.slice none 0 0)]) 32 rfl Try.underlying60 info33 rfl (by decide) (by omega) v out (⟨n, l0⟩ : S33) [.int .i64 n, .slice A0 l0.length c0] (fun k_ => base ≤ k_) X rfl rfl ?aP ?aK ?aF ?aO ?aB ?aS ?aL ?_; (case aP => exact k33_mkM _ _ _ (⟨n, l0⟩ : S33) (by (with_reducible repeat (first | apply Kd.R_alloc | apply Kd.R_drewN | apply Kd.R_drew)); exact HR.out)); (case aK => exact fun k_ hk => ⟨HX.out k_ hk, fun e_ => (HOW.out k_ e_.symm).2 hk⟩); (case aF => exact fun k_ hk => Nat.le_trans HBS.out (Nat.le_trans (below_size (by repeat (first | (with_reducible first | exact HB.out | apply below_alloc | apply pw_below_drewN | apply below_drew1) | exact HB.out))) hk)); (case aO => exact (by (with_reducible repeat (first | apply Kd.S_alloc | apply Kd.S_drewN | apply Kd.S_drew)); exact HS.out)); (case aB => exact (show Below w.heap.size w _ from (by repeat (first | (with_reducible first | exact HB.out | apply below_alloc | apply pw_below_drewN | apply below_drew1) | exact HB.out))).mono HBS.out); (case aS => exact Nat.le_trans HBS.out (below_size (by repeat (first | (with_reducible first | exact HB.out | apply below_alloc | apply pw_below_drewN | apply below_drew1) | exact HB.out)))); (case aL => have := LMc6.out; omega); intro v20 w15 ho hb hg hat; have HO := Aside0.mk ho; have SZ := Aside0.mk hg.size; have HG := Aside0.mk hg; have HAT := Aside0.mk hat; clear HB; have HB := Aside0.mk hb; clear ho hb hg hat)
   go_ret
   exact ⟨_, rfl, HO.out, ⟨HB.out, SZ.out, fun k_ h1_ h2_ => HG.out.block k_ h1_ h2_, HAT.out⟩⟩
  ·rw [if_neg c6] at H
   exact absurd H (by simp)
 ·rw [if_neg c5] at H
  have c5b0 : (kk == 0) = false := beq_eq_false_iff_ne.mpr c5
  have c5b1 : (kk != 0) = true := bne_iff_ne.mpr c5
  clear c5
  have H' := Aside0.mk H
  clear H
  go_enter Try.func88, Try.ntmps88
  go_wp2
  go_loopg [3, 9] k (fun kq v3 v9 w' => ∃ (o1 : List (S33)) (x9_1 : Int), v9 = .int .i64 x9_1 ∧ Aside0 (ascL.l kq n kk l0 o1 x9_1 = some out') ∧ Aside0 (kq ≤ k) ∧ Aside0 (Kd.S k33 33 w' base (fun k_ => base ≤ k_) v3 o1) ∧ Aside0 (AP base w w' v v3))
  case atStart => exact ⟨out, 1, rfl, H', ⟨Nat.le_refl _⟩, ⟨by (with_reducible repeat (first | apply Kd.S_alloc | apply Kd.S_drewN | apply Kd.S_drew)); exact Kd.S_mono HS.out (fun _ hk => hk.1)⟩, ⟨AP.step (AP.refl base w v) (by repeat (first | (with_reducible first | exact HB.out | apply below_alloc | apply pw_below_drewN | apply below_drew1) | exact HB.out)) HBS.out⟩⟩
  case round =>
   clear H' HB
   try clear c5b0
   try clear c5b1
   obtain ⟨o1, x9_1, rfl, HA, HK1, HS1, AP1⟩ := hrel
   have HR1 := Aside0.mk (AP.rows AP1.out HS.out HR.out)
   have HBZ := Aside0.mk (Nat.le_trans HBS.out AP1.out.size)
   have HB := Aside0.mk (Below.refl wr.heap.size wr)
   cases gk with
   | zero => exact absurd HA.out (by simp [ascL.l])
   | succ k1 =>
    have H := HA.out
    clear HA
    simp only [ascL.l] at H
    obtain ⟨ji12, hji12⟩ : ∃ j_ : Int, (IntKind.u64.wrap n) = j_ := ⟨_, rfl⟩
    rw [hji12] at H
    by_cases c13 : 0 ≤ (ji12)
    ·rw [if_pos c13] at H
     have c13b0 := eq_true c13
     have c13b1 : decide (0 ≤ (ji12)) = true := decide_eq_true c13
     clear c13
     obtain ⟨ji14, hji14⟩ : ∃ j_ : Int, (shl .i64 1 (ji12)) = j_ := ⟨_, rfl⟩
     rw [hji14] at H
     have hji14_ : (IntKind.i64.wrap (1 * 2 ^ min (ji12).toNat 64)) = ji14 := hji14
     have hji14z : (ji12) ≤ 64 → (IntKind.i64.wrap (1 * 2 ^ (ji12).toNat)) = ji14 := shl_small hji14
     have hji14u : (IntKind.i64.wrap (2 ^ min (ji12).toNat 64)) = ji14 := by have h_ := hji14_; rw [Int.one_mul] at h_; exact h_
     have hji14v : (ji12) ≤ 64 → (IntKind.i64.wrap (2 ^ (ji12).toNat)) = ji14 := fun hle_ => by have h_ := hji14z hle_; rw [Int.one_mul] at h_; exact h_
     have hji14y : (wrap64 (1 * 2 ^ min (ji12).toNat 64)) = ji14 := (i64_w _).symm.trans hji14_
     have hji14x : (ji12) ≤ 64 → (wrap64 (1 * 2 ^ (ji12).toNat)) = ji14 := fun h_ => (i64_w _).symm.trans (hji14z h_)
     by_cases c15 : x9_1 < (ji14)
     ·rw [if_pos c15] at H
      have c15b0 : decide (x9_1 < (ji14)) = true := decide_eq_true c15
      clear c15
      replace H := Option.bind_eq_some_iff.mp H
      obtain ⟨t149, A160, H⟩ := H
      have A16 := Aside0.mk A160
      clear A160
      by_cases c17 : t149 > (wrap64 (n - kk))
      ·rw [if_pos c17] at H
       have c17b0 : decide ((wrap64 (n - kk)) < t149) = true := decide_eq_true c17
       clear c17
       have H' := Aside0.mk H
       clear H
       go_wp2_with (first | ((with_reducible refine gate_callee (f := 125) rfl ?_); refine goesL_ (some 27) rfl rfl Try.func125 (by kernel_rfl) rfl #[.int .i64 x9_1] rfl (by (try simp only [List.map_toArray, List.map_cons, List.map_nil]); first | done | rfl | (simp only [List.length_drop, List.length_take]; rfl)) ?_; (with_reducible refine (spec_l02Lead.calls k1 x9_1 t149 _ A16.out).mono ?_); rintro e w' ⟨rfl, ⟨nd, rfl⟩⟩; refine ⟨_, rfl, ?_⟩))
       go_roundg k1
       case measure => have := HK1.out; omega
       case rel => exact ⟨o1, (wrap64 (x9_1 + 1)), (by first | rfl | (simp; done) | (simp [*]; done)), H', ⟨by have := HK1.out; omega⟩, ⟨Kd.S_below HS1.out (by repeat (first | (with_reducible first | exact HB.out | apply below_alloc | apply pw_below_drewN | apply below_drew1) | exact HB.out))⟩, ⟨AP.step AP1.out (by repeat (first | (with_reducible first | exact HB.out | apply below_alloc | apply pw_below_drewN | apply below_drew1) | exact HB.out)) HBZ.out⟩⟩
      ·rw [if_neg c17] at H
       have c17b0 : decide ((wrap64 (n - kk)) < t149) = false := decide_eq_false c17
       clear c17
       replace H := Option.bind_eq_some_iff.mp H
       obtain ⟨t150, A180, H⟩ := H
       have A18 := Aside0.mk A180
       clear A180
       by_cases c19 : t150.length < 17592186044416
       ·rw [if_pos c19] at H
        have LMc19 := Aside0.mk c19
        clear c19
        obtain ⟨y153, hy153⟩ : ∃ y_ : List Int, y_ = (t150 ++ [x9_1]) := ⟨_, rfl⟩
        rw [← hy153] at H
        have Ny153 := Aside0.mk hy153
        clear hy153
        replace H := Option.bind_eq_some_iff.mp H
        obtain ⟨t156, A200, H⟩ := H
        have A20 := Aside0.mk A200
        clear A200
        by_cases c21 : (wrap64 ((wrap64 (t156 + (l0.length : Int))) + kk)) ≤ n
        ·rw [if_pos c21] at H
         have c21b0 : decide ((wrap64 ((wrap64 (t156 + (l0.length : Int))) + kk)) ≤ n) = true := decide_eq_true c21
         clear c21
         replace H := Option.bind_eq_some_iff.mp H
         obtain ⟨t157, A220, H⟩ := H
         have A22 := Aside0.mk A220
         clear A220
         replace H := Option.bind_eq_some_iff.mp H
         obtain ⟨t160, A230, H⟩ := H
         have A23 := Aside0.mk A230
         clear A230
         by_cases c24 : t160 = true
         ·subst c24
          rw [if_pos rfl] at H
          replace H := Option.bind_eq_some_iff.mp H
          obtain ⟨t161, A250, H⟩ := H
          have A25 := Aside0.mk A250
          clear A250
          have H' := Aside0.mk H
          clear H
          go_wp2_with (first | ((with_reducible refine gate_callee (f := 125) rfl ?_); refine goesL_ (some 27) rfl rfl Try.func125 (by kernel_rfl) rfl #[.int .i64 x9_1] rfl (by (try simp only [List.map_toArray, List.map_cons, List.map_nil]); first | done | rfl | (simp only [List.length_drop, List.length_take]; rfl)) ?_; (with_reducible refine (spec_l02Lead.calls k1 x9_1 t149 _ A16.out).mono ?_); rintro e w' ⟨rfl, ⟨nd, rfl⟩⟩; refine ⟨_, rfl, ?_⟩) | ((with_reducible refine gate_callee (f := 104) rfl ?_); refine goesL_ (some 33) rfl rfl Try.func104 (by kernel_rfl) rfl #[.slice A0 l0.length c0] rfl (by (try simp only [List.map_toArray, List.map_cons, List.map_nil]); first | done | rfl | (simp only [List.length_drop, List.length_take]; rfl)) ?_; (with_reducible refine (spec_l00Own.calls _ _ l0 t150 _ ?side1 ?side2 A18.out).mono ?_); (case side1 => repeat (first | exact (Kd.R_reads' HR1.out).2.2 | (with_reducible refine Kd.C_alloc ?_ _) | (with_reducible refine Kd.C_drewN ?_ _) | (with_reducible refine Kd.C_drew ?_))); (case side2 => exact (Kd.R_reads' HR1.out).2.1); rintro e w42 ⟨v261, rfl, ho0, hb⟩; refine ⟨_, rfl, ?_⟩; have n0_ := Aside0.mk (Kd.R_lower (Kd.R_newM (M := fun k_ => (wr.heap.size ≤ k_)) ho0 (below_size (by repeat (first | (with_reducible first | exact HB.out | apply below_alloc | apply pw_below_drewN | apply below_drew1) | exact HB.out))) (fun k_ h_ => h_)) (below_size (by repeat (first | (with_reducible first | exact HB.out | apply below_alloc | apply pw_below_drewN | apply below_drew1) | exact HB.out)))); have n2_ := Aside0.mk (below_step (by repeat (first | (with_reducible first | exact HB.out | apply below_alloc | apply pw_below_drewN | apply below_drew1) | exact HB.out)) hb); clear HB; have HO262 := n0_; have HB := n2_; clear n0_ n2_; clear hb ho0) | ((with_reducible refine gate_builtin (b := .append) (xs := #[.tmp 33, .tmp 35]) rfl ?_); at_builtin; refine Kd.R_append (Kd.int .i64) (w0 := wr) wr.heap.size rfl (.tmp 33) (.tmp 35) 29 2 (.int .i64 0) 8 rfl Try.underlying29 info2 rfl (by decide) (by omega) v261 t150 x9_1 [.int .i64 x9_1] (fun k_ => (wr.heap.size ≤ k_)) (fun _ => False) rfl rfl ?aP (fun _ hk => hk.elim) ?aF ?aO ?aB ?aS ?aL ?_; (case aP => exact rfl); (case aB => exact (by repeat (first | (with_reducible first | exact HB.out | apply below_alloc | apply pw_below_drewN | apply below_drew1) | exact HB.out))); (case aF => exact (fun k_ hk => (Nat.le_trans (below_size (by repeat (first | (with_reducible first | exact HB.out | apply below_alloc | apply pw_below_drewN | apply below_drew1) | exact HB.out))) hk))); (case aO => exact (by (with_reducible repeat (first | apply Kd.R_alloc | apply Kd.R_drewN | apply Kd.R_drew)); exact Kd.R_mono HO262.out (fun _ hk => hk.1))); (case aS => exact (below_size (by repeat (first | (with_reducible first | exact HB.out | apply below_alloc | apply pw_below_drewN | apply below_drew1) | exact HB.out)))); (case aL => have := LMc19.out; omega); intro v264 w43 ho hb hg hat; rw [← Ny153.out] at ho; have n1_ := Aside0.mk (hb); have n2_ := Aside0.mk (ho); clear HB; clear HO262; have HB := n1_; have HO265 := n2_; clear n1_ n2_; clear ho hb hg hat; obtain ⟨Ao44, co44, eo44⟩ := Kd.R_slice HO265.out; subst eo44) | ((with_reducible refine gate_callee (f := 126) rfl ?_); refine goesL_ (some 39) rfl rfl Try.func126 (by kernel_rfl) rfl #[.int .i64 n, .slice Ao44 y153.length co44] rfl (by (try simp only [List.map_toArray, List.map_cons, List.map_nil]); first | done | rfl | (simp only [List.length_drop, List.length_take]; rfl)) ?_; (with_reducible refine (spec_l02Forced.calls k1 n _ _ y153 t156 _ ?side1 ?side2 A20.out).mono ?_); (case side1 => repeat (first | exact (Kd.R_reads' HO265.out).2.2 | (with_reducible refine Kd.C_alloc ?_ _) | (with_reducible refine Kd.C_drewN ?_ _) | (with_reducible refine Kd.C_drew ?_))); (case side2 => exact (Kd.R_reads' HO265.out).2.1); rintro e w' ⟨rfl, ⟨nd, rfl⟩⟩; refine ⟨_, rfl, ?_⟩) | (go_at_call 65; (with_reducible refine (spec_l02Echelon.calls k1 n _ _ y153 t157 _ ?side1 ?side2 A22.out).mono ?_); (case side1 => repeat (first | exact (Kd.R_reads' HO265.out).2.2 | (with_reducible refine Kd.C_alloc ?_ _) | (with_reducible refine Kd.C_drewN ?_ _) | (with_reducible refine Kd.C_drew ?_))); (case side2 => exact (Kd.R_reads' HO265.out).2.1); rintro e w45 ⟨v267, rfl, ho0, hb⟩; have n0_ := Aside0.mk (Kd.R_below (by (with_reducible repeat (first | apply Kd.R_alloc | apply Kd.R_drewN | apply Kd.R_drew)); exact HO265.out) hb); have n1_ := Aside0.mk ho0; have n3_ := Aside0.mk (below_step (by repeat (first | (with_reducible first | exact HB.out | apply below_alloc | apply pw_below_drewN | apply below_drew1) | exact HB.out)) hb); clear HO265; clear HB; have HO265 := n0_; have HO268 := n1_; have HB := n3_; clear n0_ n1_ n3_; clear hb ho0; obtain ⟨Ao46, co46, eo46⟩ := Kd.R_slice HO268.out; subst eo46) | (go_at_call 127; (with_reducible refine (spec_l00Same.calls k1 _ _ t157 _ _ y153 true _ ?side1 ?side2 ?side3 ?side4 A23.out).mono ?_); (case side1 => repeat (first | exact (Kd.R_reads' HO268.out).2.2 | (with_reducible refine Kd.C_alloc ?_ _) | (with_reducible refine Kd.C_drewN ?_ _) | (with_reducible refine Kd.C_drew ?_))); (case side2 => exact (Kd.R_reads' HO268.out).2.1); (case side3 => repeat (first | exact (Kd.R_reads' HO265.out).2.2 | (with_reducible refine Kd.C_alloc ?_ _) | (with_reducible refine Kd.C_drewN ?_ _) | (with_reducible refine Kd.C_drew ?_))); (case side4 => exact (Kd.R_reads' HO265.out).2.1); rintro e w' ⟨rfl, ⟨nd, rfl⟩⟩) | ((with_reducible refine gate_callee (f := 88) rfl ?_); refine goesL_ (some 59) rfl rfl Try.func88 (by kernel_rfl) rfl #[.int .i64 n, .int .i64 (wrap64 (kk - 1)), .slice Ao44 y153.length co44, u3] rfl (by (try simp only [List.map_toArray, List.map_cons, List.map_nil]); first | done | rfl | (simp only [List.length_drop, List.length_take]; rfl)) ?_; (with_reducible refine (ih k1 (by have := HK1.out; omega) base (fun k_ => wr.heap.size ≤ k_) n (wrap64 (kk - 1)) _ _ y153 u3 o1 t161 _ ?side1 ?side2 ?side3 ?side4 A25.out).mono ?_); (case side1 => (with_reducible repeat (first | apply Kd.R_alloc | apply Kd.R_drewN | apply Kd.R_drew)); exact Kd.R_mono (Kd.R_lower HO265.out HBZ.out) (fun k_ hk => hk)); (case side2 => exact fun k_ hk => Nat.le_trans HBZ.out hk); (case side3 => exact Kd.S_mono (Kd.S_below (Kd.S_bound HS1.out) (by repeat (first | (with_reducible first | exact HB.out | apply below_alloc | apply pw_below_drewN | apply below_drew1) | exact HB.out))) (fun k_ hk => ⟨hk.1, Nat.not_le_of_lt hk.2.2.1⟩)); (case side4 => exact Nat.le_trans HBZ.out (below_size (by repeat (first | (with_reducible first | exact HB.out | apply below_alloc | apply pw_below_drewN | apply below_drew1) | exact HB.out)))); rintro e w47 ⟨v2, rfl, hs2, hap⟩; refine ⟨_, rfl, ?_⟩; have HS2 := Aside0.mk hs2; have AP2 := Aside0.mk (AP.trans (AP.step AP1.out (by repeat (first | (with_reducible first | exact HB.out | apply below_alloc | apply pw_below_drewN | apply below_drew1) | exact HB.out)) HBZ.out) hap); clear hs2 hap))
          go_roundg k1
          case measure => have := HK1.out; omega
          case rel => exact ⟨t161, (wrap64 (x9_1 + 1)), (by first | rfl | (simp; done) | (simp [*]; done)), H', ⟨by have := HK1.out; omega⟩, ⟨by (with_reducible repeat (first | apply Kd.S_alloc | apply Kd.S_drewN | apply Kd.S_drew)); exact HS2.out⟩, ⟨AP.step AP2.out (by repeat (first | (with_reducible first | exact Below.refl _ _ | apply below_alloc | apply pw_below_drewN | apply below_drew1))) (Nat.le_trans HBS.out AP2.out.size)⟩⟩
         ·replace c24 := Bool.eq_false_iff.mpr c24
          subst c24
          rw [if_neg (show ¬ (false = true) by decide)] at H
          have H' := Aside0.mk H
          clear H
          go_wp2_with (first | ((with_reducible refine gate_callee (f := 125) rfl ?_); refine goesL_ (some 27) rfl rfl Try.func125 (by kernel_rfl) rfl #[.int .i64 x9_1] rfl (by (try simp only [List.map_toArray, List.map_cons, List.map_nil]); first | done | rfl | (simp only [List.length_drop, List.length_take]; rfl)) ?_; (with_reducible refine (spec_l02Lead.calls k1 x9_1 t149 _ A16.out).mono ?_); rintro e w' ⟨rfl, ⟨nd, rfl⟩⟩; refine ⟨_, rfl, ?_⟩) | ((with_reducible refine gate_callee (f := 104) rfl ?_); refine goesL_ (some 33) rfl rfl Try.func104 (by kernel_rfl) rfl #[.slice A0 l0.length c0] rfl (by (try simp only [List.map_toArray, List.map_cons, List.map_nil]); first | done | rfl | (simp only [List.length_drop, List.length_take]; rfl)) ?_; (with_reducible refine (spec_l00Own.calls _ _ l0 t150 _ ?side1 ?side2 A18.out).mono ?_); (case side1 => repeat (first | exact (Kd.R_reads' HR1.out).2.2 | (with_reducible refine Kd.C_alloc ?_ _) | (with_reducible refine Kd.C_drewN ?_ _) | (with_reducible refine Kd.C_drew ?_))); (case side2 => exact (Kd.R_reads' HR1.out).2.1); rintro e w42 ⟨v261, rfl, ho0, hb⟩; refine ⟨_, rfl, ?_⟩; have n0_ := Aside0.mk (Kd.R_lower (Kd.R_newM (M := fun k_ => (wr.heap.size ≤ k_)) ho0 (below_size (by repeat (first | (with_reducible first | exact HB.out | apply below_alloc | apply pw_below_drewN | apply below_drew1) | exact HB.out))) (fun k_ h_ => h_)) (below_size (by repeat (first | (with_reducible first | exact HB.out | apply below_alloc | apply pw_below_drewN | apply below_drew1) | exact HB.out)))); have n2_ := Aside0.mk (below_step (by repeat (first | (with_reducible first | exact HB.out | apply below_alloc | apply pw_below_drewN | apply below_drew1) | exact HB.out)) hb); clear HB; have HO262 := n0_; have HB := n2_; clear n0_ n2_; clear hb ho0) | ((with_reducible refine gate_builtin (b := .append) (xs := #[.tmp 33, .tmp 35]) rfl ?_); at_builtin; refine Kd.R_append (Kd.int .i64) (w0 := wr) wr.heap.size rfl (.tmp 33) (.tmp 35) 29 2 (.int .i64 0) 8 rfl Try.underlying29 info2 rfl (by decide) (by omega) v261 t150 x9_1 [.int .i64 x9_1] (fun k_ => (wr.heap.size ≤ k_)) (fun _ => False) rfl rfl ?aP (fun _ hk => hk.elim) ?aF ?aO ?aB ?aS ?aL ?_; (case aP => exact rfl); (case aB => exact (by repeat (first | (with_reducible first | exact HB.out | apply below_alloc | apply pw_below_drewN | apply below_drew1) | exact HB.out))); (case aF => exact (fun k_ hk => (Nat.le_trans (below_size (by repeat (first | (with_reducible first | exact HB.out | apply below_alloc | apply pw_below_drewN | apply below_drew1) | exact HB.out))) hk))); (case aO => exact (by (with_reducible repeat (first | apply Kd.R_alloc | apply Kd.R_drewN | apply Kd.R_drew)); exact Kd.R_mono HO262.out (fun _ hk => hk.1))); (case aS => exact (below_size (by repeat (first | (with_reducible first | exact HB.out | apply below_alloc | apply pw_below_drewN | apply below_drew1) | exact HB.out)))); (case aL => have := LMc19.out; omega); intro v264 w43 ho hb hg hat; rw [← Ny153.out] at ho; have n1_ := Aside0.mk (hb); have n2_ := Aside0.mk (ho); clear HB; clear HO262; have HB := n1_; have HO265 := n2_; clear n1_ n2_; clear ho hb hg hat; obtain ⟨Ao44, co44, eo44⟩ := Kd.R_slice HO265.out; subst eo44) | ((with_reducible refine gate_callee (f := 126) rfl ?_); refine goesL_ (some 39) rfl rfl Try.func126 (by kernel_rfl) rfl #[.int .i64 n, .slice Ao44 y153.length co44] rfl (by (try simp only [List.map_toArray, List.map_cons, List.map_nil]); first | done | rfl | (simp only [List.length_drop, List.length_take]; rfl)) ?_; (with_reducible refine (spec_l02Forced.calls k1 n _ _ y153 t156 _ ?side1 ?side2 A20.out).mono ?_); (case side1 => repeat (first | exact (Kd.R_reads' HO265.out).2.2 | (with_reducible refine Kd.C_alloc ?_ _) | (with_reducible refine Kd.C_drewN ?_ _) | (with_reducible refine Kd.C_drew ?_))); (case side2 => exact (Kd.R_reads' HO265.out).2.1); rintro e w' ⟨rfl, ⟨nd, rfl⟩⟩; refine ⟨_, rfl, ?_⟩) | (go_at_call 65; (with_reducible refine (spec_l02Echelon.calls k1 n _ _ y153 t157 _ ?side1 ?side2 A22.out).mono ?_); (case side1 => repeat (first | exact (Kd.R_reads' HO265.out).2.2 | (with_reducible refine Kd.C_alloc ?_ _) | (with_reducible refine Kd.C_drewN ?_ _) | (with_reducible refine Kd.C_drew ?_))); (case side2 => exact (Kd.R_reads' HO265.out).2.1); rintro e w45 ⟨v267, rfl, ho0, hb⟩; have n0_ := Aside0.mk (Kd.R_below (by (with_reducible repeat (first | apply Kd.R_alloc | apply Kd.R_drewN | apply Kd.R_drew)); exact HO265.out) hb); have n1_ := Aside0.mk ho0; have n3_ := Aside0.mk (below_step (by repeat (first | (with_reducible first | exact HB.out | apply below_alloc | apply pw_below_drewN | apply below_drew1) | exact HB.out)) hb); clear HO265; clear HB; have HO265 := n0_; have HO268 := n1_; have HB := n3_; clear n0_ n1_ n3_; clear hb ho0; obtain ⟨Ao46, co46, eo46⟩ := Kd.R_slice HO268.out; subst eo46) | (go_at_call 127; (with_reducible refine (spec_l00Same.calls k1 _ _ t157 _ _ y153 false _ ?side1 ?side2 ?side3 ?side4 A23.out).mono ?_); (case side1 => repeat (first | exact (Kd.R_reads' HO268.out).2.2 | (with_reducible refine Kd.C_alloc ?_ _) | (with_reducible refine Kd.C_drewN ?_ _) | (with_reducible refine Kd.C_drew ?_))); (case side2 => exact (Kd.R_reads' HO268.out).2.1); (case side3 => repeat (first | exact (Kd.R_reads' HO265.out).2.2 | (with_reducible refine Kd.C_alloc ?_ _) | (with_reducible refine Kd.C_drewN ?_ _) | (with_reducible refine Kd.C_drew ?_))); (case side4 => exact (Kd.R_reads' HO265.out).2.1); rintro e w' ⟨rfl, ⟨nd, rfl⟩⟩))
          go_roundg k1
          case measure => have := HK1.out; omega
          case rel => exact ⟨o1, (wrap64 (x9_1 + 1)), (by first | rfl | (simp; done) | (simp [*]; done)), H', ⟨by have := HK1.out; omega⟩, ⟨Kd.S_below HS1.out (by repeat (first | (with_reducible first | exact HB.out | apply below_alloc | apply pw_below_drewN | apply below_drew1) | exact HB.out))⟩, ⟨AP.step AP1.out (by repeat (first | (with_reducible first | exact HB.out | apply below_alloc | apply pw_below_drewN | apply below_drew1) | exact HB.out)) HBZ.out⟩⟩
        ·rw [if_neg c21] at H
         have c21b0 : decide ((wrap64 ((wrap64 (t156 + (l0.length : Int))) + kk)) ≤ n) = false := decide_eq_false c21
         clear c21
         have H' := Aside0.mk H
         clear H
         go_wp2_with (first | ((with_reducible refine gate_callee (f := 125) rfl ?_); refine goesL_ (some 27) rfl rfl Try.func125 (by kernel_rfl) rfl #[.int .i64 x9_1] rfl (by (try simp only [List.map_toArray, List.map_cons, List.map_nil]); first | done | rfl | (simp only [List.length_drop, List.length_take]; rfl)) ?_; (with_reducible refine (spec_l02Lead.calls k1 x9_1 t149 _ A16.out).mono ?_); rintro e w' ⟨rfl, ⟨nd, rfl⟩⟩; refine ⟨_, rfl, ?_⟩) | ((with_reducible refine gate_callee (f := 104) rfl ?_); refine goesL_ (some 33) rfl rfl Try.func104 (by kernel_rfl) rfl #[.slice A0 l0.length c0] rfl (by (try simp only [List.map_toArray, List.map_cons, List.map_nil]); first | done | rfl | (simp only [List.length_drop, List.length_take]; rfl)) ?_; (with_reducible refine (spec_l00Own.calls _ _ l0 t150 _ ?side1 ?side2 A18.out).mono ?_); (case side1 => repeat (first | exact (Kd.R_reads' HR1.out).2.2 | (with_reducible refine Kd.C_alloc ?_ _) | (with_reducible refine Kd.C_drewN ?_ _) | (with_reducible refine Kd.C_drew ?_))); (case side2 => exact (Kd.R_reads' HR1.out).2.1); rintro e w42 ⟨v261, rfl, ho0, hb⟩; refine ⟨_, rfl, ?_⟩; have n0_ := Aside0.mk (Kd.R_lower (Kd.R_newM (M := fun k_ => (wr.heap.size ≤ k_)) ho0 (below_size (by repeat (first | (with_reducible first | exact HB.out | apply below_alloc | apply pw_below_drewN | apply below_drew1) | exact HB.out))) (fun k_ h_ => h_)) (below_size (by repeat (first | (with_reducible first | exact HB.out | apply below_alloc | apply pw_below_drewN | apply below_drew1) | exact HB.out)))); have n2_ := Aside0.mk (below_step (by repeat (first | (with_reducible first | exact HB.out | apply below_alloc | apply pw_below_drewN | apply below_drew1) | exact HB.out)) hb); clear HB; have HO262 := n0_; have HB := n2_; clear n0_ n2_; clear hb ho0) | ((with_reducible refine gate_builtin (b := .append) (xs := #[.tmp 33, .tmp 35]) rfl ?_); at_builtin; refine Kd.R_append (Kd.int .i64) (w0 := wr) wr.heap.size rfl (.tmp 33) (.tmp 35) 29 2 (.int .i64 0) 8 rfl Try.underlying29 info2 rfl (by decide) (by omega) v261 t150 x9_1 [.int .i64 x9_1] (fun k_ => (wr.heap.size ≤ k_)) (fun _ => False) rfl rfl ?aP (fun _ hk => hk.elim) ?aF ?aO ?aB ?aS ?aL ?_; (case aP => exact rfl); (case aB => exact (by repeat (first | (with_reducible first | exact HB.out | apply below_alloc | apply pw_below_drewN | apply below_drew1) | exact HB.out))); (case aF => exact (fun k_ hk => (Nat.le_trans (below_size (by repeat (first | (with_reducible first | exact HB.out | apply below_alloc | apply pw_below_drewN | apply below_drew1) | exact HB.out))) hk))); (case aO => exact (by (with_reducible repeat (first | apply Kd.R_alloc | apply Kd.R_drewN | apply Kd.R_drew)); exact Kd.R_mono HO262.out (fun _ hk => hk.1))); (case aS => exact (below_size (by repeat (first | (with_reducible first | exact HB.out | apply below_alloc | apply pw_below_drewN | apply below_drew1) | exact HB.out)))); (case aL => have := LMc19.out; omega); intro v264 w43 ho hb hg hat; rw [← Ny153.out] at ho; have n1_ := Aside0.mk (hb); have n2_ := Aside0.mk (ho); clear HB; clear HO262; have HB := n1_; have HO265 := n2_; clear n1_ n2_; clear ho hb hg hat; obtain ⟨Ao44, co44, eo44⟩ := Kd.R_slice HO265.out; subst eo44) | ((with_reducible refine gate_callee (f := 126) rfl ?_); refine goesL_ (some 39) rfl rfl Try.func126 (by kernel_rfl) rfl #[.int .i64 n, .slice Ao44 y153.length co44] rfl (by (try simp only [List.map_toArray, List.map_cons, List.map_nil]); first | done | rfl | (simp only [List.length_drop, List.length_take]; rfl)) ?_; (with_reducible refine (spec_l02Forced.calls k1 n _ _ y153 t156 _ ?side1 ?side2 A20.out).mono ?_); (case side1 => repeat (first | exact (Kd.R_reads' HO265.out).2.2 | (with_reducible refine Kd.C_alloc ?_ _) | (with_reducible refine Kd.C_drewN ?_ _) | (with_reducible refine Kd.C_drew ?_))); (case side2 => exact (Kd.R_reads' HO265.out).2.1); rintro e w' ⟨rfl, ⟨nd, rfl⟩⟩; refine ⟨_, rfl, ?_⟩))
         go_roundg k1
         case measure => have := HK1.out; omega
         case rel => exact ⟨o1, (wrap64 (x9_1 + 1)), (by first | rfl | (simp; done) | (simp [*]; done)), H', ⟨by have := HK1.out; omega⟩, ⟨Kd.S_below HS1.out (by repeat (first | (with_reducible first | exact HB.out | apply below_alloc | apply pw_below_drewN | apply below_drew1) | exact HB.out))⟩, ⟨AP.step AP1.out (by repeat (first | (with_reducible first | exact HB.out | apply below_alloc | apply pw_below_drewN | apply below_drew1) | exact HB.out)) HBZ.out⟩⟩
       ·rw [if_neg c19] at H
        exact absurd H (by simp)
     ·rw [if_neg c15] at H
      have c15b0 : decide (x9_1 < (ji14)) = false := decide_eq_false c15
      clear c15
      obtain rfl := Option.some.inj H
      go_wp2
      go_ret
      exact ⟨_, rfl, by (with_reducible repeat (first | apply Kd.S_alloc | apply Kd.S_drewN | apply Kd.S_drew)); exact HS1.out, AP.step AP1.out (by repeat (first | (with_reducible first | exact HB.out | apply below_alloc | apply pw_below_drewN | apply below_drew1) | exact HB.out)) HBZ.out⟩
    ·rw [if_neg c13] at H
     exact absurd H (by simp)
def specSO.f (k : Nat) (n kk : Int) : Option (List S33 × Int) := (spec_GaussNumber.f k n kk).bind fun (many, code) => (if code = 0 then (if 400 < many then some ([], 3) else ((ascL.f k n kk [] []).bind fun l => some (l, 0))) else some ([], code))
set_option maxHeartbeats 8000000 in
set_option maxRecDepth 100000 in
theorem specSO_calls (k : Nat) (n kk : Int) (l : List S33) (c : Int) (w : World) (h : specSO.f k n kk = some (l, c)) :
  Calls Try.prog 48 #[.int .i64 n, .int .i64 kk] w fun e w' => ∃ v', e = .returned (.tuple #[v', .int .i64 c]) ∧ Kd.S k33 33 w' w.heap.size (fun _ => True) v' l ∧ Below w.heap.size w w' := by
 have hu33 := Try.underlying33
 have HB := Aside0.mk (Below.refl w.heap.size w)
 unfold specSO.f at h
 replace h := Option.bind_eq_some_iff.mp h
 obtain ⟨⟨many, code⟩, A10, H⟩ := h
 have A1 := Aside0.mk A10
 clear A10
 dsimp only at H
 by_cases c1 : code = 0
 ·rw [if_pos c1] at H
  subst c1
  by_cases c2 : 400 < many
  ·rw [if_pos c2] at H
   have c2b0 : decide (400 < many) = true := decide_eq_true c2
   clear c2
   obtain ⟨rfl, rfl⟩ := Prod.mk.inj (Option.some.inj H)
   clear H
   go_enter Try.func48, Try.ntmps48
   go_wp2_with (first | ((with_reducible refine gate_callee (f := 87) rfl ?_); refine goesL_ (some 11) rfl rfl Try.func87 (by kernel_rfl) rfl #[.int .i64 n, .int .i64 kk] rfl (by (try simp only [List.map_toArray, List.map_cons, List.map_nil]); first | done | rfl | (simp only [List.length_drop, List.length_take]; rfl)) ?_; (with_reducible refine (spec_GaussNumber.calls k n kk many 0 _ A1.out).mono ?_); rintro e w' ⟨rfl, ⟨nd, rfl⟩⟩; refine ⟨_, rfl, ?_⟩) | ((with_reducible refine gate_dst (N := 20) rfl ?_); refine Kd.S_lit k33 _ 33 ?hg (N := 20) ?hd (xs := ([] : List S33)) (inner := []) (ok := fun _ => True) (okp := fun _ => True) ?hr ?hp (fun _ hk => hk) trivial (Below.refl _ _) (Nat.le_refl _) (by simp) ?_; (case hd => rfl); (case hg => rfl); (case hr => first | (go_simp; done) | (go_simp; rfl)); (case hp => exact (Reps.none _ _)); intro v0 w5 hs hb hg_ hnew_; clear hg_ hnew_; have n0_ := Aside0.mk (below_step (by repeat (first | (with_reducible first | exact HB.out | apply below_alloc | apply pw_below_drewN | apply below_drew1) | exact HB.out)) hb); have HS := Aside0.mk (Kd.S_lower hs (below_size (by repeat (first | (with_reducible first | exact HB.out | apply below_alloc | apply pw_below_drewN | apply below_drew1) | exact HB.out)))); clear HB hs hb; have HB := n0_; clear n0_; obtain ⟨A0_, c0_, e0_⟩ := Kd.S_slice HS.out; subst e0_))
   go_ret2
   exact ⟨_, rfl, HS.out, (by repeat (first | (with_reducible first | exact HB.out | apply below_alloc | apply pw_below_drewN | apply below_drew1) | exact HB.out))⟩
  ·rw [if_neg c2] at H
   have c2b0 : decide (400 < many) = false := decide_eq_false c2
   clear c2
   replace H := Option.bind_eq_some_iff.mp H
   obtain ⟨l2, A20, H⟩ := H
   have A2 := Aside0.mk A20
   clear A20
   obtain ⟨rfl, rfl⟩ := Prod.mk.inj (Option.some.inj H)
   clear H
   go_enter Try.func48, Try.ntmps48
   go_wp2_with (first | ((with_reducible refine gate_callee (f := 87) rfl ?_); refine goesL_ (some 11) rfl rfl Try.func87 (by kernel_rfl) rfl #[.int .i64 n, .int .i64 kk] rfl (by (try simp only [List.map_toArray, List.map_cons, List.map_nil]); first | done | rfl | (simp only [List.length_drop, List.length_take]; rfl)) ?_; (with_reducible refine (spec_GaussNumber.calls k n kk many 0 _ A1.out).mono ?_); rintro e w' ⟨rfl, ⟨nd, rfl⟩⟩; refine ⟨_, rfl, ?_⟩) | ((with_reducible refine gate_dst (N := 23) rfl ?_); refine Kd.R_lit (Kd.int .i64) _ 2 ?hg (N := 23) ?hd (xs := ([] : List Int)) (inner := []) (ok := fun _ => True) (okp := fun _ => True) ?hr ?hp (fun _ hk => hk) trivial (Below.refl _ _) (Nat.le_refl _) (by simp) ?_; (case hd => rfl); (case hg => rfl); (case hr => first | (go_simp; done) | (go_simp; rfl)); (case hp => exact (Reps.none _ _)); intro v23 w5 hr hb hg_ hnew_; clear hg_ hnew_; have n0_ := Aside0.mk (below_step (by repeat (first | (with_reducible first | exact HB.out | apply below_alloc | apply pw_below_drewN | apply below_drew1) | exact HB.out)) hb); have HR : Aside0 (Kd.R (Kd.int .i64) 2 w5 w.heap.size (fun k_ => w.heap.size ≤ k_ ∧ k_ < w5.heap.size) v23 []) := ⟨Kd.R_lower (Kd.R_mono (Kd.R_bound hr) (fun k_ hk => ⟨Nat.le_trans (below_size (by repeat (first | (with_reducible first | exact HB.out | apply below_alloc | apply pw_below_drewN | apply below_drew1) | exact HB.out))) hk.2.1, hk.2.2.1⟩)) (below_size (by repeat (first | (with_reducible first | exact HB.out | apply below_alloc | apply pw_below_drewN | apply below_drew1) | exact HB.out)))⟩; clear HB hr hb; have HB := n0_; clear n0_; obtain ⟨A0_, c0_, e0_⟩ := Kd.R_slice HR.out; subst e0_) | ((with_reducible refine gate_dst (N := 24) rfl ?_); refine Kd.S_lit k33 _ 33 ?hg (N := 24) ?hd (xs := ([] : List S33)) (inner := []) (ok := fun _ => True) (okp := fun _ => True) ?hr ?hp (fun _ hk => hk) trivial (Below.refl _ _) (Nat.le_refl _) (by simp) ?_; (case hd => rfl); (case hg => rfl); (case hr => first | (go_simp; done) | (go_simp; rfl)); (case hp => exact (Reps.none _ _)); intro v24 w6 hs hb hg_ hnew_; clear hg_ hnew_; have n0_ := Aside0.mk (below_step (by repeat (first | (with_reducible first | exact HB.out | apply below_alloc | apply pw_below_drewN | apply below_drew1) | exact HB.out)) hb); have n1_ := Aside0.mk (Kd.R_below (by (with_reducible repeat (first | apply Kd.R_alloc | apply Kd.R_drewN | apply Kd.R_drew)); exact HR.out) hb); have HS0 : Aside0 (Kd.S k33 33 w6 w.heap.size (fun k_ => w.heap.size ≤ k_ ∧ ¬ (w.heap.size ≤ k_ ∧ k_ < w5.heap.size)) v24 []) := ⟨Kd.S_lower (Kd.S_mono (Kd.S_bound hs) (fun k_ hk => ⟨Nat.le_trans (below_size (by repeat (first | (with_reducible first | exact HB.out | apply below_alloc | apply pw_below_drewN | apply below_drew1) | exact HB.out))) hk.2.1, fun h2_ => by have h3_ := hk.2.1; (try simp only [World.drewN, World.drew] at h3_); omega⟩)) (below_size (by repeat (first | (with_reducible first | exact HB.out | apply below_alloc | apply pw_below_drewN | apply below_drew1) | exact HB.out)))⟩; clear HB HR hs hb; have HB := n0_; have HR := n1_; clear n0_ n1_) | ((with_reducible refine gate_callee (f := 88) rfl ?_); refine goesL_ (some 25) rfl rfl Try.func88 (by kernel_rfl) rfl #[.int .i64 n, .int .i64 kk, .slice A0_ ([] : List Int).length c0_, v24] rfl (by (try simp only [List.map_toArray, List.map_cons, List.map_nil]); first | done | rfl | (simp only [List.length_drop, List.length_take]; rfl)) ?_; (with_reducible refine (asc_calls k w.heap.size (fun k_ => w.heap.size ≤ k_ ∧ k_ < w5.heap.size) n kk _ _ ([] : List Int) v24 [] _ _ ?side1 ?side2 ?side3 ?side4 A2.out).mono ?_); (case side1 => (with_reducible repeat (first | apply Kd.R_alloc | apply Kd.R_drewN | apply Kd.R_drew)); exact HR.out); (case side2 => exact fun k_ hk => hk.1); (case side3 => (with_reducible repeat (first | apply Kd.S_alloc | apply Kd.S_drewN | apply Kd.S_drew)); exact HS0.out); (case side4 => exact below_size (by repeat (first | (with_reducible first | exact HB.out | apply below_alloc | apply pw_below_drewN | apply below_drew1) | exact HB.out))); rintro e w7 ⟨v7, rfl, hs, hap⟩; refine ⟨_, rfl, ?_⟩; have n0_ := Aside0.mk (Below.trans (by repeat (first | (with_reducible first | exact HB.out | apply below_alloc | apply pw_below_drewN | apply below_drew1) | exact HB.out)) hap.below); have HS := Aside0.mk (Kd.S_mono hs (fun _ _ => trivial)); clear HB hs hap; have HB := n0_; clear n0_))
   go_ret2
   exact ⟨_, rfl, HS.out, (by repeat (first | (with_reducible first | exact HB.out | apply below_alloc | apply pw_below_drewN | apply below_drew1) | exact HB.out))⟩
 ·rw [if_neg c1] at H
  have c1b0 : (code == 0) = false := beq_eq_false_iff_ne.mpr c1
  have c1b1 : (code != 0) = true := bne_iff_ne.mpr c1
  clear c1
  obtain ⟨rfl, rfl⟩ := Prod.mk.inj (Option.some.inj H)
  clear H
  go_enter Try.func48, Try.ntmps48
  go_wp2_with (first | ((with_reducible refine gate_callee (f := 87) rfl ?_); refine goesL_ (some 11) rfl rfl Try.func87 (by kernel_rfl) rfl #[.int .i64 n, .int .i64 kk] rfl (by (try simp only [List.map_toArray, List.map_cons, List.map_nil]); first | done | rfl | (simp only [List.length_drop, List.length_take]; rfl)) ?_; (with_reducible refine (spec_GaussNumber.calls k n kk many _ _ A1.out).mono ?_); rintro e w' ⟨rfl, ⟨nd, rfl⟩⟩; refine ⟨_, rfl, ?_⟩) | ((with_reducible refine gate_dst (N := 16) rfl ?_); refine Kd.S_lit k33 _ 33 ?hg (N := 16) ?hd (xs := ([] : List S33)) (inner := []) (ok := fun _ => True) (okp := fun _ => True) ?hr ?hp (fun _ hk => hk) trivial (Below.refl _ _) (Nat.le_refl _) (by simp) ?_; (case hd => rfl); (case hg => rfl); (case hr => first | (go_simp; done) | (go_simp; rfl)); (case hp => exact (Reps.none _ _)); intro v0 w5 hs hb hg_ hnew_; clear hg_ hnew_; have n0_ := Aside0.mk (below_step (by repeat (first | (with_reducible first | exact HB.out | apply below_alloc | apply pw_below_drewN | apply below_drew1) | exact HB.out)) hb); have HS := Aside0.mk (Kd.S_lower hs (below_size (by repeat (first | (with_reducible first | exact HB.out | apply below_alloc | apply pw_below_drewN | apply below_drew1) | exact HB.out)))); clear HB hs hb; have HB := n0_; clear n0_; obtain ⟨A0_, c0_, e0_⟩ := Kd.S_slice HS.out; subst e0_))
  go_ret2
  exact ⟨_, rfl, HS.out, (by repeat (first | (with_reducible first | exact HB.out | apply below_alloc | apply pw_below_drewN | apply below_drew1) | exact HB.out))⟩
end Go.Proofs.Ytaopplbahakpgaa.PFnExactGreedySpaces
