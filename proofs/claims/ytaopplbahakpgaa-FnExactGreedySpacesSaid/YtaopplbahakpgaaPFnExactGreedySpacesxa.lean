/- The program's search for spaces, a literal that appends to a list in memory and calls itself through a variable, appends what the plain function fromL.f tells (wherever that tells something). -/
import Derived.Test.YtaopplbahakpgaaPFnExactGreedySpacesx0
import Derived.Test.YtaopplbahakpgaaPFnExactGreedySpacesx1
import Derived.Test.YtaopplbahakpgaaPFnExactGreedySpacesx2
import Derived.Test.YtaopplbahakpgaaPFnExactGreedySpacesx3
import Derived.Test.YtaopplbahakpgaaPFnExactGreedySpacesx4
import Derived.Test.YtaopplbahakpgaaPFnExactGreedySpacesx5
import Derived.Test.YtaopplbahakpgaaPFnExactGreedySpacesx6
import Derived.Test.YtaopplbahakpgaaPFnExactGreedySpacesx7
import Derived.Test.YtaopplbahakpgaaPFnExactGreedySpacesx8
import Derived.Test.YtaopplbahakpgaaPFnExactGreedySpacesx9
import Derived.Test.YtaopplbahakpgaaPFnExactGreedySpacesx10
namespace Go.Proofs.Ytaopplbahakpgaa.PFnExactGreedySpaces
open Go.RowKit Go.Proofs.YtaopplbahakpgaaW.PrintWords Go.Proofs.YtaopplbahakpgaaW.PrintLast Go.Proofs.YtaopplbahakpgaaW.PrintMore
attribute [local go_sem] max2_int min2_int max_two min_two max_three min_three max_four min_four   -- for this text's walks alone
set_option linter.unusedVariables false
set_option linter.unusedSimpArgs false
/-! ### the program's search: function 134, a literal that appends to a list in memory and calls itself through a variable -/
mutual
def fromL.f : Nat → Int → Int → List Int → List (S33) → Option (List (S33))
 | 0, _, _, _, _ => none
 | k + 1, n, kk, rows, out => if (rows.length : Int) = kk then (if out.length < 4398046511104 then ((slices_Clone_int64_int64.f rows).bind fun c => some (out ++ [(⟨n, c⟩ : S33)])) else none) else fromL.l k n kk rows 1 out
def fromL.l : Nat → Int → Int → List Int → Int → List (S33) → Option (List (S33))
 | 0, _, _, _, _, _ => none
 | k + 1, n, kk, rows, r, out => if 0 ≤ n then (if r < shl .i64 1 n then ((slices_Clone_int64_int64.f rows).bind fun c => (if c.length < 17592186044416 then ((impl_echelon.f k (c ++ [r])).bind fun e => ((slices_Equal_int64_int64.f k e (c ++ [r])).bind fun q => (if q = true then ((fromL.f k n kk (c ++ [r]) out).bind fun o => fromL.l k n kk rows (wrap64 (r + 1)) o) else fromL.l k n kk rows (wrap64 (r + 1)) out))) else none)) else some out) else none
end
structure FW (W : World) (base gk go gn gf : Nat) (kk n : Int) (v : Value) (out : List (S33)) : Prop where
 hk : W.heap[gk]? = some (.cells #[.int .i64 kk] 2 (0, 0))
 hn : W.heap[gn]? = some (.cells #[.int .i64 n] 2 (0, 0))
 ho : W.heap[go]? = some (.cells #[v] 60 (0, 0))
 hf : W.heap[gf]? = some (.cells #[.func (.func 134) #[] #[.pointer (some ⟨gk, 0, none⟩), .pointer (some ⟨go, 0, none⟩), .pointer (some ⟨gn, 0, none⟩), .pointer (some ⟨gf, 0, none⟩)]] 113 (0, 0))
 bk : gk < base
 bn : gn < base
 bo : base ≤ go
 s : Kd.S k33 33 W base (fun k => base ≤ k) v out
structure FP (base go : Nat) (W W' : World) (v v' : Value) : Prop where
 below : Below base W W'
 size : W.heap.size ≤ W'.heap.size
 kept : ∀ k, k < W.heap.size → k ≠ go → some k ≠ v.ownBlock → W'.heap[k]? = W.heap[k]?
 row : v'.ownBlock = v.ownBlock ∨ ∃ b, v'.ownBlock = some b ∧ W.heap.size ≤ b
section
variable {W W1 W2 : World} {base gk go gn gf : Nat} {kk n : Int} {v v1 v2 : Value} {out : List (S33)} {xs : List Int} {u : Value}
theorem FW.step (h : FW W base gk go gn gf kk n v out) (hb : Below W.heap.size W W1) : FW W1 base gk go gn gf kk n v out :=
 ⟨blk_below h.hk hb, blk_below h.hn hb, blk_below h.ho hb, blk_below h.hf hb, h.bk, h.bn, h.bo, Kd.S_below h.s hb⟩
theorem FP.refl (base go : Nat) (W : World) (v : Value) : FP base go W W v v := ⟨Below.refl _ _, Nat.le_refl _, fun _ _ _ _ => rfl, .inl rfl⟩
theorem FP.trans (h : FP base go W W1 v v1) (h2 : FP base go W1 W2 v1 v2) : FP base go W W2 v v2 :=
 ⟨h.below.trans h2.below, Nat.le_trans h.size h2.size, fun k hk h1 h3 => (h2.kept k (Nat.lt_of_lt_of_le hk h.size) h1 (fun e => by
  rcases h.row with hr | ⟨b, hr, hb⟩
  ·exact h3 (by rw [← hr]; exact e)
  ·rw [hr] at e; injection e with e; omega)).trans (h.kept k hk h1 h3), by
  rcases h2.row with hr | ⟨b, hr, hb⟩
  ·rw [hr]; exact h.row
  ·exact .inr ⟨b, hr, Nat.le_trans h.size hb⟩⟩
theorem FP.step (h : FP base go W W1 v v1) (hb : Below W1.heap.size W1 W2) (hbase : base ≤ W1.heap.size) : FP base go W W2 v v1 :=
 ⟨h.below.trans (hb.mono hbase), Nat.le_trans h.size (below_size hb), fun k hk h1 h3 => (hb.block k (Nat.lt_of_lt_of_le hk h.size)).trans (h.kept k hk h1 h3), h.row⟩
theorem FP.rows (h : FP base go W W1 v v1) (hw : FW W base gk go gn gf kk n v out) (hr : Kd.R (Kd.int .i64) 2 W base (fun k => base ≤ k) u xs) : Kd.R (Kd.int .i64) 2 W1 base (fun k => base ≤ k) u xs := by
 have h1 := Kd.R_types hr hw.ho (by decide)
 cases hv : v.ownBlock with
 | none => exact Kd.R_mono (Kd.R_step h1 (fun k hk hlt => h.kept k hlt hk.2 (by rw [hv]; simp))) (fun _ hk => hk.1)
 | some g =>
  obtain ⟨cells, hc⟩ := Kd.S_typed hw.s g hv
  have h2 := Kd.R_types h1 hc (by decide)
  exact Kd.R_mono (Kd.R_step h2 (fun k hk hlt => h.kept k hlt hk.1.2 (by rw [hv]; intro e; injection e with e; exact hk.2 e))) (fun _ hk => hk.1.1)
end
theorem info33 : (Try.prog.info? 33).map (fun i => (i.zero, i.size, i.bytes)) = some (some (.agg #[(.int .i64 0), (.slice none 0 0)]), 2, 32) := by kernel_rfl
def fromL.T1 : Bool × List (List Nat × List Nat) := (true, [([], []), ([], []), ([], []), ([2], [2]), ([1, 3], [1, 3]), ([4], [4]), ([0, 5, 3], [0, 5]), ([6, 6, 0, 1, 2, 3, 4, 5, 6], [6])])
def fromL.B1 : List Nat := [0, 0, 0, 4, 14, 30, 63, 127]
theorem fromL.tab1 : rtab .any (opsOf Try.f134 1) = fromL.T1 := by kernel_rfl
theorem fromL.bits1 : waitsOk fromL.T1.2 fromL.B1 = true := by kernel_rfl
set_option maxHeartbeats 8000000 in
set_option maxRecDepth 100000 in
theorem from_calls (k : Nat) : ∀ (base qk qo qn qf : Nat) (kk n : Int) (A0 : Option Addr) (c0 : Nat) (l0 : List Int) (v : Value) (out out' : List (S33)) (w : World), Kd.R (Kd.int .i64) 2 w base (fun k => base ≤ k) (.slice A0 l0.length c0) l0 → FW w base qk qo qn qf kk n v out → fromL.f k n kk l0 out = some out' →
  Calls Try.prog 134 #[.slice A0 l0.length c0, .pointer (some ⟨qk, 0, none⟩), .pointer (some ⟨qo, 0, none⟩), .pointer (some ⟨qn, 0, none⟩), .pointer (some ⟨qf, 0, none⟩)] w fun e w' => e = .returned (.tuple #[]) ∧ ∃ v', FW w' base qk qo qn qf kk n v' out' ∧ FP base qo w w' v v' := by
 induction k using Nat.strongRecOn with
 | _ k ih =>
 intro base qk qo qn qf kk n A0 c0 l0 v out out' w hR hW H
 cases k with
 | zero => exact absurd H (by simp [fromL.f])
 | succ k =>
 simp only [fromL.f] at H
 have hu33 := Try.underlying33
 have HR := Aside0.mk hR
 have HW := Aside0.mk hW
 have hbs : base ≤ w.heap.size := Nat.le_trans hW.bo (Nat.le_of_lt (blk_lt hW.ho))
 have HBS := Aside0.mk hbs
 clear hR hW hbs
 by_cases c7 : (l0.length : Int) = kk
 ·rw [if_pos c7] at H
  subst c7
  by_cases c9 : out.length < 4398046511104
  ·rw [if_pos c9] at H
   have LMc9 := Aside0.mk c9
   clear c9
   replace H := Option.bind_eq_some_iff.mp H
   obtain ⟨t254, A80, H⟩ := H
   have A8 := Aside0.mk A80
   clear A80
   obtain rfl := Option.some.inj H
   clear H
   go_enter Try.func134, Try.ntmps134
   try go_wp2
   refine start_ (n := 4) (S := fun w' => w'.cell? ⟨qk, 0, none⟩ = some (.int .i64 (l0.length : Int))) (ds := []) #[false, false, false, false] (by kernel_rfl) rfl rfl ((blk_cell HW.out.hk 0).trans rfl) (fun hHeld => ?_)
   have HB := Aside0.mk (below_drew1 (Below.refl w.heap.size w))
   generalize w.drew = w1 at HB hHeld ⊢
   refine pure_ (i := 0) (N := some 8) (v := ?_) (a' := ?_) #[true, false, false, false] rfl rfl (by kernel_rfl) (fun _ _ _ h => h) (Or.inl ⟨by rfl, ?_⟩) ?_ ?_
   rotate_left
   ·intro w'
    go_simp
    with_reducible rfl
   rotate_left
   ·simp only [Act.put, List.setIfInBounds_toArray, List.set_cons_zero, List.set_cons_succ, i64_w, i32_w]
    rfl
   refine take_ (i := 2) (N := some 10) (v := ?_) (a' := ?_) #[true, false, true, false] rfl rfl (by kernel_rfl) (fun _ _ _ h => h) (Or.inl ⟨by rfl, ?_⟩) hHeld ?_ ?_
   rotate_left
   ·rintro w' s0
    go_simp
    with_reducible rfl
   rotate_left
   ·simp only [Act.put, List.setIfInBounds_toArray, List.set_cons_zero, List.set_cons_succ, i64_w, i32_w]
    rfl
   refine one_ (i := 1) (N := some 9) #[true, true, true, false] rfl rfl (by kernel_rfl) (by decide) (fun K hK => ?_)
   refine goes_ Try.func119 (by kernel_rfl) rfl #[.slice A0 l0.length c0] (by rfl) rfl rfl (by (try simp only [List.map_toArray, List.map_cons, List.map_nil]); first | done | rfl | (simp only [List.length_drop, List.length_take]; rfl)) ?_
   with_reducible refine (impl_size_int64.calls _ _ l0 (l0.length : Int) _ ?side1 ?side2 rfl).mono ?_
   (case side1 => exact Kd.C_below (Kd.R_reads' HR.out).2.2 HB.out)
   (case side2 => exact (Kd.R_reads' HR.out).2.1)
   rintro e w' ⟨rfl, ⟨nd, rfl⟩⟩
   refine ⟨_, rfl, ?_⟩
   refine hK.out _ _ hHeld (fun hHeld => ?_)
   clear hK K
   refine norm_ (a' := ?_) ?_ ?_
   rotate_left
   ·show Act.put _ (some 9) _ = _
    simp only [Act.put, List.setIfInBounds_toArray, List.set_cons_zero, List.set_cons_succ, i64_w, i32_w]
    rfl
   refine pure_ (i := 3) (N := some 11) (v := ?_) (a' := ?_) #[true, true, true, true] rfl rfl (by kernel_rfl) (fun _ _ _ h => h) (Or.inl ⟨by rfl, ?_⟩) ?_ ?_
   rotate_left
   ·intro w'
    go_simp
    with_reducible rfl
   rotate_left
   ·simp only [Act.put, List.setIfInBounds_toArray, List.set_cons_zero, List.set_cons_succ, i64_w, i32_w]
    rfl
   refine done_ (by kernel_rfl) ?_
   try go_wp2
   refine start_ (n := 8) (S := fun w' => w'.cell? ⟨qo, 0, none⟩ = some v ∧ w'.cell? ⟨qn, 0, none⟩ = some (.int .i64 n)) (ds := [7]) #[false, false, false, false, false, false, false, false] (by kernel_rfl) rfl rfl ⟨(blk_cell (HW.out.step HB.out).ho 0).trans rfl, (blk_cell (HW.out.step HB.out).hn 0).trans rfl⟩ (fun hHeld => ?_); refine with_tabW fromL.tab1 fromL.bits1 (fun HT_ HW_ => ?_)
   replace HB := Aside0.mk (show Below w.heap.size w (w1.drewN nd).drew from below_drew1 (pw_below_drewN HB.out nd))
   generalize (w1.drewN nd).drew = w2 at HB hHeld ⊢
   have HW2 := Aside0.mk (HW.out.step HB.out)
   refine pure_ (i := 2) (N := some 14) (v := ?_) (a' := ?_) #[false, false, true, false, false, false, false, false] rfl rfl (any_of HT_.out (by kernel_rfl)) (fun _ _ _ h => h) (Or.inl ⟨by rfl, ?_⟩) ?_ ?_
   rotate_left
   ·intro w'
    go_simp
    with_reducible rfl
   rotate_left
   ·simp only [Act.put, List.setIfInBounds_toArray, List.set_cons_zero, List.set_cons_succ, i64_w, i32_w]
    rfl
   refine take_ (i := 0) (N := some 12) (v := ?_) (a' := ?_) #[true, false, true, false, false, false, false, false] rfl rfl (take_ofW HT_.out HW_.out (by kernel_rfl)) (fun _ _ _ h => h) (Or.inl ⟨by rfl, ?_⟩) hHeld ?_ ?_
   rotate_left
   ·rintro w' ⟨s0, s1⟩
    go_simp
    with_reducible rfl
   rotate_left
   ·simp only [Act.put, List.setIfInBounds_toArray, List.set_cons_zero, List.set_cons_succ, i64_w, i32_w]
    rfl
   refine take_ (i := 1) (N := some 13) (v := ?_) (a' := ?_) #[true, true, true, false, false, false, false, false] rfl rfl (take_ofW HT_.out HW_.out (by kernel_rfl)) (fun _ _ _ h => h) (Or.inl ⟨by rfl, ?_⟩) hHeld ?_ ?_
   rotate_left
   ·rintro w' ⟨s0, s1⟩
    go_simp
    with_reducible rfl
   rotate_left
   ·simp only [Act.put, List.setIfInBounds_toArray, List.set_cons_zero, List.set_cons_succ, i64_w, i32_w]
    rfl
   refine one_ (i := 3) (N := some 15) #[true, true, true, true, false, false, false, false] rfl rfl (one_of HT_.out (by kernel_rfl)) (by decide) (fun K hK => ?_)
   refine goes_ Try.func135 (by kernel_rfl) rfl #[.slice A0 l0.length c0] (by rfl) rfl rfl (by (try simp only [List.map_toArray, List.map_cons, List.map_nil]); first | done | rfl | (simp only [List.length_drop, List.length_take]; rfl)) ?_
   with_reducible refine (slices_Clone_int64_int64.calls _ _ l0 t254 _ ?side1 ?side2 A8.out).mono ?_
   (case side1 => exact Kd.C_below (Kd.R_reads' HR.out).2.2 HB.out)
   (case side2 => exact (Kd.R_reads' HR.out).2.1)
   rintro e w3 ⟨v255, rfl, ho0, hb⟩
   refine ⟨_, rfl, ?_⟩
   have HW3 := Aside0.mk (HW2.out.step hb)
   have HOc := Aside0.mk ho0
   have HBc := Aside0.mk hb
   clear ho0 hb
   obtain ⟨Ao14, co14, eo14⟩ := Kd.R_slice HOc.out
   (first | subst eo14 | (injection eo14 with f1_ f2_ f3_; have f4_ := f1_.symm; have f5_ := f3_.symm; clear f1_ f2_ f3_; subst f4_; subst f5_))
   refine hK.out _ _ ⟨(blk_cell HW3.out.ho 0).trans rfl, (blk_cell HW3.out.hn 0).trans rfl⟩ (fun hHeld => ?_)
   clear hK K
   refine norm_ (a' := ?_) ?_ ?_
   rotate_left
   ·show Act.put _ (some 15) _ = _
    simp only [Act.put, List.setIfInBounds_toArray, List.set_cons_zero, List.set_cons_succ, i64_w, i32_w]
    rfl
   refine pure_ (i := 4) (N := some 16) (v := ?_) (a' := ?_) #[true, true, true, true, true, false, false, false] rfl rfl (any_of HT_.out (by kernel_rfl)) (fun _ _ _ h => h) (Or.inl ⟨by rfl, ?_⟩) ?_ ?_
   rotate_left
   ·intro w'
    go_simp
    with_reducible rfl
   rotate_left
   ·simp only [Act.put, List.setIfInBounds_toArray, List.set_cons_zero, List.set_cons_succ, i64_w, i32_w]
    rfl
   refine one_ (i := 5) (N := some 17) #[true, true, true, true, true, true, false, false] rfl rfl (one_of HT_.out (by kernel_rfl)) (by decide) (fun K hK => ?_)
   refine value_ (w1 := ?_) (v := ?_) (by rfl) rfl ?_ ?_
   rotate_left 2
   ·go_simp
    constructor
    ·rfl
    ·rfl
   refine hK.out _ _ ⟨(blk_cell (blk_alloc HW3.out.ho _) 0).trans rfl, (blk_cell (blk_alloc HW3.out.hn _) 0).trans rfl⟩ (fun hHeld => ?_)
   clear hK K
   refine norm_ (a' := ?_) ?_ ?_
   rotate_left
   ·show Act.put _ (some 17) _ = _
    simp only [Act.put, List.setIfInBounds_toArray, List.set_cons_zero, List.set_cons_succ, i64_w, i32_w]
    rfl
   refine one_ (i := 6) (N := some 18) #[true, true, true, true, true, true, true, false] rfl rfl (one_of HT_.out (by kernel_rfl)) (by decide) (fun K hK => ?_)
   have hsz2 : w.heap.size ≤ w2.heap.size := below_size HB.out
   have hsz3 : w2.heap.size ≤ w3.heap.size := below_size HBc.out
   have hlt_ : ∀ k_, v.ownBlock = some k_ → k_ < w.heap.size := Kd.S_lt HW.out.s
   refine Kd.S_append_step k33 (w0 := w) base (by rfl) (.tmp 12) (.tmp 17) 60 33 (.agg #[(.int .i64 0), (.slice none 0 0)]) 32 rfl Try.underlying60 info33 rfl (by decide) (by omega) v out (⟨n, t254⟩ : S33) [.int .i64 n, .slice Ao14 t254.length co14] (fun k_ => base ≤ k_) (fun k_ => w2.heap.size ≤ k_) rfl rfl ?aP ?aK ?aF ?aO ?aB ?aS ?aL ?_
   (case aP => exact k33_mkM _ _ _ (⟨n, t254⟩ : S33) (Kd.R_lower (Kd.R_mono (Kd.R_bound HOc.out) (fun k_ hk => hk.2.1)) (Nat.le_trans HBS.out hsz2)))
   (case aK => exact fun k_ hk => ⟨Nat.le_trans HBS.out (Nat.le_trans hsz2 hk), fun e_ => by have := hlt_ k_ e_.symm; omega⟩)
   (case aF => exact fun k_ hk => Nat.le_trans HBS.out (Nat.le_trans hsz2 (Nat.le_trans hsz3 hk)))
   (case aO => exact Kd.S_below (Kd.S_mono (Kd.S_bound HW2.out.s) (fun k_ hk => ⟨hk.1, Nat.not_le_of_lt hk.2.2.1⟩)) HBc.out)
   (case aB => exact (HB.out.mono HBS.out).trans (HBc.out.mono (Nat.le_trans HBS.out hsz2)))
   (case aS => exact Nat.le_trans HBS.out (Nat.le_trans hsz2 hsz3))
   (case aL => have := LMc9.out; omega)
   intro v258 w15 ho hb hg hat
   obtain ⟨Ao16, co16, eo16⟩ := Kd.S_slice ho
   subst eo16
   have hgo : some qo ≠ v.ownBlock := fun e_ => by
    obtain ⟨cs_, hc_⟩ := Kd.S_typed HW.out.s qo e_.symm
    rw [HW.out.ho] at hc_
    injection hc_ with hc_
    injection hc_ with _ h2_
    cases h2_
   have hgf : some qf ≠ v.ownBlock := fun e_ => by
    obtain ⟨cs_, hc_⟩ := Kd.S_typed HW.out.s qf e_.symm
    rw [HW.out.hf] at hc_
    injection hc_ with hc_
    injection hc_ with _ h2_
    cases h2_
   have hgk : some qk ≠ v.ownBlock := fun e_ => by have h1_ := Kd.S_base HW.out.s qk e_.symm; have h2_ := HW.out.bk; omega
   have hgn : some qn ≠ v.ownBlock := fun e_ => by have h1_ := Kd.S_base HW.out.s qn e_.symm; have h2_ := HW.out.bn; omega
   have BKo := Aside0.mk (blk_grown HW3.out.ho hg hgo)
   have BKf := Aside0.mk (blk_grown HW3.out.hf hg hgf)
   have BKk := Aside0.mk (blk_grown HW3.out.hk hg hgk)
   have BKn := Aside0.mk (blk_grown HW3.out.hn hg hgn)
   have FIN : FW (w15.setCell ⟨qo, 0, none⟩ (.slice Ao16 (out ++ [(⟨n, t254⟩ : S33)]).length co16)) base qk qo qn qf (l0.length : Int) n (.slice Ao16 (out ++ [(⟨n, t254⟩ : S33)]).length co16) (out ++ [(⟨n, t254⟩ : S33)]) ∧ FP base qo w (w15.setCell ⟨qo, 0, none⟩ (.slice Ao16 (out ++ [(⟨n, t254⟩ : S33)]).length co16)) v (.slice Ao16 (out ++ [(⟨n, t254⟩ : S33)]).length co16) := by
    have hlo : qo < w.heap.size := blk_lt HW.out.ho
    refine ⟨⟨blk_far BKk.out (fun e_ => by have h1_ : qk = qo := e_; have h2_ := HW.out.bk; have h3_ := HW.out.bo; omega) _, blk_far BKn.out (fun e_ => by have h1_ : qn = qo := e_; have h2_ := HW.out.bn; have h3_ := HW.out.bo; omega) _, blk_put BKo.out 0 _ rfl, blk_far BKf.out (fun e_ => ?_) _, HW.out.bk, HW.out.bn, HW.out.bo, ?_⟩, ⟨hb.setCell HW.out.bo _, ?_, fun k_ h1_ h2_ h3_ => ?_, ?_⟩⟩
    ·have h1_ : qf = qo := e_
     have h2_ := HW.out.hf
     rw [h1_, HW.out.ho] at h2_
     injection h2_ with h2_
     injection h2_ with _ h3_
     cases h3_
    ·exact Kd.S_mono (Kd.S_far (Kd.S_types ho BKo.out (by decide)) (fun k_ hk => hk.2) _) (fun k_ hk => hk.1)
    ·have h1_ := hg.size
     simp only [World.setCell, Array.size_modify]
     omega
    ·rw [Below.heap_setCell _ _ _ _ h2_, hg.block k_ (by omega) h3_, HBc.out.block k_ (by omega), HB.out.block k_ h1_]
    ·rcases hat with e_ | ⟨b_, e_, hb_⟩
     ·exact .inl e_
     ·exact .inr ⟨b_, e_, by omega⟩
   clear ho hb hg hat
   refine hK.out _ _ ⟨(blk_cell BKo.out 0).trans rfl, (blk_cell BKn.out 0).trans rfl⟩ (fun hHeld => ?_)
   clear hK K
   refine norm_ (a' := ?_) ?_ ?_
   rotate_left
   ·show Act.put _ (some 18) _ = _
    simp only [Act.put, List.setIfInBounds_toArray, List.set_cons_zero, List.set_cons_succ, i64_w, i32_w]
    rfl
   refine last_ (i := 7) (N := none) #[true, true, true, true, true, true, true, true] rfl rfl (one_of HT_.out (by kernel_rfl)) (by decide) (fun K hK => ?_)
   have hs17 : w15.cell? ⟨qo, 0, none⟩ = some v := (blk_cell BKo.out 0).trans rfl
   have hfs17 := blk_frozen BKo.out 0
   refine skip_ (w1 := ?_) (by rfl) rfl ?_ ?_
   rotate_left
   ·go_simp
    rfl
   refine hK.out _ _ ?_
   clear hK K
   refine done_ (done_of HT_.out (by kernel_rfl)) ?_
   try go_wp2
   (try simp only [Exit.inBlock, Exit.then])
   refine bodyPost_ret (results_none rfl _ _ _) rfl ?_
   have hlen_ : (out ++ [(⟨n, t254⟩ : S33)]).length = out.length + 1 := by simp
   rw [hlen_] at FIN
   exact ⟨rfl, (.slice Ao16 (out.length + 1) co16), FIN⟩
  ·rw [if_neg c9] at H
   exact absurd H (by simp)
 ·rw [if_neg c7] at H
  have c7b0 : ((l0.length : Int) == kk) = false := beq_eq_false_iff_ne.mpr c7
  have c7b1 : ((l0.length : Int) != kk) = true := bne_iff_ne.mpr c7
  have c7b2 : ((l0.length : Int) = kk) = False := eq_false c7
  go_enter Try.func134, Try.ntmps134
  try go_wp2
  refine start_ (n := 4) (S := fun w' => w'.cell? ⟨qk, 0, none⟩ = some (.int .i64 kk)) (ds := []) #[false, false, false, false] (by kernel_rfl) rfl rfl ((blk_cell HW.out.hk 0).trans rfl) (fun hHeld => ?_)
  have HB := Aside0.mk (below_drew1 (Below.refl w.heap.size w))
  generalize w.drew = w1 at HB hHeld ⊢
  refine pure_ (i := 0) (N := some 8) (v := ?_) (a' := ?_) #[true, false, false, false] rfl rfl (by kernel_rfl) (fun _ _ _ h => h) (Or.inl ⟨by rfl, ?_⟩) ?_ ?_
  rotate_left
  ·intro w'
   go_simp
   with_reducible rfl
  rotate_left
  ·simp only [Act.put, List.setIfInBounds_toArray, List.set_cons_zero, List.set_cons_succ, i64_w, i32_w]
   rfl
  refine take_ (i := 2) (N := some 10) (v := ?_) (a' := ?_) #[true, false, true, false] rfl rfl (by kernel_rfl) (fun _ _ _ h => h) (Or.inl ⟨by rfl, ?_⟩) hHeld ?_ ?_
  rotate_left
  ·rintro w' s0
   go_simp
   with_reducible rfl
  rotate_left
  ·simp only [Act.put, List.setIfInBounds_toArray, List.set_cons_zero, List.set_cons_succ, i64_w, i32_w]
   rfl
  refine one_ (i := 1) (N := some 9) #[true, true, true, false] rfl rfl (by kernel_rfl) (by decide) (fun K hK => ?_)
  refine goes_ Try.func119 (by kernel_rfl) rfl #[.slice A0 l0.length c0] (by rfl) rfl rfl (by (try simp only [List.map_toArray, List.map_cons, List.map_nil]); first | done | rfl | (simp only [List.length_drop, List.length_take]; rfl)) ?_
  with_reducible refine (impl_size_int64.calls _ _ l0 (l0.length : Int) _ ?side1 ?side2 rfl).mono ?_
  (case side1 => exact Kd.C_below (Kd.R_reads' HR.out).2.2 HB.out)
  (case side2 => exact (Kd.R_reads' HR.out).2.1)
  rintro e w' ⟨rfl, ⟨nd, rfl⟩⟩
  refine ⟨_, rfl, ?_⟩
  refine hK.out _ _ hHeld (fun hHeld => ?_)
  clear hK K
  refine norm_ (a' := ?_) ?_ ?_
  rotate_left
  ·show Act.put _ (some 9) _ = _
   simp only [Act.put, List.setIfInBounds_toArray, List.set_cons_zero, List.set_cons_succ, i64_w, i32_w]
   rfl
  refine pure_ (i := 3) (N := some 11) (v := ?_) (a' := ?_) #[true, true, true, true] rfl rfl (by kernel_rfl) (fun _ _ _ h => h) (Or.inl ⟨by rfl, ?_⟩) ?_ ?_
  rotate_left
  ·intro w'
   go_simp
   with_reducible rfl
  rotate_left
  ·simp only [Act.put, List.setIfInBounds_toArray, List.set_cons_zero, List.set_cons_succ, i64_w, i32_w]
   rfl
  refine done_ (by kernel_rfl) ?_
  have H' := Aside0.mk H
  clear H
  try go_wp2
  go_loopg [6] k (fun kq v6 w' => ∃ (x6_1 : Int) (v1 : Value) (o1 : List (S33)), v6 = .int .i64 x6_1 ∧ Aside0 (fromL.l kq n kk l0 x6_1 o1 = some out') ∧ Aside0 (kq ≤ k) ∧ Aside0 (FW w' base qk qo qn qf kk n v1 o1) ∧ Aside0 (FP base qo w w' v v1))
  case atStart => exact ⟨1, v, out, rfl, H', ⟨Nat.le_refl _⟩, ⟨HW.out.step (by repeat (first | (with_reducible first | exact HB.out | apply below_alloc | apply pw_below_drewN | apply below_drew1) | exact HB.out))⟩, ⟨FP.step (FP.refl base qo w v) (by repeat (first | (with_reducible first | exact HB.out | apply below_alloc | apply pw_below_drewN | apply below_drew1) | exact HB.out)) HBS.out⟩⟩
  case round =>
   clear H' HB
   try clear c7b0
   try clear c7b1
   try clear c7b2
   obtain ⟨x6_1, v1, o1, rfl, HA, HK1, FW1, FP1⟩ := hrel
   have HR1 := Aside0.mk (FP.rows FP1.out HW.out HR.out)
   have HB := Aside0.mk (Below.refl wr.heap.size wr)
   have hczn : wr.cell? ⟨qn, 0, none⟩ = some (.int .i64 n) := (blk_cell FW1.out.hn 0).trans rfl
   have hfzn := blk_frozen FW1.out.hn 0
   cases gk with
   | zero => exact absurd HA.out (by simp [fromL.l])
   | succ k1 =>
    have H := HA.out
    clear HA
    simp only [fromL.l] at H
    by_cases c21 : 0 ≤ n
    ·rw [if_pos c21] at H
     have c21b0 := eq_true c21
     have c21b1 : decide (0 ≤ n) = true := decide_eq_true c21
     clear c21
     obtain ⟨ji22, hji22⟩ : ∃ j_ : Int, (shl .i64 1 n) = j_ := ⟨_, rfl⟩
     rw [hji22] at H
     have hji22_ : (IntKind.i64.wrap (1 * 2 ^ min n.toNat 64)) = ji22 := hji22
     have hji22z : n ≤ 64 → (IntKind.i64.wrap (1 * 2 ^ n.toNat)) = ji22 := shl_small hji22
     have hji22u : (IntKind.i64.wrap (2 ^ min n.toNat 64)) = ji22 := by have h_ := hji22_; rw [Int.one_mul] at h_; exact h_
     have hji22v : n ≤ 64 → (IntKind.i64.wrap (2 ^ n.toNat)) = ji22 := fun hle_ => by have h_ := hji22z hle_; rw [Int.one_mul] at h_; exact h_
     have hji22y : (wrap64 (1 * 2 ^ min n.toNat 64)) = ji22 := (i64_w _).symm.trans hji22_
     have hji22x : n ≤ 64 → (wrap64 (1 * 2 ^ n.toNat)) = ji22 := fun h_ => (i64_w _).symm.trans (hji22z h_)
     by_cases c23 : x6_1 < (ji22)
     ·rw [if_pos c23] at H
      have c23b0 : decide (x6_1 < (ji22)) = true := decide_eq_true c23
      clear c23
      replace H := Option.bind_eq_some_iff.mp H
      obtain ⟨t260, A240, H⟩ := H
      have A24 := Aside0.mk A240
      clear A240
      by_cases c25 : t260.length < 17592186044416
      ·rw [if_pos c25] at H
       have LMc25 := Aside0.mk c25
       clear c25
       obtain ⟨y263, hy263⟩ : ∃ y_ : List Int, y_ = (t260 ++ [x6_1]) := ⟨_, rfl⟩
       rw [← hy263] at H
       have Ny263 := Aside0.mk hy263
       clear hy263
       replace H := Option.bind_eq_some_iff.mp H
       obtain ⟨t266, A260, H⟩ := H
       have A26 := Aside0.mk A260
       clear A260
       replace H := Option.bind_eq_some_iff.mp H
       obtain ⟨t269, A270, H⟩ := H
       have A27 := Aside0.mk A270
       clear A270
       by_cases c28 : t269 = true
       ·subst c28
        rw [if_pos rfl] at H
        replace H := Option.bind_eq_some_iff.mp H
        obtain ⟨t270, A290, H⟩ := H
        have A29 := Aside0.mk A290
        clear A290
        have H' := Aside0.mk H
        clear H
        go_wp2_with (first | ((with_reducible refine gate_callee (f := 135) rfl ?_); refine goesL_ (some 26) rfl rfl Try.func135 (by kernel_rfl) rfl #[.slice A0 l0.length c0] rfl (by (try simp only [List.map_toArray, List.map_cons, List.map_nil]); first | done | rfl | (simp only [List.length_drop, List.length_take]; rfl)) ?_; (with_reducible refine (slices_Clone_int64_int64.calls _ _ l0 t260 _ ?side1 ?side2 A24.out).mono ?_); (case side1 => repeat (first | exact (Kd.R_reads' HR1.out).2.2 | (with_reducible refine Kd.C_alloc ?_ _) | (with_reducible refine Kd.C_drewN ?_ _) | (with_reducible refine Kd.C_drew ?_))); (case side2 => exact (Kd.R_reads' HR1.out).2.1); rintro e w42 ⟨v261, rfl, ho0, hb⟩; refine ⟨_, rfl, ?_⟩; have n0_ := Aside0.mk (Kd.R_lower (Kd.R_newM (M := fun k_ => (wr.heap.size ≤ k_)) ho0 (below_size (by repeat (first | (with_reducible first | exact HB.out | apply below_alloc | apply pw_below_drewN | apply below_drew1) | exact HB.out))) (fun k_ h_ => h_)) (below_size (by repeat (first | (with_reducible first | exact HB.out | apply below_alloc | apply pw_below_drewN | apply below_drew1) | exact HB.out)))); have n2_ := Aside0.mk (below_step (by repeat (first | (with_reducible first | exact HB.out | apply below_alloc | apply pw_below_drewN | apply below_drew1) | exact HB.out)) hb); clear HB; have HO262 := n0_; have HB := n2_; clear n0_ n2_; clear hb ho0) | ((with_reducible refine gate_builtin (b := .append) (xs := #[.tmp 26, .tmp 28]) rfl ?_); at_builtin; refine Kd.R_append (Kd.int .i64) (w0 := wr) wr.heap.size rfl (.tmp 26) (.tmp 28) 29 2 (.int .i64 0) 8 rfl Try.underlying29 info2 rfl (by decide) (by omega) v261 t260 x6_1 [.int .i64 x6_1] (fun k_ => (wr.heap.size ≤ k_)) (fun _ => False) rfl rfl ?aP (fun _ hk => hk.elim) ?aF ?aO ?aB ?aS ?aL ?_; (case aP => exact rfl); (case aB => exact (by repeat (first | (with_reducible first | exact HB.out | apply below_alloc | apply pw_below_drewN | apply below_drew1) | exact HB.out))); (case aF => exact (fun k_ hk => (Nat.le_trans (below_size (by repeat (first | (with_reducible first | exact HB.out | apply below_alloc | apply pw_below_drewN | apply below_drew1) | exact HB.out))) hk))); (case aO => exact (by (with_reducible repeat (first | apply Kd.R_alloc | apply Kd.R_drewN | apply Kd.R_drew)); exact Kd.R_mono HO262.out (fun _ hk => hk.1))); (case aS => exact (below_size (by repeat (first | (with_reducible first | exact HB.out | apply below_alloc | apply pw_below_drewN | apply below_drew1) | exact HB.out)))); (case aL => have := LMc25.out; omega); intro v264 w43 ho hb hg hat; rw [← Ny263.out] at ho; have n1_ := Aside0.mk (hb); have n2_ := Aside0.mk (ho); clear HB; clear HO262; have HB := n1_; have HO265 := n2_; clear n1_ n2_; clear ho hb hg hat; obtain ⟨Ao44, co44, eo44⟩ := Kd.R_slice HO265.out; subst eo44) | ((with_reducible refine gate_callee (f := 109) rfl ?_); refine goesL_ (some 31) rfl rfl Try.func109 (by kernel_rfl) rfl #[.slice Ao44 y263.length co44] rfl (by (try simp only [List.map_toArray, List.map_cons, List.map_nil]); first | done | rfl | (simp only [List.length_drop, List.length_take]; rfl)) ?_; (with_reducible refine (impl_echelon.calls k1 _ _ y263 t266 _ ?side1 ?side2 A26.out).mono ?_); (case side1 => repeat (first | exact (Kd.R_reads' HO265.out).2.2 | (with_reducible refine Kd.C_alloc ?_ _) | (with_reducible refine Kd.C_drewN ?_ _) | (with_reducible refine Kd.C_drew ?_))); (case side2 => exact (Kd.R_reads' HO265.out).2.1); rintro e w45 ⟨v267, rfl, ho0, hb⟩; refine ⟨_, rfl, ?_⟩; have n0_ := Aside0.mk (Kd.R_elder' (by (with_reducible repeat (first | apply Kd.R_alloc | apply Kd.R_drewN | apply Kd.R_drew)); exact HO265.out) (Kd.R_base ho0) hb); have n1_ := Aside0.mk (Kd.R_lower (Kd.R_newM (M := fun k_ => (wr.heap.size ≤ k_)) ho0 (below_size (by repeat (first | (with_reducible first | exact HB.out | apply below_alloc | apply pw_below_drewN | apply below_drew1) | exact HB.out))) (fun k_ h_ => h_)) (below_size (by repeat (first | (with_reducible first | exact HB.out | apply below_alloc | apply pw_below_drewN | apply below_drew1) | exact HB.out)))); have n3_ := Aside0.mk (below_step (by repeat (first | (with_reducible first | exact HB.out | apply below_alloc | apply pw_below_drewN | apply below_drew1) | exact HB.out)) hb); clear HO265; clear HB; have HO265 := n0_; have HO268 := n1_; have HB := n3_; clear n0_ n1_ n3_; clear hb ho0; obtain ⟨Ao46, co46, eo46⟩ := Kd.R_slice HO268.out; subst eo46) | ((with_reducible refine gate_callee (f := 136) rfl ?_); refine goesL_ (some 33) rfl rfl Try.func136 (by kernel_rfl) rfl #[.slice Ao46 t266.length co46, .slice Ao44 y263.length co44] rfl (by (try simp only [List.map_toArray, List.map_cons, List.map_nil]); first | done | rfl | (simp only [List.length_drop, List.length_take]; rfl)) ?_; (with_reducible refine (slices_Equal_int64_int64.calls k1 _ _ t266 _ _ y263 true _ ?side1 ?side2 ?side3 ?side4 A27.out).mono ?_); (case side1 => repeat (first | exact (Kd.R_reads' HO268.out).2.2 | (with_reducible refine Kd.C_alloc ?_ _) | (with_reducible refine Kd.C_drewN ?_ _) | (with_reducible refine Kd.C_drew ?_))); (case side2 => exact (Kd.R_reads' HO268.out).2.1); (case side3 => repeat (first | exact (Kd.R_reads' HO265.out).2.2 | (with_reducible refine Kd.C_alloc ?_ _) | (with_reducible refine Kd.C_drewN ?_ _) | (with_reducible refine Kd.C_drew ?_))); (case side4 => exact (Kd.R_reads' HO265.out).2.1); rintro e w' ⟨rfl, ⟨nd, rfl⟩⟩; refine ⟨_, rfl, ?_⟩; rw [drewN_self w45]; generalize hq_ : World.drewN w45 _ = w50; have n0_ : Aside0 (Kd.R (Kd.int .i64) 2 w50 wr.heap.size (fun k_ => (wr.heap.size ≤ k_)) (.slice Ao44 y263.length co44) y263) := ⟨by rw [← hq_]; (with_reducible repeat (first | apply Kd.R_alloc | apply Kd.R_drewN | apply Kd.R_drew)); exact Kd.R_mono HO265.out (fun _ hk => hk.1)⟩; have n3_ : Aside0 (Below wr.heap.size wr w50) := ⟨by rw [← hq_]; exact (by repeat (first | (with_reducible first | exact HB.out | apply below_alloc | apply pw_below_drewN | apply below_drew1) | exact HB.out))⟩; clear HO265 HO268 HB hq_; have HO265 := n0_; have HB := n3_; clear n0_ n3_; have FW5 := Aside0.mk (FW1.out.step HB.out); have hczf : w50.cell? ⟨qf, 0, none⟩ = some (.func (.func 134) #[] #[.pointer (some ⟨qk, 0, none⟩), .pointer (some ⟨qo, 0, none⟩), .pointer (some ⟨qn, 0, none⟩), .pointer (some ⟨qf, 0, none⟩)]) := (blk_cell FW5.out.hf 0).trans rfl; have hfzf := blk_frozen FW5.out.hf 0) | ((with_reducible refine (ih k1 (by have := HK1.out; omega) base qk qo qn qf kk n _ _ y263 v1 o1 t270 _ ?side1 ?side2 A29.out).mono ?_); (case side1 => (with_reducible repeat (first | apply Kd.R_alloc | apply Kd.R_drewN | apply Kd.R_drew)); exact Kd.R_mono (Kd.R_lower HO265.out (Nat.le_trans HBS.out FP1.out.size)) (fun k_ hk => Nat.le_trans (Nat.le_trans HBS.out FP1.out.size) hk)); (case side2 => exact FW1.out.step (by repeat (first | (with_reducible first | exact HB.out | apply below_alloc | apply pw_below_drewN | apply below_drew1) | exact HB.out))); rintro e w37 ⟨rfl, v2, hfw, hfp⟩; dsimp only; have FW2 := Aside0.mk hfw; have FP2 := Aside0.mk (FP.trans (FP.step FP1.out (by repeat (first | (with_reducible first | exact HB.out | apply below_alloc | apply pw_below_drewN | apply below_drew1) | exact HB.out)) (Nat.le_trans HBS.out FP1.out.size)) hfp); clear hfw hfp; have HB2 := Aside0.mk (Below.refl w37.heap.size w37)))
        go_roundg k1
        case measure => have := HK1.out; omega
        case rel => exact ⟨(wrap64 (x6_1 + 1)), v2, t270, (by first | rfl | (simp; done) | (simp [*]; done)), H', ⟨by have := HK1.out; omega⟩, ⟨FW2.out.step (by repeat (first | (with_reducible first | exact HB2.out | apply below_alloc | apply pw_below_drewN | apply below_drew1) | exact HB2.out))⟩, ⟨FP.step FP2.out (by repeat (first | (with_reducible first | exact HB2.out | apply below_alloc | apply pw_below_drewN | apply below_drew1) | exact HB2.out)) (Nat.le_trans HBS.out FP2.out.size)⟩⟩
       ·replace c28 := Bool.eq_false_iff.mpr c28
        subst c28
        rw [if_neg (show ¬ (false = true) by decide)] at H
        have H' := Aside0.mk H
        clear H
        go_wp2_with (first | ((with_reducible refine gate_callee (f := 135) rfl ?_); refine goesL_ (some 26) rfl rfl Try.func135 (by kernel_rfl) rfl #[.slice A0 l0.length c0] rfl (by (try simp only [List.map_toArray, List.map_cons, List.map_nil]); first | done | rfl | (simp only [List.length_drop, List.length_take]; rfl)) ?_; (with_reducible refine (slices_Clone_int64_int64.calls _ _ l0 t260 _ ?side1 ?side2 A24.out).mono ?_); (case side1 => repeat (first | exact (Kd.R_reads' HR1.out).2.2 | (with_reducible refine Kd.C_alloc ?_ _) | (with_reducible refine Kd.C_drewN ?_ _) | (with_reducible refine Kd.C_drew ?_))); (case side2 => exact (Kd.R_reads' HR1.out).2.1); rintro e w42 ⟨v261, rfl, ho0, hb⟩; refine ⟨_, rfl, ?_⟩; have n0_ := Aside0.mk (Kd.R_lower (Kd.R_newM (M := fun k_ => (wr.heap.size ≤ k_)) ho0 (below_size (by repeat (first | (with_reducible first | exact HB.out | apply below_alloc | apply pw_below_drewN | apply below_drew1) | exact HB.out))) (fun k_ h_ => h_)) (below_size (by repeat (first | (with_reducible first | exact HB.out | apply below_alloc | apply pw_below_drewN | apply below_drew1) | exact HB.out)))); have n2_ := Aside0.mk (below_step (by repeat (first | (with_reducible first | exact HB.out | apply below_alloc | apply pw_below_drewN | apply below_drew1) | exact HB.out)) hb); clear HB; have HO262 := n0_; have HB := n2_; clear n0_ n2_; clear hb ho0) | ((with_reducible refine gate_builtin (b := .append) (xs := #[.tmp 26, .tmp 28]) rfl ?_); at_builtin; refine Kd.R_append (Kd.int .i64) (w0 := wr) wr.heap.size rfl (.tmp 26) (.tmp 28) 29 2 (.int .i64 0) 8 rfl Try.underlying29 info2 rfl (by decide) (by omega) v261 t260 x6_1 [.int .i64 x6_1] (fun k_ => (wr.heap.size ≤ k_)) (fun _ => False) rfl rfl ?aP (fun _ hk => hk.elim) ?aF ?aO ?aB ?aS ?aL ?_; (case aP => exact rfl); (case aB => exact (by repeat (first | (with_reducible first | exact HB.out | apply below_alloc | apply pw_below_drewN | apply below_drew1) | exact HB.out))); (case aF => exact (fun k_ hk => (Nat.le_trans (below_size (by repeat (first | (with_reducible first | exact HB.out | apply below_alloc | apply pw_below_drewN | apply below_drew1) | exact HB.out))) hk))); (case aO => exact (by (with_reducible repeat (first | apply Kd.R_alloc | apply Kd.R_drewN | apply Kd.R_drew)); exact Kd.R_mono HO262.out (fun _ hk => hk.1))); (case aS => exact (below_size (by repeat (first | (with_reducible first | exact HB.out | apply below_alloc | apply pw_below_drewN | apply below_drew1) | exact HB.out)))); (case aL => have := LMc25.out; omega); intro v264 w43 ho hb hg hat; rw [← Ny263.out] at ho; have n1_ := Aside0.mk (hb); have n2_ := Aside0.mk (ho); clear HB; clear HO262; have HB := n1_; have HO265 := n2_; clear n1_ n2_; clear ho hb hg hat; obtain ⟨Ao44, co44, eo44⟩ := Kd.R_slice HO265.out; subst eo44) | ((with_reducible refine gate_callee (f := 109) rfl ?_); refine goesL_ (some 31) rfl rfl Try.func109 (by kernel_rfl) rfl #[.slice Ao44 y263.length co44] rfl (by (try simp only [List.map_toArray, List.map_cons, List.map_nil]); first | done | rfl | (simp only [List.length_drop, List.length_take]; rfl)) ?_; (with_reducible refine (impl_echelon.calls k1 _ _ y263 t266 _ ?side1 ?side2 A26.out).mono ?_); (case side1 => repeat (first | exact (Kd.R_reads' HO265.out).2.2 | (with_reducible refine Kd.C_alloc ?_ _) | (with_reducible refine Kd.C_drewN ?_ _) | (with_reducible refine Kd.C_drew ?_))); (case side2 => exact (Kd.R_reads' HO265.out).2.1); rintro e w45 ⟨v267, rfl, ho0, hb⟩; refine ⟨_, rfl, ?_⟩; have n0_ := Aside0.mk (Kd.R_elder' (by (with_reducible repeat (first | apply Kd.R_alloc | apply Kd.R_drewN | apply Kd.R_drew)); exact HO265.out) (Kd.R_base ho0) hb); have n1_ := Aside0.mk (Kd.R_lower (Kd.R_newM (M := fun k_ => (wr.heap.size ≤ k_)) ho0 (below_size (by repeat (first | (with_reducible first | exact HB.out | apply below_alloc | apply pw_below_drewN | apply below_drew1) | exact HB.out))) (fun k_ h_ => h_)) (below_size (by repeat (first | (with_reducible first | exact HB.out | apply below_alloc | apply pw_below_drewN | apply below_drew1) | exact HB.out)))); have n3_ := Aside0.mk (below_step (by repeat (first | (with_reducible first | exact HB.out | apply below_alloc | apply pw_below_drewN | apply below_drew1) | exact HB.out)) hb); clear HO265; clear HB; have HO265 := n0_; have HO268 := n1_; have HB := n3_; clear n0_ n1_ n3_; clear hb ho0; obtain ⟨Ao46, co46, eo46⟩ := Kd.R_slice HO268.out; subst eo46) | ((with_reducible refine gate_callee (f := 136) rfl ?_); refine goesL_ (some 33) rfl rfl Try.func136 (by kernel_rfl) rfl #[.slice Ao46 t266.length co46, .slice Ao44 y263.length co44] rfl (by (try simp only [List.map_toArray, List.map_cons, List.map_nil]); first | done | rfl | (simp only [List.length_drop, List.length_take]; rfl)) ?_; (with_reducible refine (slices_Equal_int64_int64.calls k1 _ _ t266 _ _ y263 false _ ?side1 ?side2 ?side3 ?side4 A27.out).mono ?_); (case side1 => repeat (first | exact (Kd.R_reads' HO268.out).2.2 | (with_reducible refine Kd.C_alloc ?_ _) | (with_reducible refine Kd.C_drewN ?_ _) | (with_reducible refine Kd.C_drew ?_))); (case side2 => exact (Kd.R_reads' HO268.out).2.1); (case side3 => repeat (first | exact (Kd.R_reads' HO265.out).2.2 | (with_reducible refine Kd.C_alloc ?_ _) | (with_reducible refine Kd.C_drewN ?_ _) | (with_reducible refine Kd.C_drew ?_))); (case side4 => exact (Kd.R_reads' HO265.out).2.1); rintro e w' ⟨rfl, ⟨nd, rfl⟩⟩; refine ⟨_, rfl, ?_⟩))
        go_roundg k1
        case measure => have := HK1.out; omega
        case rel => exact ⟨(wrap64 (x6_1 + 1)), v1, o1, (by first | rfl | (simp; done) | (simp [*]; done)), H', ⟨by have := HK1.out; omega⟩, ⟨FW1.out.step (by repeat (first | (with_reducible first | exact HB.out | apply below_alloc | apply pw_below_drewN | apply below_drew1) | exact HB.out))⟩, ⟨FP.step FP1.out (by repeat (first | (with_reducible first | exact HB.out | apply below_alloc | apply pw_below_drewN | apply below_drew1) | exact HB.out)) (Nat.le_trans HBS.out FP1.out.size)⟩⟩
      ·rw [if_neg c25] at H
       exact absurd H (by simp)
     ·rw [if_neg c23] at H
      have c23b0 : decide (x6_1 < (ji22)) = false := decide_eq_false c23
      clear c23
      obtain rfl := Option.some.inj H
      go_wp2
      (try simp only [Exit.inBlock, Exit.then])
      refine bodyPost_end (results_none rfl _ _ _) rfl ?_
      exact ⟨rfl, v1, FW1.out.step (by repeat (first | (with_reducible first | exact HB.out | apply below_alloc | apply pw_below_drewN | apply below_drew1) | exact HB.out)), FP.step FP1.out (by repeat (first | (with_reducible first | exact HB.out | apply below_alloc | apply pw_below_drewN | apply below_drew1) | exact HB.out)) (Nat.le_trans HBS.out FP1.out.size)⟩
    ·rw [if_neg c21] at H
     exact absurd H (by simp)
end Go.Proofs.Ytaopplbahakpgaa.PFnExactGreedySpaces
