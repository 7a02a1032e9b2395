/- slices.SortFunc, at the program's list of matrices and its comparison of their rows, leaves the list that the plain function sortS tells; and so the program's literal inOrder hands it back. -/
import Derived.Test.YtaopplbahakpgaaPFnExactGreedySpacesxa
import Derived.Shelf.SlSortCmp.WholeK
import Derived.Shelf.SlSortCmp.NoneTotal
import Derived.Shelf.SlGeneric
namespace Go.Proofs.Ytaopplbahakpgaa.PFnExactGreedySpaces
open Go.RowKit Go.Proofs.YtaopplbahakpgaaW.PrintWords Go.Proofs.YtaopplbahakpgaaW.PrintLast Go.Proofs.YtaopplbahakpgaaW.PrintMore
attribute [local go_sem] max2_int min2_int max_two min_two max_three min_three max_four min_four   -- for this text's walks alone
set_option linter.unusedVariables false
set_option linter.unusedSimpArgs false
structure Gr (w w' : World) : Prop where mk :: (out : ∃ q os, w' = Go.Sort.grow (w.drewN q) os)
theorem Gr.refl (w : World) : Gr w w := ⟨⟨0, #[], by rw [Go.Sort.grow_empty]; rfl⟩⟩
theorem Gr.drewN {w w' : World} (h : Gr w w') (n : Nat) : Gr w (w'.drewN n) := by
 obtain ⟨q, os, rfl⟩ := h
 exact ⟨⟨q + n, os, by rw [← World.drewN_drewN]; rfl⟩⟩
theorem Gr.alloc {w w1 w' : World} {o : Obj} (h : Gr w w1) (e : w' = w1.alloc o) : Gr w w' := by
 obtain ⟨q, os, rfl⟩ := h
 exact ⟨⟨q, os ++ #[o], by rw [e, Go.Sort.alloc_eq_grow, Go.Sort.grow_grow]⟩⟩
section
variable {P : Program} {ops : Array Oper} {rest : List Oper} {o : Oper} {a : Act} {Q : Exit → Act → World → Prop}
theorem box_event2 {W : World} (hgd : o.guard = none) {N : Tmp} (_hd : o.dst = some N) {cs : Array Value} {t : TypeId}
  (hrun : (execOp a.eval o).run P W = .ok (.value (.pointer (some ⟨W.heap.size, 0, none⟩))) (W.alloc (.cells cs t (0, 0))))
  (h : ∀ g, g = W.heap.size → ∀ w1, w1.heap[g]? = some (.cells cs t (0, 0)) → Below W.heap.size W w1 → w1 = W.alloc (.cells cs t (0, 0)) → wpList P ops Q rest (a.put o.dst (.pointer (some ⟨g, 0, none⟩))) w1) : wpList P ops Q (o :: rest) a W :=
 Kd.event_run hgd hrun (h _ rfl _ (blk_new W _) (below_alloc (Below.refl _ _) _) rfl)
end
set_option maxHeartbeats 8000000 in
set_option maxRecDepth 100000 in
theorem impl_spaces_1_1.lays (k : Nat) (a0_0 : Int) (A0_1 : Option Addr) (c0_1 : Nat) (l0_1 : List Int) (a1_0 : Int) (A1_1 : Option Addr) (c1_1 : Nat) (l1_1 : List Int) (r : Int) (w : World) (hr0_1 : Kd.C (Kd.int .i64) w A0_1 l0_1.length l0_1) (hc0_1 : l0_1.length ≤ c0_1) (hr1_1 : Kd.C (Kd.int .i64) w A1_1 l1_1.length l1_1) (hc1_1 : l1_1.length ≤ c1_1) (h : impl_spaces_1_1.f k a0_0 l0_1 a1_0 l1_1 = some r) :
  Calls Try.prog 131 #[.agg #[.int .i64 a0_0, .slice A0_1 l0_1.length c0_1], .agg #[.int .i64 a1_0, .slice A1_1 l1_1.length c1_1]] w fun e w' => e = .returned (.int .i64 r) ∧ Gr w w' := by
 have hu33 := Try.underlying33
 have HR0_1 := Aside0.mk hr0_1
 have HC0_1 := Aside0.mk hc0_1
 clear hr0_1 hc0_1
 have HR1_1 := Aside0.mk hr1_1
 have HC1_1 := Aside0.mk hc1_1
 clear hr1_1 hc1_1
 have HB := Aside0.mk (Below.refl w.heap.size w)
 have GR := Aside0.mk (Gr.refl w)
 have H : ((slices_Compare_int64_int64.f k l0_1 l1_1).bind fun t166 => (some t166)) = some r := h
 clear h
 replace H := Option.bind_eq_some_iff.mp H
 obtain ⟨t166, A30, H⟩ := H
 replace H : (some t166) = some r := H
 have A3 := Aside0.mk A30
 clear A30
 obtain rfl := Option.some.inj H
 go_enter Try.func131, Try.ntmps131
 go_wp2_with (first | ((with_reducible refine gate_dst (N := 2) rfl ?_); refine box_event2 ?hg (N := 2) ?hd (cs := #[.int .i64 a0_0, .slice A0_1 l0_1.length c0_1]) (t := 33) ?hr ?_; (case hd => rfl); (case hg => rfl); (case hr => first | (go_simp; done) | (go_simp; rfl)); intro gb164 hg w4 hbox hb hgr; have n9_ := Aside0.mk (Gr.alloc (by repeat (first | (with_reducible first | exact GR.out | apply Gr.drewN | apply Gr.drew) | exact GR.out)) hgr); clear GR; have GR := n9_; clear n9_ hgr; have n0_ := Aside0.mk (below_step (by repeat (first | (with_reducible first | exact HB.out | apply below_alloc | apply pw_below_drewN | apply below_drew1) | exact HB.out)) hb); have n1_ := Aside0.mk (hbox); have n2_ := Aside0.mk ((by rw [hg]; exact (below_size (by repeat (first | (with_reducible first | exact HB.out | apply below_alloc | apply pw_below_drewN | apply below_drew1) | exact HB.out))) : w.heap.size ≤ gb164)); have n3_ := Aside0.mk ((by rw [hg]; exact (below_size (by repeat (first | (with_reducible first | exact HB.out | apply below_alloc | apply pw_below_drewN | apply below_drew1) | exact HB.out))) : w.heap.size ≤ gb164)); clear HB; have HB := n0_; have BK164 := n1_; have GW164 := n2_; have GE164 := n3_; clear n0_ n1_ n2_ n3_; clear hb hbox hg) | ((with_reducible refine gate_dst (N := 3) rfl ?_); refine box_event2 ?hg (N := 3) ?hd (cs := #[.int .i64 a1_0, .slice A1_1 l1_1.length c1_1]) (t := 33) ?hr ?_; (case hd => rfl); (case hg => rfl); (case hr => first | (go_simp; done) | (go_simp; rfl)); intro gb165 hg w5 hbox hb hgr; have n9_ := Aside0.mk (Gr.alloc (by repeat (first | (with_reducible first | exact GR.out | apply Gr.drewN | apply Gr.drew) | exact GR.out)) hgr); clear GR; have GR := n9_; clear n9_ hgr; have n0_ := Aside0.mk (blk_below (g := gb164) (o := .cells #[.int .i64 a0_0, .slice A0_1 l0_1.length c0_1] 33 (0, 0)) (by (with_reducible repeat (first | refine blk_drewN ?_ _ | refine blk_drew ?_ | refine blk_alloc ?_ _)); exact BK164.out) hb); have n1_ := Aside0.mk (below_step (by repeat (first | (with_reducible first | exact HB.out | apply below_alloc | apply pw_below_drewN | apply below_drew1 | refine below_set ?_ GE164.out) | exact HB.out)) hb); have n2_ := Aside0.mk (hbox); have n3_ := Aside0.mk ((by rw [hg]; exact (below_size (by repeat (first | (with_reducible first | exact HB.out | apply below_alloc | apply pw_below_drewN | apply below_drew1 | refine below_set ?_ GE164.out) | exact HB.out))) : w.heap.size ≤ gb165)); have n4_ := Aside0.mk ((by rw [hg]; exact (below_size (by repeat (first | (with_reducible first | exact HB.out | apply below_alloc | apply pw_below_drewN | apply below_drew1 | refine below_set ?_ GE164.out) | exact HB.out))) : w.heap.size ≤ gb165)); have n5_ := Aside0.mk ((by rw [hg]; exact Nat.ne_of_lt (blk_lt (g := gb164) (o := .cells #[.int .i64 a0_0, .slice A0_1 l0_1.length c0_1] 33 (0, 0)) (by (with_reducible repeat (first | refine blk_drewN ?_ _ | refine blk_drew ?_ | refine blk_alloc ?_ _)); exact BK164.out)) : gb164 ≠ gb165)); have n6_ := Aside0.mk ((by rw [hg]; exact Nat.ne_of_gt (blk_lt (g := gb164) (o := .cells #[.int .i64 a0_0, .slice A0_1 l0_1.length c0_1] 33 (0, 0)) (by (with_reducible repeat (first | refine blk_drewN ?_ _ | refine blk_drew ?_ | refine blk_alloc ?_ _)); exact BK164.out)) : gb165 ≠ gb164)); clear BK164; clear HB; have BK164 := n0_; have HB := n1_; have BK165 := n2_; have GW165 := n3_; have GE165 := n4_; have NB164_165 := n5_; have NB165_164 := n6_; clear n0_ n1_ n2_ n3_ n4_ n5_ n6_; clear hb hbox hg; have hnb6 := NB164_165.out; have hnc6 := NB165_164.out; have hcz7_0 : w5.cell? ⟨gb164, 0, none⟩ = some (.int .i64 a0_0) := (blk_cell BK164.out 0).trans rfl; have hcz7_1 : w5.cell? ⟨gb164, 1, none⟩ = some (.slice A0_1 l0_1.length c0_1) := (blk_cell BK164.out 1).trans rfl; have hfz7_0 := blk_frozen BK164.out 0; have hfz7_1 := blk_frozen BK164.out 1; have hcz8_0 : w5.cell? ⟨gb165, 0, none⟩ = some (.int .i64 a1_0) := (blk_cell BK165.out 0).trans rfl; have hcz8_1 : w5.cell? ⟨gb165, 1, none⟩ = some (.slice A1_1 l1_1.length c1_1) := (blk_cell BK165.out 1).trans rfl; have hfz8_0 := blk_frozen BK165.out 0; have hfz8_1 := blk_frozen BK165.out 1) | ((with_reducible refine gate_callee (f := 132) rfl ?_); refine goesL_ (some 9) rfl rfl Try.func132 (by kernel_rfl) rfl #[.slice A0_1 l0_1.length c0_1, .slice A1_1 l1_1.length c1_1] rfl (by (try simp only [List.map_toArray, List.map_cons, List.map_nil]); first | done | rfl | (simp only [List.length_drop, List.length_take]; rfl)) ?_; (with_reducible refine (slices_Compare_int64_int64.calls k _ _ l0_1 _ _ l1_1 t166 _ ?side1 ?side2 ?side3 ?side4 A3.out).mono ?_); (case side1 => repeat (first | exact (Kd.C_below HR0_1.out HB.out) | (with_reducible refine Kd.C_alloc ?_ _) | (with_reducible refine Kd.C_drewN ?_ _) | (with_reducible refine Kd.C_drew ?_))); (case side2 => exact HC0_1.out); (case side3 => repeat (first | exact (Kd.C_below HR1_1.out HB.out) | (with_reducible refine Kd.C_alloc ?_ _) | (with_reducible refine Kd.C_drewN ?_ _) | (with_reducible refine Kd.C_drew ?_))); (case side4 => exact HC1_1.out); rintro e w' ⟨rfl, ⟨nd, rfl⟩⟩; refine ⟨_, rfl, ?_⟩))
 go_ret
 exact ⟨by first | rfl | (simp [errW_none, errW_some] <;> rfl) | (simp [*, errW_none, errW_some] <;> rfl), (by repeat (first | (with_reducible first | exact GR.out | apply Gr.drewN | apply Gr.drew) | exact GR.out))⟩
/-! ### the order of rows -/
def cmpR : List Int → List Int → Int
 | [], [] => 0
 | [], _ :: _ => -1
 | _ :: _, [] => 1
 | x :: xs, y :: ys => if x < y then -1 else if y < x then 1 else cmpR xs ys
theorem cmpR_f (xs ys : List Int) (hx : xs.length ≤ 9223372036854775807) : ∀ (m i : Nat), xs.length ≤ i + m → i ≤ xs.length → i ≤ ys.length →
  slices_Compare_int64_int64.l0 (m + 1) xs ys xs (xs.length : Int) (i : Int) = some (cmpR (xs.drop i) (ys.drop i)) := by
 intro m
 induction m with
 | zero =>
  intro i h1 h2 h3
  have : i = xs.length := by omega
  subst this
  unfold slices_Compare_int64_int64.l0
  rw [if_neg (by omega), List.drop_length]
  by_cases hl : (xs.length : Int) < ys.length
  ·rw [if_pos hl]
   have : ys.drop xs.length ≠ [] := by simp; omega
   cases hd : ys.drop xs.length with
   | nil => exact absurd hd this
   | cons a b => rfl
  ·rw [if_neg hl]
   rw [show ys.drop xs.length = [] from by simp; omega]
   rfl
 | succ m ih =>
  intro i h1 h2 h3
  unfold slices_Compare_int64_int64.l0
  by_cases hi : (i : Int) < xs.length
  ·rw [if_pos hi, if_pos (by omega), if_pos hi]
   have hi' : i < xs.length := by omega
   have hdx : xs.drop i = xs[i] :: xs.drop (i + 1) := List.drop_eq_getElem_cons hi'
   by_cases hy : (i : Int) ≥ ys.length
   ·rw [if_pos hy]
    have : ys.drop i = [] := by simp; omega
    rw [this, hdx]; rfl
   ·rw [if_neg hy, if_pos (by omega)]
    have hy' : i < ys.length := by omega
    have hdy : ys.drop i = ys[i] :: ys.drop (i + 1) := List.drop_eq_getElem_cons hy'
    have e1 : rd xs (i : Int) = xs[i] := by simp [rd, hi']
    have e2 : rd ys (i : Int) = ys[i] := by simp [rd, hy']
    rw [e1, e2, hdx, hdy]
    have hw : wrap64 ((i : Int) + 1) = ((i + 1 : Nat) : Int) := by unfold wrap64; omega
    simp only [cmp_Compare_int64.f, cmp_isNaN_int64.f, cmpR]
    have hih := ih (i + 1) (by omega) (by omega) (by omega)
    by_cases l1 : xs[i] < ys[i]
    ·simp [l1]
    ·by_cases l2 : ys[i] < xs[i]
     ·simp [l1, l2]
     ·simp [l1, l2, hw]
      exact hih
  ·rw [if_neg hi]
   have : i = xs.length := by omega
   subst this
   rw [List.drop_length]
   by_cases hl : (xs.length : Int) < ys.length
   ·rw [if_pos hl]
    have : ys.drop xs.length ≠ [] := by simp; omega
    cases hd : ys.drop xs.length with
    | nil => exact absurd hd this
    | cons a b => rfl
   ·rw [if_neg hl]
    rw [show ys.drop xs.length = [] from by simp; omega]
    rfl
theorem cmpR_self : ∀ a, cmpR a a = 0
 | [] => rfl
 | x :: xs => by simp [cmpR, cmpR_self xs]
theorem cmpR_trans : ∀ a b c, cmpR a b < 0 → cmpR b c < 0 → cmpR a c < 0
 | [], [], _ => by intro h; simp [cmpR] at h
 | [], _ :: _, [] => by intro _ h; simp [cmpR] at h
 | [], _ :: _, _ :: _ => by intro _ _; simp [cmpR]
 | _ :: _, [], _ => by intro h; simp [cmpR] at h
 | _ :: _, _ :: _, [] => by intro _ h; simp [cmpR] at h
 | x :: xs, y :: ys, z :: zs => by
  intro h1 h2
  have ih := cmpR_trans xs ys zs
  simp only [cmpR] at h1 h2 ⊢
  by_cases a1 : x < y <;> by_cases a2 : y < x <;> by_cases a3 : y < z <;> by_cases a4 : z < y <;> simp [a1, a2, a3, a4] at h1 h2 <;> by_cases a5 : x < z <;> by_cases a6 : z < x <;> simp [a5, a6] <;> first | omega | exact ih h1 h2
theorem cmpR_ntrans : ∀ a b c, 0 ≤ cmpR a b → 0 ≤ cmpR b c → 0 ≤ cmpR a c
 | [], [], [] => by intro _ _; simp [cmpR]
 | [], [], _ :: _ => by intro _ h; simp [cmpR] at h
 | [], _ :: _, _ => by intro h; simp [cmpR] at h
 | _ :: _, [], [] => by intro _ _; simp [cmpR]
 | _ :: _, [], _ :: _ => by intro _ h; simp [cmpR] at h
 | _ :: _, _ :: _, [] => by intro _ _; simp [cmpR]
 | x :: xs, y :: ys, z :: zs => by
  intro h1 h2
  have ih := cmpR_ntrans xs ys zs
  simp only [cmpR] at h1 h2 ⊢
  by_cases a1 : x < y <;> by_cases a2 : y < x <;> by_cases a3 : y < z <;> by_cases a4 : z < y <;> simp [a1, a2, a3, a4] at h1 h2 <;> by_cases a5 : x < z <;> by_cases a6 : z < x <;> simp [a5, a6] <;> first | omega | exact ih h1 h2
theorem cmpR_eq : ∀ a b, 0 ≤ cmpR a b → 0 ≤ cmpR b a → a = b
 | [], [] => fun _ _ => rfl
 | [], _ :: _ => by intro h; simp [cmpR] at h
 | _ :: _, [] => by intro _ h; simp [cmpR] at h
 | x :: xs, y :: ys => by
  intro h1 h2
  have ih := cmpR_eq xs ys
  simp only [cmpR] at h1 h2
  by_cases a1 : x < y <;> by_cases a2 : y < x <;> simp [a1, a2] at h1 h2
  rw [ih h1 h2, show x = y by omega]
def leR (x y : List Int) : Bool := !decide (cmpR y x < 0)
def sortS (n : Int) (out : List S33) : Option (List S33) :=
 if out.all (fun s => decide (s.f0 = n)) then some (((out.map (·.f1)).mergeSort leR).map (fun r => (⟨n, r⟩ : S33))) else none
/-! ### the elements of the sort -/
structure Elt (w : World) (g : Nat) where
 x : S33
 A : Option Addr
 c : Nat
 idx : Nat
 hc : x.f1.length ≤ c
 hC : (Kd.int .i64).C w A x.f1.length x.f1
 hb : ∀ ad, A = some ad → ad.block ≠ g
instance (w : World) (g : Nat) : Inhabited (Elt w g) := ⟨⟨z33, none, 0, 0, Nat.le_refl _, (Kd.R_reads' (Kd.R_nil (Kd.int .i64) 2 w 0 (fun _ => True))).2.2, fun _ h => by cases h⟩⟩
def encE {w : World} {g : Nat} (e : Elt w g) : List Value := [.int .i64 e.x.f0, .slice e.A e.x.f1.length e.c]
theorem swoE (w : World) (g : Nat) : Go.Sort.SWO (ltOf fun x y : Elt w g => cmpR x.x.f1 y.x.f1) where
 irrefl x := by simp [ltOf, cmpR_self]
 trans x y z h1 h2 := by simp [ltOf] at *; exact cmpR_trans _ _ _ h1 h2
 ntrans x y z h1 h2 := by simp [ltOf] at *; exact cmpR_ntrans _ _ _ h1 h2
theorem cell_sw {α : Type} [Inhabited α] {enc : α → List Value} {w : World} {g m : Nat} {dk : Array α} {os : Array Obj} {a : Addr} {u : Value} (h : w.cell? a = some u) (hb : a.block ≠ g) : (Go.Proofs.sortWorldK enc 2 w g 0 m dk os).cell? a = some u := by
 unfold Go.Proofs.sortWorldK
 have hlt : a.block < w.heap.size := by
  unfold World.cell? at h
  rcases Nat.lt_or_ge a.block w.heap.size with h1 | h1
  ·exact h1
  ·rw [Array.getElem?_eq_none h1] at h; cases h
 rw [Go.Sort.cell?_grow _ _ _ (by rw [Go.Sort.size_putRowK]; exact hlt), Go.Sort.cell?_putRowK_other _ _ _ _ _ _ _ hb]
 exact h
theorem add_block (ad : Addr) (k : Nat) : (ad.add k).block = ad.block := by unfold Addr.add; split <;> rfl
theorem cmpLaysE (w : World) (g size : Nat) : CmpLays Try.prog 131 #[] (encE (w := w) (g := g)) 2 (fun x y => cmpR x.x.f1 y.x.f1) g 0 size w := by
 intro m os dk hs x y
 have hR : ∀ e : Elt w g, (Kd.int .i64).C (Go.Proofs.sortWorldK encE 2 w g 0 m dk os) e.A e.x.f1.length e.x.f1 := by
  intro e
  obtain ⟨h1, h2, h3⟩ := e.hC
  refine ⟨h1, h2, fun hn => ?_⟩
  obtain ⟨ad, ha, hc⟩ := h3 hn
  refine ⟨ad, ha, fun j p hp => ?_⟩
  obtain ⟨c, hl, hr, hcc⟩ := hc j p hp
  exact ⟨c, hl, hr, fun i u hu => cell_sw (hcc i u hu) (by rw [add_block]; exact e.hb ad ha)⟩
 have hl : x.x.f1.length ≤ 9223372036854775807 := x.hC.2.1
 have hf : impl_spaces_1_1.f (x.x.f1.length + 1) x.x.f0 x.x.f1 y.x.f0 y.x.f1 = some (cmpR x.x.f1 y.x.f1) := by
  unfold impl_spaces_1_1.f slices_Compare_int64_int64.f
  have h := cmpR_f x.x.f1 y.x.f1 hl x.x.f1.length 0 (by omega) (by omega) (by omega)
  rw [show ((0 : Nat) : Int) = 0 from rfl] at h
  rw [h]; rfl
 refine (impl_spaces_1_1.lays _ x.x.f0 x.A x.c x.x.f1 y.x.f0 y.A y.c y.x.f1 _ _ (hR x) x.hc (hR y) y.hc hf).mono ?_
 rintro e w' ⟨he, ⟨q, os', hw⟩⟩
 exact ⟨he, q, os', hw⟩
section
open Go.Shelf Go.Lib
def sortMat_ren : Go.Shelf.Ren := ⟨fun | 6 => 130 | 15 => 149 | 14 => 148 | 28 => 161 | 29 => 162 | 20 => 153 | 21 => 154 | 22 => 155 | 23 => 156 | 24 => 157 | 25 => 158 | 26 => 159 | 27 => 160 | 46 => 165 | 47 => 166 | 48 => 167 | 49 => 168 | 50 => 169 | 57 => 170 | n => n, fun | 22 => 60 | 24 => 33 | 25 => 111 | 3 => 3 | 39 => 73 | 0 => 0 | 53 => 133 | 55 => 135 | 4 => 4 | 46 => 126 | 45 => 125 | 50 => 130 | 5 => 5 | 9 => 9 | 66 => 137 | 70 => 141 | 76 => 143 | 77 => 144 | n => n, fun | n => n⟩
theorem sortMat : Go.Proofs.SlLaysF0.n6 Try.prog sortMat_ren where
 mixed := by kernel_rfl
 f6 := ⟨ "slices.SortFunc[[]loop.example/g01144/impl.Matrix,loop.example/g01144/impl.Matrix]", by decide, Try.func130.trans (congrArg some (by kernel_rfl))⟩
 f14 := ⟨ "slices.pdqsortCmpFunc[loop.example/g01144/impl.Matrix]", by decide, Try.func148.trans (congrArg some (by kernel_rfl))⟩
 f15 := Try.func149.trans (congrArg some (by kernel_rfl))
 f20 := ⟨ "slices.insertionSortCmpFunc[loop.example/g01144/impl.Matrix]", by decide, Try.func153.trans (congrArg some (by kernel_rfl))⟩
 f21 := ⟨ "slices.heapSortCmpFunc[loop.example/g01144/impl.Matrix]", by decide, Try.func154.trans (congrArg some (by kernel_rfl))⟩
 f22 := ⟨ "slices.breakPatternsCmpFunc[loop.example/g01144/impl.Matrix]", by decide, Try.func155.trans (congrArg some (by kernel_rfl))⟩
 f23 := ⟨ "slices.choosePivotCmpFunc[loop.example/g01144/impl.Matrix]", by decide, Try.func156.trans (congrArg some (by kernel_rfl))⟩
 f24 := ⟨ "slices.reverseRangeCmpFunc[loop.example/g01144/impl.Matrix]", by decide, Try.func157.trans (congrArg some (by kernel_rfl))⟩
 f25 := ⟨ "slices.partialInsertionSortCmpFunc[loop.example/g01144/impl.Matrix]", by decide, Try.func158.trans (congrArg some (by kernel_rfl))⟩
 f26 := ⟨ "slices.partitionEqualCmpFunc[loop.example/g01144/impl.Matrix]", by decide, Try.func159.trans (congrArg some (by kernel_rfl))⟩
 f27 := ⟨ "slices.partitionCmpFunc[loop.example/g01144/impl.Matrix]", by decide, Try.func160.trans (congrArg some (by kernel_rfl))⟩
 f28 := Try.func161.trans (congrArg some (by kernel_rfl))
 f29 := Try.func162.trans (congrArg some (by kernel_rfl))
 f46 := ⟨ "slices.siftDownCmpFunc[loop.example/g01144/impl.Matrix]", by decide, Try.func165.trans (congrArg some (by kernel_rfl))⟩
 f47 := Try.func166.trans (congrArg some (by kernel_rfl))
 f48 := Try.func167.trans (congrArg some (by kernel_rfl))
 f49 := ⟨ "slices.medianAdjacentCmpFunc[loop.example/g01144/impl.Matrix]", by decide, Try.func168.trans (congrArg some (by kernel_rfl))⟩
 f50 := ⟨ "slices.medianCmpFunc[loop.example/g01144/impl.Matrix]", by decide, Try.func169.trans (congrArg some (by kernel_rfl))⟩
 f57 := ⟨ "slices.order2CmpFunc[loop.example/g01144/impl.Matrix]", by decide, Try.func170.trans (congrArg some (by kernel_rfl))⟩
 t0 := Try.underlying0
 a0 := Try.isAgg0
 z0 := Try.sizeOf0
 v0 := Try.zeroValue0
 t3 := Try.underlying3
 a3 := Try.isAgg3
 z3 := Try.sizeOf3
 v3 := Try.zeroValue3
 t4 := Try.underlying4
 a4 := Try.isAgg4
 z4 := Try.sizeOf4
 v4 := Try.zeroValue4
 t5 := Try.underlying5
 a5 := Try.isAgg5
 z5 := Try.sizeOf5
 v5 := Try.zeroValue5
 t9 := Try.underlying9
 a9 := Try.isAgg9
 z9 := Try.sizeOf9
 v9 := Try.zeroValue9
 t22 := Try.underlying60
 a22 := Try.isAgg60
 z22 := Try.sizeOf60
 v22 := Try.zeroValue60
 t25 := Try.underlying111
 a25 := Try.isAgg111
 z25 := Try.sizeOf111
 v25 := Try.zeroValue111
 t39 := Try.underlying73
 a39 := Try.isAgg73
 z39 := Try.sizeOf73
 v39 := Try.zeroValue73
 t45 := Try.underlying125
 a45 := Try.isAgg125
 z45 := Try.sizeOf125
 v45 := Try.zeroValue125
 t46 := Try.underlying126
 a46 := Try.isAgg126
 z46 := Try.sizeOf126
 v46 := Try.zeroValue126
 t50 := Try.underlying130
 a50 := Try.isAgg130
 z50 := Try.sizeOf130
 v50 := Try.zeroValue130
 t53 := Try.underlying133
 a53 := Try.isAgg133
 z53 := Try.sizeOf133
 v53 := Try.zeroValue133
 t55 := Try.underlying135
 a55 := Try.isAgg135
 z55 := Try.sizeOf135
 v55 := Try.zeroValue135
 t66 := Try.underlying137
 a66 := Try.isAgg137
 z66 := Try.sizeOf137
 v66 := Try.zeroValue137
 t70 := Try.underlying141
 a70 := Try.isAgg141
 z70 := Try.sizeOf141
 v70 := Try.zeroValue141
 t76 := Try.underlying143
 a76 := Try.isAgg143
 z76 := Try.sizeOf143
 v76 := Try.zeroValue143
 t77 := Try.underlying144
 a77 := Try.isAgg144
 z77 := Try.sizeOf144
 v77 := Try.zeroValue144
end
theorem agg33 (w : World) : (isAgg 33).run Try.prog w = .ok true w := by
 have h := Try.underlying33
 unfold isAgg
 go_simp
theorem size33 (w : World) : (Go.sizeOf 33).run Try.prog w = .ok 2 w := by
 have h := Try.underlying33
 unfold Go.sizeOf
 go_simp
 rfl
theorem exists_list {α : Type} (n : Nat) (P : Nat → α → Prop) (h : ∀ j, j < n → ∃ e, P j e) : ∃ ds : List α, ds.length = n ∧ ∀ j e, ds[j]? = some e → P j e := by
 refine ⟨List.ofFn (fun j : Fin n => (h j j.2).choose), by simp, fun j e he => ?_⟩
 rw [List.getElem?_ofFn] at he
 split at he
 ·injection he with he
  subst he
  rename_i hj
  exact (h j hj).choose_spec
 ·cases he
theorem flat_at {w : World} {g : Nat} (ds : List (Elt w g)) (j i : Nat) (e : Elt w g) (h : ds[j]? = some e) (hi : i < 2) : (Go.Sort.flatK encE 2 ds.toArray)[j * 2 + i]! = (encE e)[i]! := by
 have hj : j < ds.length := (List.getElem?_eq_some_iff.1 h).1
 rw [Go.Sort.get_flatK _ _ _ _ (by simp; omega)]
 rw [show (j * 2 + i) / 2 = j by omega, show (j * 2 + i) % 2 = i by omega]
 have : ds.toArray[j]! = e := by
  rw [getElem!_pos ds.toArray j (by simpa using hj)]
  simpa [List.getElem?_eq_getElem hj] using h
 rw [this]
theorem flat_seg {w : World} {g : Nat} (ds : List (Elt w g)) (j : Nat) (e : Elt w g) (h : ds[j]? = some e) : ((Go.Sort.flatK encE 2 ds.toArray).toList.drop (j * 2)).take 2 = encE e := by
 have hj : j < ds.length := (List.getElem?_eq_some_iff.1 h).1
 apply List.ext_getElem?
 intro i
 rw [List.getElem?_take]
 have hlen : (encE e).length = 2 := rfl
 split
 ·rename_i hi
  rw [List.getElem?_drop, Array.getElem?_toList, Array.getElem?_eq_getElem (by simp; omega)]
  have := flat_at ds j i e h hi
  rw [getElem!_pos _ _ (by simp; omega), getElem!_pos _ _ (by omega)] at this
  rw [this, List.getElem?_eq_getElem]
 ·rw [List.getElem?_eq_none (by omega)]
theorem heap_sw {w : World} {g m : Nat} (dk : Array (Elt w g)) (os : Array Obj) (k : Nat) (hk : k < w.heap.size) (hb : k ≠ g) : (Go.Proofs.sortWorldK encE 2 w g 0 m dk os).heap[k]? = w.heap[k]? := by
 unfold Go.Proofs.sortWorldK
 rw [Go.Sort.heap_grow_old _ _ (by rw [Go.Sort.size_putRowK]; exact hk)]
 unfold Go.Sort.putRowK Go.Sort.putRow Go.Sort.mapBlock
 simp only [Array.getElem?_modify, if_neg (Ne.symm hb)]
 rfl
theorem heap_sw_at {w : World} {g m : Nat} (dk : Array (Elt w g)) (os : Array Obj) {cur : Array Value} {t : TypeId} {fr : Nat × Nat} (h : w.heap[g]? = some (.cells cur t fr)) : (Go.Proofs.sortWorldK encE 2 w g 0 m dk os).heap[g]? = some (.cells (Go.Sort.putCells id 0 (Go.Sort.flatK encE 2 dk) cur) t fr) := by
 have hk : g < w.heap.size := (Array.getElem?_eq_some_iff.1 h).1
 unfold Go.Proofs.sortWorldK
 rw [Go.Sort.heap_grow_old _ _ (by rw [Go.Sort.size_putRowK]; exact hk)]
 unfold Go.Sort.putRowK Go.Sort.putRow Go.Sort.mapBlock
 simp only [Array.getElem?_modify, if_true]
 rw [show (Go.Sort.ahead w m).heap[g]? = some (.cells cur t fr) from h]
 rfl
theorem sw_os {w : World} {g m : Nat} (dk : Array (Elt w g)) (os : Array Obj) (b : Nat) (hb : b ≤ g) (hg : g < w.heap.size) : Below b w (Go.Proofs.sortWorldK encE 2 w g 0 m dk os) :=
 ⟨rfl, rfl, rfl, Go.Proofs.size_sortWorldK_c _ _ _ _ _ _ _ _, fun k hk => heap_sw dk os k (by omega) (by omega)⟩
set_option maxHeartbeats 1000000 in
theorem sort_calls {w : World} {base : Nat} {ok : Nat → Prop} {v : Value} {out res : List S33} {n : Int} (hS : Kd.S k33 33 w base ok v out) (hl : out.length < 4398046511104) (h : sortS n out = some res) :
  Calls Try.prog 130 #[v, .func (.func 131) #[] #[]] w fun e w' => e = .returned (.tuple #[]) ∧ Kd.S k33 33 w' base ok v res ∧ res.length = out.length ∧ Below base w w' ∧ (∀ k, k < w.heap.size → some k ≠ v.ownBlock → w'.heap[k]? = w.heap[k]?) := by
 unfold sortS at h
 split at h
 ·rename_i hall
  injection h with h
  have hf0 : ∀ s ∈ out, s.f0 = n := fun s hs => by simpa using (List.all_eq_true.1 hall) s hs
  obtain ⟨f, h0, inner, hown, hr⟩ := hS
  rw [List.length_zipIdx] at hown
  rcases hown.2 with ⟨hv, hlen0⟩ | ⟨g, cap, cur, hv, hg, hh, hnc, hcm, hcs, htk⟩
  ·have : out = [] := List.eq_nil_of_length_eq_zero hlen0
   subst this
   subst hv
   have hres : res = [] := by rw [← h]; simp
   subst hres
   have hcon := AnyF.slices_SortFunc_none sortMat none 0 (.func (.func 131) #[] #[]) w
   change Calls Try.prog 130 _ _ _ at hcon
   refine hcon.mono ?_
   rintro e w' ⟨he, rfl⟩
   exact ⟨he, Kd.S_nil _ _ _ _ _, rfl, Below.refl _ _, fun _ _ _ => rfl⟩
  ·subst hv
   have hgl : g < w.heap.size := (Array.getElem?_eq_some_iff.1 hh).1
   have hob : (Value.slice (some ⟨g, 0, none⟩) out.length cap).ownBlock = some g := rfl
   obtain ⟨ds, hds, hP⟩ := exists_list (α := Elt w g) out.length (fun j e => out[j]? = some e.x ∧ e.idx = j ∧ encE e = (inner.drop (j * 2)).take 2 ∧ k33.M w base (fun k => (ok k ∧ k ≠ g) ∧ f k = j) e.x (encE e)) (fun j hj => by
    have hM0 := hr.2 j (out[j], j) (Kd.zip_at (List.getElem?_eq_getElem hj))
    have hM : k33.M w base (fun k => (ok k ∧ k ≠ g) ∧ f k = j) out[j] ((inner.drop (j * 2)).take 2) := k33.M_mono (fun k hk => ⟨⟨hk.1.1, fun e => hk.1.2 (by rw [hob, e])⟩, hk.2⟩) hM0
    obtain ⟨v1, hseg, hR⟩ := k33_openM hM
    obtain ⟨A, c, rfl, hc, hC⟩ := Kd.R_reads hR
    refine ⟨⟨out[j], A, c, j, hc, hC, fun ad ha => ?_⟩, List.getElem?_eq_getElem hj, rfl, hseg.symm, ?_⟩
    ·subst ha
     exact (hR.1 ad.block rfl).1.2
    ·rw [hseg] at hM; exact hM)
   have hH : Go.Sort.HoldsK encE 2 w g 0 ds.toArray := by
    intro t ht
    rw [Go.Sort.size_flatK] at ht
    have ht2 : t < out.length * 2 := by simpa [hds] using ht
    have hj : t / 2 < ds.length := by omega
    have hp := hP (t / 2) ds[t / 2] (List.getElem?_eq_getElem hj)
    have hfl := flat_at ds (t / 2) (t % 2) ds[t / 2] (List.getElem?_eq_getElem hj) (Nat.mod_lt _ (by decide))
    rw [show t / 2 * 2 + t % 2 = t by omega] at hfl
    rw [hfl]
    have hil : inner.length = out.length * 2 := hown.1
    have hin : inner[t]? = some ((encE ds[t / 2])[t % 2]!) := by
     have he2 : (encE ds[t / 2])[t % 2]? = inner[t]? := by
      rw [hp.2.2.1, List.getElem?_take, if_pos (Nat.mod_lt _ (by decide)), List.getElem?_drop, show t / 2 * 2 + t % 2 = t by omega]
     rw [← he2, getElem!_pos (encE ds[t / 2]) (t % 2) (show t % 2 < (encE ds[t / 2]).length from Nat.mod_lt _ (by decide)), List.getElem?_eq_getElem]
    have hc := hown.cells (g := g) hob t _ hin
    rw [add_plain] at hc
    refine ⟨by rw [Nat.zero_add]; exact hc, ?_⟩
    have := blk_frozen hh (0 + t)
    exact this
   have eg : ∀ args w, (callFunc 131 args).run Try.prog w = .ok (.enter 131 args) w := enters_of Try.func131 (by kernel_rfl) rfl
   have hsz : ds.toArray.size = out.length := by simp [hds]
   have hcon := AnyQ.slices_SortFunc sortMat 2 agg33 size33 encE (fun _ => rfl) (fun x v hv => by simp [encE] at hv; rcases hv with rfl | rfl <;> rfl) (fun x y => cmpR x.x.f1 y.x.f1) (swoE w g) 131 #[] g 0 cap ds.toArray w eg (cmpLaysE w g _) hH hgl (by omega)
   change Calls Try.prog 130 _ _ _ at hcon
   rw [hsz] at hcon
   refine hcon.mono ?_
   rintro e w' ⟨he, d', m, os, hp, hs, rfl⟩
   have hsz2 : d'.size = out.length := by rw [hp.1, hsz]
   obtain ⟨dl, rfl⟩ : ∃ dl : List (Elt w g), d' = dl.toArray := ⟨d'.toList, rfl⟩
   have hdl : dl.length = out.length := by simpa using hsz2
   have hperm : dl.Perm ds := by
    have h3 := hp.2.2
    rw [show dl.toArray.extract 0 out.length = dl.toArray from Array.extract_eq_self_of_le (by simp [hdl]), show ds.toArray.extract 0 out.length = ds.toArray from Array.extract_eq_self_of_le (by simp [hds])] at h3
    exact h3
   have hx : ds.map (·.x) = out := by
    apply List.ext_getElem?
    intro j
    rw [List.getElem?_map]
    rcases Nat.lt_or_ge j ds.length with hj | hj
    ·rw [List.getElem?_eq_getElem hj]
     exact ((hP j _ (List.getElem?_eq_getElem hj)).1).symm
    ·rw [List.getElem?_eq_none hj, List.getElem?_eq_none (by omega)]; rfl
   have hsorted : (dl.map (·.x.f1)).Pairwise (fun a b => leR a b = true) := by
    rw [List.pairwise_map, List.pairwise_iff_getElem]
    intro i j hi hj hij
    have h4 := hs i j (Nat.zero_le _) hij (by omega)
    rw [getElem!_pos dl.toArray i (by simpa using hi), getElem!_pos dl.toArray j (by simpa using hj)] at h4
    simp only [ltOf, List.getElem_toArray] at h4
    simp only [leR, h4]
    rfl
   have hleT : ∀ a b c : List Int, leR a b = true → leR b c = true → leR a c = true := by
    intro a b c h1 h2
    simp only [leR, Bool.not_eq_true', decide_eq_false_iff_not, Int.not_lt] at *
    exact cmpR_ntrans _ _ _ h2 h1
   have hleA : ∀ a b : List Int, (leR a b || leR b a) = true := by
    intro a b
    by_cases h1 : cmpR b a < 0
    ·have : ¬ cmpR a b < 0 := fun h2 => by have := cmpR_trans _ _ _ h1 h2; rw [cmpR_self] at this; omega
     simp [leR, this]
    ·simp [leR, h1]
   have hrows : dl.map (·.x.f1) = (out.map (·.f1)).mergeSort leR := by
    refine List.Perm.eq_of_pairwise (le := fun a b => leR a b = true) ?_ hsorted (List.pairwise_mergeSort hleT hleA _) ?_
    ·intro a b _ _ h1 h2
     simp only [leR, Bool.not_eq_true', decide_eq_false_iff_not, Int.not_lt] at h1 h2
     exact cmpR_eq _ _ h2 h1
    ·refine List.Perm.trans ?_ (List.mergeSort_perm _ _).symm
     rw [← hx, List.map_map]
     exact hperm.map _
   have hres : res = dl.map (·.x) := by
    rw [← h, ← hrows, List.map_map]
    refine List.map_congr_left fun e he => ?_
    have hm : e.x ∈ out := by rw [← hx]; exact List.mem_map_of_mem (hperm.mem_iff.1 he)
    have := hf0 _ hm
    show (⟨n, e.x.f1⟩ : S33) = e.x
    rw [← this]
   have hmem : ∀ (j : Nat) (e : Elt w g), dl[j]? = some e → k33.M w base (fun k => (ok k ∧ k ≠ g) ∧ f k = e.idx) e.x (encE e) ∧ ds[e.idx]? = some e := by
    intro j e he
    have h5 : e ∈ ds := hperm.mem_iff.1 (List.mem_of_getElem? he)
    obtain ⟨i, hi⟩ := List.getElem?_of_mem h5
    have h6 := hP i e hi
    rw [h6.2.1]
    exact ⟨h6.2.2.2, hi⟩
   have hnod : ∀ (i j : Nat) (a b : Elt w g), dl[i]? = some a → dl[j]? = some b → a.idx = b.idx → i = j := by
    have hn : (dl.map (·.idx)).Nodup := by
     refine ((hperm.map (·.idx)).nodup_iff).2 ?_
     have : ds.map (·.idx) = List.range out.length := by
      apply List.ext_getElem?
      intro j
      rw [List.getElem?_map]
      rcases Nat.lt_or_ge j ds.length with hj | hj
      ·rw [List.getElem?_eq_getElem hj, List.getElem?_range (by omega)]
       exact congrArg some (hP j _ (List.getElem?_eq_getElem hj)).2.1
      ·rw [List.getElem?_eq_none hj, List.getElem?_eq_none (by simp; omega)]; rfl
     rw [this]
     exact List.nodup_range
    intro i j a b ha hb hab
    have hi := (List.getElem?_eq_some_iff.1 ha)
    have hj := (List.getElem?_eq_some_iff.1 hb)
    obtain ⟨hi, rfl⟩ := hi
    obtain ⟨hj, rfl⟩ := hj
    have hpw := List.pairwise_iff_getElem.1 hn
    rcases Nat.lt_trichotomy i j with h8 | h8 | h8
    ·exact absurd (by rw [List.getElem_map, List.getElem_map]; exact hab) (hpw i j (by simpa using hi) (by simpa using hj) h8)
    ·exact h8
    ·exact absurd (by rw [List.getElem_map, List.getElem_map]; exact hab.symm) (hpw j i (by simpa using hj) (by simpa using hi) h8)
   have hheap := heap_sw_at (m := m) dl.toArray os hh
   have hcur : (Go.Sort.putCells id 0 (Go.Sort.flatK encE 2 dl.toArray) cur).toList.take (out.length * 2) = (Go.Sort.flatK encE 2 dl.toArray).toList := by
    apply List.ext_getElem?
    intro t
    rw [List.getElem?_take, Array.getElem?_toList, Array.getElem?_toList]
    by_cases ht : t < out.length * 2
    ·rw [if_pos ht, Array.getElem?_eq_getElem (by simp [Go.Sort.putCells, hcs]; exact Nat.lt_of_lt_of_le ht (Nat.mul_le_mul_right 2 hnc)), Array.getElem?_eq_getElem (by simp [hdl]; omega)]
     simp only [Go.Sort.putCells, Array.getElem_mapIdx]
     rw [if_pos ⟨Nat.zero_le _, by simp [hdl]; omega⟩, Nat.sub_zero, getElem!_pos _ _ (by simp [hdl]; omega)]
     rfl
    ·rw [if_neg ht, Array.getElem?_eq_none (by simp [hdl]; omega)]
   have hMw : ∀ (j : Nat) (e : Elt w g), dl[j]? = some e → k33.M (Go.Proofs.sortWorldK encE 2 w g 0 m dl.toArray os) base (fun k => (ok k ∧ k ≠ g) ∧ f k = e.idx) e.x (encE e) := by
    intro j e he
    have h7 := k33.M_bound (hmem j e he).1
    refine k33.M_mono (fun k hk => hk.1) (k33.M_move (fun k hk => ?_) h7)
    exact heap_sw dl.toArray os k hk.2.2.1 hk.1.1.2
   obtain ⟨f', hf'⟩ := Kd.reps_tag (d := k33) (w := Go.Proofs.sortWorldK encE 2 w g 0 m dl.toArray os) (base := base) (ok := fun k => ok k ∧ some k ≠ (Value.slice (some ⟨g, 0, none⟩) out.length cap).ownBlock) (xs := res) (inner := (Go.Sort.flatK encE 2 dl.toArray).toList) (fun j k => (ok k ∧ k ≠ g) ∧ ∃ e, dl[j]? = some e ∧ f k = e.idx)
    (fun i j k h1 h2 => by
     obtain ⟨_, a, ha, ha2⟩ := h1
     obtain ⟨_, b, hb, hb2⟩ := h2
     exact hnod i j a b ha hb (by rw [← ha2, ← hb2]))
    (fun j k hk => ⟨hk.1.1, fun e => hk.1.2 (by injection e)⟩)
    (by rw [hres]; show _ = _ * 2; simp)
    (fun j x hx2 => by
     rw [hres, List.getElem?_map] at hx2
     obtain ⟨e, he2, rfl⟩ := Option.map_eq_some_iff.1 hx2
     rw [show (k33.sz) = 2 from rfl, flat_seg dl j e he2]
     exact k33.M_mono (fun k hk => ⟨hk.1, e, he2, hk.2⟩) (hMw j e he2))
   have hrl : res.length = out.length := by rw [hres]; simp [hdl]
   refine ⟨he, ⟨f', h0, (Go.Sort.flatK encE 2 dl.toArray).toList, ?_, hf'⟩, hrl, sw_os _ _ _ hg hgl, fun k hk hne => heap_sw _ _ k hk (fun e => hne (by rw [hob, e]))⟩
   rw [List.length_zipIdx, hrl]
   refine ⟨by show _ = _ * 2; simp [hdl], .inr ⟨g, cap, _, rfl, hg, hheap, hnc, hcm, ?_, hcur⟩⟩
   show _ = _ * 2
   simp only [Go.Sort.putCells, Array.size_mapIdx]
   exact hcs
 ·cases h
theorem inOrder_calls {w : World} {base qo : Nat} {v : Value} {out res : List S33} {n : Int} (hgo : w.heap[qo]? = some (.cells #[v] 60 (0, 0))) (hS : Kd.S k33 33 w base (fun k => base ≤ k) v out) (hl : out.length < 4398046511104) (h : sortS n out = some res) :
  Calls Try.prog 129 #[.pointer (some ⟨qo, 0, none⟩)] w fun e w' => ∃ v', e = .returned v' ∧ Kd.S k33 33 w' base (fun k => base ≤ k) v' res ∧ Below base w w' := by
 have HGO := Aside0.mk hgo
 have HS := Aside0.mk hS
 have HL := Aside0.mk hl
 have HH := Aside0.mk h
 have hcz : w.cell? ⟨qo, 0, none⟩ = some v := (blk_cell HGO.out 0).trans rfl
 have hfz := blk_frozen HGO.out 0
 obtain ⟨Ao, co, rfl⟩ := Kd.S_slice hS
 clear hgo hS hl h
 go_enter Try.func129, Try.ntmps129
 go_wp2_with (first | ((with_reducible refine gate_callee (f := 130) rfl ?_); refine goesL_ (some 3) rfl rfl Try.func130 (by kernel_rfl) rfl #[.slice Ao out.length co, .func (.func 131) #[] #[]] rfl (by (try simp only [List.map_toArray, List.map_cons, List.map_nil]); first | done | rfl) ?_; (with_reducible refine (sort_calls HS.out HL.out HH.out).mono ?_); rintro e w2 ⟨rfl, hs2, hl2, hb2, hk2⟩; refine ⟨_, rfl, ?_⟩; have HS2 := Aside0.mk hs2; have HB2 := Aside0.mk hb2; have HGO2 := Aside0.mk ((hk2 qo (blk_lt HGO.out) (Kd.S_ne HS.out HGO.out (by decide))).trans HGO.out); clear hs2 hb2 hk2 hl2; have hcz2 : w2.cell? ⟨qo, 0, none⟩ = some (.slice Ao out.length co) := (blk_cell HGO2.out 0).trans rfl; have hfz2 := blk_frozen HGO2.out 0))
 go_ret
 exact ⟨_, rfl, HS2.out, HB2.out⟩
end Go.Proofs.Ytaopplbahakpgaa.PFnExactGreedySpaces
