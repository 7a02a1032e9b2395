-- Written by this session's driver wip/tools/myprint.py over the kit's print, out of Lean's print of the translation, with own texts for what the print does not take. Lean checks it.
import Derived.Test.YtaopplbahakpgaaPFnExactGreedySpacesx0
namespace Go.Proofs.Ytaopplbahakpgaa.PFnExactGreedySpaces
open Go.RowKit Go.Proofs.YtaopplbahakpgaaW.PrintWords Go.Proofs.YtaopplbahakpgaaW.PrintLast Go.Proofs.YtaopplbahakpgaaW.PrintMore
attribute [local go_sem] max2_int min2_int max_two min_two max_three min_three max_four min_four   -- for this text's walks alone
set_option linter.unusedVariables false
set_option linter.unusedSimpArgs false
/-! ### what slices.IndexFunc and slices.ContainsFunc do, whatever the literal -/
def idxF {α : Type} (p : α → Option Bool) : List α → Int → Option Int
 | [], _ => some (-1)
 | y :: l, i => (p y).bind fun b => if b = true then some i else idxF p l (i + 1)
def idxO {α : Type} (p : α → Option Bool) (l : List α) : Option Int := idxF p l 0
def anyO {α : Type} (p : α → Option Bool) (l : List α) : Option Bool := (idxF p l 0).bind fun i => some (decide (0 ≤ i))
theorem idxF_some {α : Type} (p : α → Option Bool) (f : α → Bool) : ∀ (l : List α) (i : Int), (∀ x ∈ l, p x = some (f x)) → ∃ r, idxF p l i = some r ∧ ((l.any f = true ∧ i ≤ r) ∨ (l.any f = false ∧ r = -1))
 | [], i, _ => ⟨-1, rfl, Or.inr ⟨rfl, rfl⟩⟩
 | y :: l, i, h => by
  rw [idxF, h y (List.mem_cons_self), Option.bind_some]
  by_cases hy : f y = true
  ·exact ⟨i, by rw [if_pos hy], Or.inl ⟨by simp [hy], Int.le_refl _⟩⟩
  ·obtain ⟨r, h1, h2⟩ := idxF_some p f l (i + 1) (fun x hx => h x (List.mem_cons_of_mem _ hx))
   refine ⟨r, by rw [if_neg hy]; exact h1, ?_⟩
   rcases h2 with ⟨h2, h3⟩ | ⟨h2, h3⟩
   ·exact Or.inl ⟨by simp [h2], by omega⟩
   ·exact Or.inr ⟨by simp [h2, hy], h3⟩
theorem anyO_some {α : Type} (p : α → Option Bool) (f : α → Bool) (l : List α) (h : ∀ x ∈ l, p x = some (f x)) : anyO p l = some (l.any f) := by
 obtain ⟨r, h1, h2⟩ := idxF_some p f l 0 h
 unfold anyO
 rw [h1, Option.bind_some]
 rcases h2 with ⟨h2, h3⟩ | ⟨h2, rfl⟩
 ·rw [h2, decide_eq_true h3]
 ·rw [h2]; rfl
theorem row_at {α : Type} {d : Kd α} (hs : d.sz = 1) {W : World} {A : Option Addr} {l : List α} (h : d.C W A l.length l) (x : Int) (h0 : 0 ≤ x) (h1 : x < (l.length : Int)) :
  ∃ ad v y, A = some ad ∧ W.cell? (ad.add x.toNat) = some v ∧ d.K W y [v] ∧ l.drop x.toNat = y :: l.drop (x + 1).toNat := by
 obtain ⟨ad, e, hc⟩ := h.2.2 (by omega)
 have hl : x.toNat < l.length := by omega
 obtain ⟨c, hsz, hr, hcell⟩ := hc x.toNat l[x.toNat] (List.getElem?_eq_getElem hl)
 rw [hs] at hsz hcell
 match c, hsz with
 | [v], _ =>
  refine ⟨ad, v, l[x.toNat], e, ?_, hr, ?_⟩
  ·have := hcell 0 v rfl
   simpa using this
  ·rw [List.drop_eq_getElem_cons hl, show (x + 1).toNat = x.toNat + 1 by omega]
set_option maxHeartbeats 2000000 in
set_option maxRecDepth 100000 in
theorem slices_IndexFunc_int64_int64.own (p : Int → Option Bool) (g : Nat) (lb : Array Value) (eg0 : Enters Try.prog g) (A0 : Option Addr) (c0 : Nat) (l0 : List (Int)) (r : Int) (w : World)
  (hp : ∀ (W : World) (x : Int) (v : Value) (q : Bool), Below w.heap.size w W → Kd.K (Kd.int .i64) W x [v] → p x = some q → Calls Try.prog g (#[v] ++ lb) W fun e w' => e = .returned (.bool q) ∧ Below W.heap.size W w')
  (hr0 : Kd.C (Kd.int .i64) w A0 l0.length l0) (hc0 : l0.length ≤ c0) (h : idxO p l0 = some r) :
  Calls Try.prog 143 #[.slice A0 l0.length c0, .func (.func g) #[] lb] w fun e w' => e = .returned (.int .i64 r) ∧ Below w.heap.size w w' := by
 have eg : ∀ args w, (callFunc g args).run Try.prog w = .ok (.enter g args) w := eg0
 have HR0 := Aside0.mk hr0
 have HP := Aside0.mk hp
 have H := Aside0.mk h
 have hbig : (l0.length : Int) ≤ 9223372036854775807 := by have := hr0.2.1; omega
 clear hr0 hp hc0 h
 go_enter Try.func143, Try.ntmps143
 go_wp2
 go_loopg [5, 8] l0.length (fun gg _ v8 wr => ∃ x : Int, v8 = .int .i64 x ∧ Aside0 (0 ≤ x ∧ x ≤ (l0.length : Int) ∧ (l0.length : Int) - x ≤ gg) ∧ Aside0 (Below w.heap.size w wr) ∧ Aside0 (idxF p (l0.drop x.toNat) x = some r))
 case atStart => exact ⟨0, rfl, ⟨by omega, by omega, by omega⟩, ⟨Below.refl _ w⟩, H⟩
 case round =>
  clear H
  obtain ⟨x, rfl, HX, HB, HM⟩ := hrel
  by_cases hlt : x < (l0.length : Int)
  ·have hlt0 : decide (x < (l0.length : Int)) = true := decide_eq_true hlt
   have hw1 : wrap64 (x + 1) = x + 1 := by have := HX.out; unfold wrap64; omega
   obtain ⟨ad, v, y, ead, hcell, hK, hdrop⟩ := row_at rfl (Kd.C_below HR0.out HB.out) x HX.out.1 hlt
   cases ead
   have hM := HM.out
   rw [hdrop, idxF] at hM
   obtain ⟨q, hq, hM⟩ := Option.bind_eq_some_iff.1 hM
   have hcall := HP.out wr y v q HB.out hK hq
   have hc0 : decide (0 ≤ x) = true := decide_eq_true HX.out.1
   have hc1 := eq_true HX.out.1
   have hc2 := eq_true hlt
   clear HM hK hq hdrop hlt
   cases q with
   | true =>
    rw [if_pos rfl] at hM
    obtain rfl := Option.some.inj hM
    clear hM
    go_wp2_with (go_at_fn g; refine hcall.mono ?_; rintro e w' ⟨rfl, hb⟩)
    go_ret
    exact ⟨by first | rfl | simp, below_step HB.out hb⟩
   | false =>
    rw [if_neg (by simp)] at hM
    have HM := Aside0.mk hM
    have HW := Aside0.mk hw1
    clear hM hw1
    go_wp2_with (go_at_fn g; refine hcall.mono ?_; rintro e w' ⟨rfl, hb⟩)
    go_roundg (gk - 1)
    case measure => have := HX.out; have := of_decide_eq_true hlt0; omega
    case rel =>
     refine ⟨x + 1, ?_, ⟨by have := HX.out; omega, by have := of_decide_eq_true hlt0; omega, by have := HX.out; have := of_decide_eq_true hlt0; omega⟩, ⟨below_step HB.out hb⟩, HM⟩
     first | rfl | rw [HW.out] | simp [HW.out]
  ·have hlt0 : decide (x < (l0.length : Int)) = false := decide_eq_false hlt
   have hM := HM.out
   have hx := HX.out
   rw [List.drop_eq_nil_of_le (by omega), idxF] at hM
   obtain rfl := Option.some.inj hM
   clear hlt HM hM hx
   go_wp2
   go_ret
   exact ⟨by first | rfl | simp, HB.out⟩
def impl_echelon_1.f (a0 : Int) (a1_0 : Int) : Option (Bool) := if 0 ≤ a1_0 then (some ((Go.bits .and .i64 (shr .i64 a0 a1_0) 1) == 1)) else (none)
set_option maxHeartbeats 8000000 in
set_option maxRecDepth 100000 in
theorem impl_echelon_1.calls (a0 : Int) (g1 : Nat) (a1_0 : Int) (r : Bool) (w : World) (hb1 : w.heap[g1]? = some (.cells #[.int .i64 a1_0] 3 (0, 0))) (h : impl_echelon_1.f a0 a1_0 = some r) :
  Calls Try.prog 144 #[.int .i64 a0, .pointer (some ⟨g1, 0, none⟩)] w fun e w' => e = .returned (.bool r) ∧ Below w.heap.size w w' := by
 have BK1 := Aside0.mk hb1
 clear hb1
 have HB := Aside0.mk (Below.refl w.heap.size w)
 have H : (if 0 ≤ a1_0 then (some ((Go.bits .and .i64 (shr .i64 a0 a1_0) 1) == 1)) else (none)) = some r := h
 clear h
 by_cases c3 : 0 ≤ a1_0
 ·rw [if_pos c3] at H
  have c3b0 := eq_true c3
  have c3b1 : decide (0 ≤ a1_0) = true := decide_eq_true c3
  clear c3
  obtain ⟨ji4, hji4⟩ : ∃ j_ : Int, (shr .i64 a0 a1_0) = j_ := ⟨_, rfl⟩
  replace H : (some ((Go.bits .and .i64 (ji4) 1) == 1)) = some r := by first | (rw [hji4] at H; exact H) | (simp only [hji4] at H ⊢; exact H)
  have hji4_ : (a0 / 2 ^ min a1_0.toNat 64) = ji4 := hji4
  have hji4z : a1_0 ≤ 64 → (a0 / 2 ^ a1_0.toNat) = ji4 := shr_small hji4
  obtain rfl := Option.some.inj H
  have hcz5_0 : w.cell? ⟨g1, 0, none⟩ = some (.int .i64 a1_0) := (blk_cell BK1.out 0).trans rfl
  have hfz5_0 := blk_frozen BK1.out 0
  go_enter Try.func144, Try.ntmps144
  go_wp2
  go_ret
  exact ⟨by first | rfl | (simp [errW_none, errW_some] <;> rfl) | (simp only [← hji4]; first | rfl | (simp [errW_none, errW_some] <;> rfl)) | (simp [*, errW_none, errW_some] <;> rfl), by repeat (first | (with_reducible first | exact HB.out | apply below_alloc | apply pw_below_drewN | apply below_drew1 | refine below_set ?_ GE1.out) | exact HB.out)⟩
 ·rw [if_neg c3] at H
  exact absurd H (by simp)
end Go.Proofs.Ytaopplbahakpgaa.PFnExactGreedySpaces
