/- GreedySpaces of the program and of the reference agree for all three int64: both list the same spaces, both distances are told by the rank of the rows together, and both loops take the same ones; and the list answers the law's marks. -/
import Derived.Test.YtaopplbahakpgaaPureFnExactGreedySpacesc
namespace Go.Proofs.Ytaopplbahakpgaa.PureFnExactGreedySpaces
open Go.RowKit Go.Proofs.Ytaopplbahakpgaa.PFnExactGreedySpaces Go.Proofs.YtaopplbahakpgaaW.PrintWords Go.Proofs.YtaopplbahakpgaaW.PrintLast Go.Proofs.YtaopplbahakpgaaW.PrintMore
set_option linter.unusedVariables false
set_option linter.unusedSimpArgs false
theorem rd_set_self (l : List Int) (i x : Int) (h0 : 0 ≤ i) (h1 : i < (l.length : Int)) : rd (l.set i.toNat x) i = x := by
 unfold rd
 rw [List.getD_eq_getElem?_getD, List.getElem?_set_self (by omega)]; rfl
theorem rd_set_ne (l : List Int) (i t x : Int) (h0 : 0 ≤ i) (h1 : 0 ≤ t) (h : t ≠ i) : rd (l.set i.toNat x) t = rd l t := by
 unfold rd
 rw [List.getD_eq_getElem?_getD, List.getD_eq_getElem?_getD, List.getElem?_set_ne (by omega)]
theorem mark_l : ∀ (d : Nat) (l : List Int) (i x : Int) (k : Nat), 0 ≤ i → i + d = (l.length : Int) → 0 ≤ x → x + d ≤ 1099511627776 → i + d ≤ 1099511627776 → d < k →
  ∃ l', laws_markInt64S.l0 k l x i = some (x + d, l') ∧ l'.length = l.length ∧ (∀ t, 0 ≤ t → t < i → rd l' t = rd l t) ∧ ∀ t, i ≤ t → t < (l.length : Int) → rd l' t = x + (t - i) := by
 intro d
 induction d with
 | zero =>
  intro l i x k hi hd hx hx2 hi2 hk
  obtain ⟨k, rfl⟩ : ∃ m, k = m + 1 := ⟨k - 1, by omega⟩
  simp only [laws_markInt64S.l0]
  rw [if_neg (by omega)]
  exact ⟨l, by simp, rfl, fun _ _ _ => rfl, fun t h1 h2 => by omega⟩
 | succ d ih =>
  intro l i x k hi hd hx hx2 hi2 hk
  obtain ⟨k, rfl⟩ : ∃ m, k = m + 1 := ⟨k - 1, by omega⟩
  simp only [laws_markInt64S.l0]
  rw [if_pos (by omega), if_pos hi, w64 (x := x + 1) (by omega) (by omega), w64 (x := i + 1) (by omega) (by omega)]
  obtain ⟨l', e, hl, h1, h2⟩ := ih (l.set i.toNat x) (i + 1) (x + 1) k (by omega) (by simp; omega) (by omega) (by omega) (by omega) (by omega)
  refine ⟨l', by rw [e]; congr 2; omega, by simpa using hl, ?_, ?_⟩
  ·intro t h0 ht
   rw [h1 t h0 (by omega), rd_set_ne l i t x hi h0 (by omega)]
  ·intro t h0 ht
   by_cases e : t = i
   ·rw [e, h1 i hi (by omega), rd_set_self l i x hi (by omega)]; omega
   ·rw [h2 t (by omega) (by simpa using ht)]; omega
theorem held_l : ∀ (d : Nat) (l : List Int) (i x : Int) (k : Nat), 0 ≤ i → i + d = (l.length : Int) → 0 ≤ x → x + d ≤ 1099511627776 → i + d ≤ 1099511627776 → d < k → (∀ t, i ≤ t → t < (l.length : Int) → rd l t = x + (t - i)) →
  laws_heldInt64S.l0 k l x i = some (x + d) := by
 intro d
 induction d with
 | zero =>
  intro l i x k hi hd hx hx2 hi2 hk h
  obtain ⟨k, rfl⟩ : ∃ m, k = m + 1 := ⟨k - 1, by omega⟩
  simp only [laws_heldInt64S.l0]
  rw [if_neg (by omega)]; simp
 | succ d ih =>
  intro l i x k hi hd hx hx2 hi2 hk h
  obtain ⟨k, rfl⟩ : ∃ m, k = m + 1 := ⟨k - 1, by omega⟩
  simp only [laws_heldInt64S.l0]
  rw [if_pos (by omega), if_pos hi, if_pos (by rw [h i (by omega) (by omega)]; omega), w64 (x := x + 1) (by omega) (by omega), w64 (x := i + 1) (by omega) (by omega),
   ih l (i + 1) (x + 1) k (by omega) (by omega) (by omega) (by omega) (by omega) (by omega) (fun t h0 ht => by rw [h t (by omega) ht]; omega)]
  congr 1; omega
theorem markS : ∀ (d : Nat) (xs : List S33) (i : Nat) (m : Int) (K : Nat), i + d = xs.length → xs.length ≤ 1000 → (∀ s ∈ xs, s.f1.length ≤ 10) → 0 ≤ m → m + 11 * d ≤ 1000000 → d + 20 < K →
  ∃ (m2 : Int) (xs2 : List S33), markMS.l K xs (i : Int) m = some (m2, xs2) ∧ xs2.length = xs.length ∧ (∀ t, t < i → xs2.getD t z33 = xs.getD t z33) ∧ m ≤ m2 ∧ ∀ K', d + 20 < K' → laws_heldMatrixS.l0 K' xs2 m (i : Int) = some m2 := by
 intro d
 induction d with
 | zero =>
  intro xs i m K hi hx hr hm hm2 hK
  obtain ⟨K, rfl⟩ : ∃ j, K = j + 1 := ⟨K - 1, by omega⟩
  refine ⟨m, xs, ?_, rfl, fun _ _ => rfl, Int.le_refl _, fun K' hK' => ?_⟩
  ·rw [markMS.l, if_neg (by omega)]
  ·obtain ⟨K', rfl⟩ : ∃ j, K' = j + 1 := ⟨K' - 1, by omega⟩
   rw [laws_heldMatrixS.l0, if_neg (by omega)]
 | succ d ih =>
  intro xs i m K hi hx hr hm hm2 hK
  obtain ⟨K, rfl⟩ : ∃ j, K = j + 1 := ⟨K - 1, by omega⟩
  have hil : i < xs.length := by omega
  have hrd : rd_T33 xs (i : Int) = xs[i] := by
   unfold rd_T33
   rw [Int.toNat_natCast, List.getD_eq_getElem?_getD, List.getElem?_eq_getElem hil]; rfl
  have hlen := hr xs[i] (List.getElem_mem hil)
  obtain ⟨r, e, rl, _, hmk⟩ := mark_l xs[i].f1.length xs[i].f1 0 (m + 1) K (by omega) (by omega) (by omega) (by omega) (by omega) (by omega)
  obtain ⟨m2, xs2, f1, f2, f3, f4, f5⟩ := ih (xs.set i ⟨m, r⟩) (i + 1) (m + 1 + (xs[i].f1.length : Int)) K (by simp; omega) (by simpa using hx) (fun s hs => by
   rcases List.mem_or_eq_of_mem_set hs with hs | rfl
   ·exact hr s hs
   ·show r.length ≤ 10
    omega) (by omega) (by omega) (by omega)
  refine ⟨m2, xs2, ?_, by rw [f2]; simp, fun t ht => ?_, by omega, fun K' hK' => ?_⟩
  ·rw [markMS.l, if_pos (by omega), if_pos (by omega), hrd, w64 (x := m + 1) (by omega) (by omega)]
   unfold laws_markInt64S.f
   rw [e, Option.bind_some]
   dsimp only
   rw [Int.toNat_natCast, w64 (x := (i : Int) + 1) (by omega) (by omega), show (i : Int) + 1 = ((i + 1 : Nat) : Int) by omega]
   exact f1
  ·rw [f3 t (by omega), List.getD_eq_getElem?_getD, List.getD_eq_getElem?_getD, List.getElem?_set_ne (by omega)]
  ·obtain ⟨K', rfl⟩ : ∃ j, K' = j + 1 := ⟨K' - 1, by omega⟩
   have h2 : rd_T33 xs2 (i : Int) = ⟨m, r⟩ := by
    unfold rd_T33
    rw [Int.toNat_natCast, f3 i (by omega), List.getD_eq_getElem?_getD, List.getElem?_set_self hil]; rfl
   rw [laws_heldMatrixS.l0, f2, List.length_set, if_pos (by omega), if_pos (by omega), h2, if_pos rfl, w64 (x := m + 1) (by omega) (by omega)]
   unfold laws_heldInt64S.f
   rw [held_l xs[i].f1.length r 0 (m + 1) K' (by omega) (by omega) (by omega) (by omega) (by omega) (by omega) (fun t h0 ht => hmk t h0 (by omega)), Option.bind_some, if_neg (by omega), w64 (x := (i : Int) + 1) (by omega) (by omega), show (i : Int) + 1 = ((i + 1 : Nat) : Int) by omega]
   exact f5 K' (by omega)
theorem eqS (xs : List S33) (hx : xs.length ≤ 1000) (hr : ∀ s ∈ xs, s.f1.length ≤ 10) : ∀ (d i K : Nat), i + d = xs.length → d + 20 < K → laws_eqMatrixS.l0 K xs xs (i : Int) = some true := by
 intro d
 induction d with
 | zero =>
  intro i K hi hK
  obtain ⟨K, rfl⟩ : ∃ j, K = j + 1 := ⟨K - 1, by omega⟩
  rw [laws_eqMatrixS.l0, if_neg (by omega)]
 | succ d ih =>
  intro i K hi hK
  obtain ⟨K, rfl⟩ : ∃ j, K = j + 1 := ⟨K - 1, by omega⟩
  have hil : i < xs.length := by omega
  have hrd : rd_T33 xs (i : Int) = xs[i] := by
   unfold rd_T33
   rw [Int.toNat_natCast, List.getD_eq_getElem?_getD, List.getElem?_eq_getElem hil]; rfl
  have hlen := hr xs[i] (List.getElem_mem hil)
  rw [laws_eqMatrixS.l0, if_pos (by omega), if_pos (by omega), if_pos (by omega), hrd]
  unfold laws_eqMatrix.f
  rw [if_pos rfl, laws_eqInt64S.tells _ _ (by omega) K (by omega), decide_eq_true rfl, Option.bind_some, if_pos rfl, Option.bind_some, if_pos rfl, w64 (x := (i : Int) + 1) (by omega) (by omega), show (i : Int) + 1 = ((i + 1 : Nat) : Int) by omega]
  exact ih (i + 1) K (by omega) (by omega)
theorem tail_tells (xs : List S33) (hx : xs.length ≤ 400) (hr : ∀ s ∈ xs, s.f1.length ≤ 10) (K : Nat) (hK : 1000 ≤ K) : ∃ (m2 : Int) (l2 : List S33), laws_eqMatrixS.f K xs xs = some true ∧ markMS.l K xs 0 1 = some (m2, l2) ∧ laws_heldMatrixS.f K l2 1 = some m2 ∧ 0 ≤ m2 := by
 obtain ⟨m2, l2, h1, _, _, h4, h5⟩ := markS xs.length xs 0 1 K (by omega) (by omega) hr (by omega) (by omega) (by omega)
 refine ⟨m2, l2, ?_, h1, h5 K (by omega), by omega⟩
 unfold laws_eqMatrixS.f
 rw [if_pos rfl]
 exact eqS xs (by omega) hr xs.length 0 K (by omega) (by omega)
def OkR (n : Nat) (r : List Nat) : Prop := r.length ≤ 10 ∧ ∀ x ∈ r, x < 2 ^ n
def Both (n k : Nat) : Prop := ∃ (L : List (List Nat)) (N : Nat), L.length ≤ 400 ∧ (∀ r ∈ L, OkR n r) ∧ ∀ K, N ≤ K → ascL.f K (n : Int) (k : Int) [] [] = some (L.map (mk n)) ∧ spacesF.f K (n : Int) (k : Int) = some (L.map (mk n))
theorem ascN_mem {n : Nat} : ∀ (k : Nat) (rows r : List Nat), r ∈ ascN n k rows → (∀ y ∈ rows, y < 2 ^ n) → ∀ y ∈ r, y < 2 ^ n
 | 0, rows, r, h, hr => by
  rw [ascN, List.mem_singleton] at h
  subst h; exact hr
 | k + 1, rows, r, h, hr => by
  rw [ascN, loopN_eq, List.append_nil, List.mem_flatMap] at h
  obtain ⟨x, hx, h⟩ := h
  rw [List.mem_range'_1] at hx
  split at h
  ·refine ascN_mem k (rows ++ [x]) r h (fun y hy => ?_)
   rcases List.mem_append.1 hy with hy | hy
   ·exact hr y hy
   ·rw [List.mem_singleton.1 hy]; omega
  ·cases h
theorem good_of {n k : Nat} {L : List (List Nat)} (hn : n ≤ 10) (hA : eqLL (ascK n k []) L = true) (hs : sizeB L = true) : L.length ≤ 400 ∧ ∀ r ∈ L, OkR n r := by
 have e : ascN n k [] = L := by rw [← ascK_eq hn k [] ⟨by simp, List.Pairwise.nil⟩ (by simp)]; exact eqLL_eq _ _ hA
 simp only [sizeB, Bool.and_eq_true, List.all_eq_true, ble_to] at hs
 exact ⟨hs.1, fun r hr => ⟨hs.2 r hr, ascN_mem k [] r (by rw [e]; exact hr) (by simp)⟩⟩
theorem size_tells {n : Nat} {L : List (List Nat)} (h : sizeB L = true) : (L.map (mk n)).length ≤ 400 ∧ ∀ s ∈ L.map (mk n), s.f1.length ≤ 10 := by
 simp only [sizeB, Bool.and_eq_true, List.all_eq_true, ble_to] at h
 refine ⟨by rw [List.length_map]; exact h.1, fun s hs => ?_⟩
 obtain ⟨r, hr, rfl⟩ := List.mem_map.1 hs
 show (T r).length ≤ 10
 rw [len_T]; exact h.2 r hr
theorem rr_nil : RRp [] := ⟨by simp, List.Pairwise.nil⟩
theorem asc_is {n k : Nat} {L : List (List Nat)} (h1 : 1 ≤ n) (hn : n ≤ 10) (hk : k ≤ n) (hA : eqLL (ascK n k []) L = true) (hl : L.length ≤ 400) : ∃ N, ∀ K, N ≤ K → ascL.f K (n : Int) (k : Int) [] [] = some (L.map (mk n)) := by
 have e : ascN n k [] = L := by rw [← ascK_eq hn k [] rr_nil (by simp)]; exact eqLL_eq _ _ hA
 obtain ⟨N, h⟩ := asc_tells h1 hn k [] [] hk (by simp) (by simp; omega) (by rw [e]; simp; omega)
 rw [e] at h
 exact ⟨N, fun K hK => by have := h K hK; rw [List.nil_append] at this; exact this⟩
theorem from_is {n k : Nat} {L : List (List Nat)} (h1 : 1 ≤ n) (hn : n ≤ 10) (hk : k ≤ n) (hF : eqLL (fromK n k []) L = true) (hl : L.length ≤ 400) : ∃ N, ∀ K, N ≤ K → fromL.f K (n : Int) (k : Int) [] [] = some (L.map (mk n)) := by
 have e : fromN n k [] = L := by rw [← fromK_eq hn k [] rr_nil (by simp)]; exact eqLL_eq _ _ hF
 obtain ⟨N, h⟩ := from_tells h1 hn (show k ≤ 10 by omega) k [] [] (by simp) (by simp) (by rw [e]; simp; omega)
 rw [e] at h
 exact ⟨N, fun K hK => by have := h K hK; rw [List.nil_append] at this; exact this⟩
theorem spaces_low {n k : Nat} {L : List (List Nat)} (h1 : 1 ≤ n) (hn : n ≤ 10) (hk : 2 * k ≤ n) (hC : (chainB L && sizeB L) = true) (hF : eqLL (fromK n k []) L = true) : ∃ N, ∀ K, N ≤ K → spacesF.f K (n : Int) (k : Int) = some (L.map (mk n)) := by
 rw [Bool.and_eq_true] at hC
 have hs := size_tells (n := n) hC.2
 obtain ⟨N, h⟩ := from_is h1 hn (by omega) hF (by have := hs.1; rwa [List.length_map] at this)
 refine ⟨N + 1, fun K hK => ?_⟩
 obtain ⟨K, rfl⟩ : ∃ j, K = j + 1 := ⟨K - 1, by omega⟩
 rw [spacesF.f, w64 (x := 2 * (k : Int)) (by omega) (by omega), if_neg (by omega), h K (by omega), Option.bind_some, if_pos (by omega)]
 exact sortS_is hC.1 (List.Perm.refl _)
theorem both_low {n k : Nat} {L : List (List Nat)} (h1 : 1 ≤ n) (hn : n ≤ 10) (hk : 2 * k ≤ n) (hA : eqLL (ascK n k []) L = true) (hC : (chainB L && sizeB L) = true) (hF : eqLL (fromK n k []) L = true) : Both n k := by
 have hC' := hC
 rw [Bool.and_eq_true] at hC'
 have hs := size_tells (n := n) hC'.2
 obtain ⟨N1, a⟩ := asc_is h1 hn (show k ≤ n by omega) hA (by have := hs.1; rwa [List.length_map] at this)
 obtain ⟨N2, b⟩ := spaces_low h1 hn hk hC hF
 exact ⟨L, N1 + N2, (good_of hn hA hC'.2).1, (good_of hn hA hC'.2).2, fun K hK => ⟨a K (by omega), b K (by omega)⟩⟩
theorem both_high {n k : Nat} {L U : List (List Nat)} (h1 : 1 ≤ n) (hn : n ≤ 10) (hk : k ≤ n) (h2 : n < 2 * k) (hA : eqLL (ascK n k []) L = true) (hC : (chainB L && sizeB L) = true) (hF : eqLL (fromK n (n - k) []) U = true) (hCU : (chainB U && sizeB U) = true) (hK : kerB n U L = true) : Both n k := by
 have hC' := hC
 rw [Bool.and_eq_true] at hC'
 have hs := size_tells (n := n) hC'.2
 obtain ⟨N1, a⟩ := asc_is h1 hn hk hA (by have := hs.1; rwa [List.length_map] at this)
 obtain ⟨N2, b⟩ := spaces_low h1 hn (k := n - k) (by omega) hCU hF
 obtain ⟨rs, hp, hr⟩ := kerB_tells hK
 have hlen : (rs.map (mk n)).length ≤ 400 := by
  have := hp.length_eq
  have := hs.1
  rw [List.length_map] at this ⊢
  omega
 refine ⟨L, N1 + N2 + 3001, (good_of hn hA hC'.2).1, (good_of hn hA hC'.2).2, fun K hK2 => ⟨a K (by omega), ?_⟩⟩
 obtain ⟨K, rfl⟩ : ∃ j, K = j + 1 := ⟨K - 1, by omega⟩
 rw [spacesF.f, w64 (x := 2 * (k : Int)) (by omega) (by omega), if_pos (by omega), w64 (x := (n : Int) - (k : Int)) (by omega) (by omega), show (n : Int) - (k : Int) = ((n - k : Nat) : Int) by omega, b K (by omega), Option.bind_some, hr K (by omega), Option.bind_some, if_pos (by omega)]
 exact sortS_is hC'.1 hp
theorem P_1_0 : Both 1 0 := both_low (by decide) (by decide) (by decide) A_1_0 C_1_0 F_1_0
theorem P_1_1 : Both 1 1 := both_high (by decide) (by decide) (by decide) (by decide) A_1_1 C_1_1 F_1_0 C_1_0 K_1_1
theorem P_2_0 : Both 2 0 := both_low (by decide) (by decide) (by decide) A_2_0 C_2_0 F_2_0
theorem P_2_1 : Both 2 1 := both_low (by decide) (by decide) (by decide) A_2_1 C_2_1 F_2_1
theorem P_2_2 : Both 2 2 := both_high (by decide) (by decide) (by decide) (by decide) A_2_2 C_2_2 F_2_0 C_2_0 K_2_2
theorem P_3_0 : Both 3 0 := both_low (by decide) (by decide) (by decide) A_3_0 C_3_0 F_3_0
theorem P_3_1 : Both 3 1 := both_low (by decide) (by decide) (by decide) A_3_1 C_3_1 F_3_1
theorem P_3_2 : Both 3 2 := both_high (by decide) (by decide) (by decide) (by decide) A_3_2 C_3_2 F_3_1 C_3_1 K_3_2
theorem P_3_3 : Both 3 3 := both_high (by decide) (by decide) (by decide) (by decide) A_3_3 C_3_3 F_3_0 C_3_0 K_3_3
theorem P_4_0 : Both 4 0 := both_low (by decide) (by decide) (by decide) A_4_0 C_4_0 F_4_0
theorem P_4_1 : Both 4 1 := both_low (by decide) (by decide) (by decide) A_4_1 C_4_1 F_4_1
theorem P_4_2 : Both 4 2 := both_low (by decide) (by decide) (by decide) A_4_2 C_4_2 F_4_2
theorem P_4_3 : Both 4 3 := both_high (by decide) (by decide) (by decide) (by decide) A_4_3 C_4_3 F_4_1 C_4_1 K_4_3
theorem P_4_4 : Both 4 4 := both_high (by decide) (by decide) (by decide) (by decide) A_4_4 C_4_4 F_4_0 C_4_0 K_4_4
theorem P_5_0 : Both 5 0 := both_low (by decide) (by decide) (by decide) A_5_0 C_5_0 F_5_0
theorem P_5_1 : Both 5 1 := both_low (by decide) (by decide) (by decide) A_5_1 C_5_1 F_5_1
theorem P_5_2 : Both 5 2 := both_low (by decide) (by decide) (by decide) A_5_2 C_5_2 F_5_2
theorem P_5_3 : Both 5 3 := both_high (by decide) (by decide) (by decide) (by decide) A_5_3 C_5_3 F_5_2 C_5_2 K_5_3
theorem P_5_4 : Both 5 4 := both_high (by decide) (by decide) (by decide) (by decide) A_5_4 C_5_4 F_5_1 C_5_1 K_5_4
theorem P_5_5 : Both 5 5 := both_high (by decide) (by decide) (by decide) (by decide) A_5_5 C_5_5 F_5_0 C_5_0 K_5_5
theorem P_6_0 : Both 6 0 := both_low (by decide) (by decide) (by decide) A_6_0 C_6_0 F_6_0
theorem P_6_1 : Both 6 1 := both_low (by decide) (by decide) (by decide) A_6_1 C_6_1 F_6_1
theorem P_6_5 : Both 6 5 := both_high (by decide) (by decide) (by decide) (by decide) A_6_5 C_6_5 F_6_1 C_6_1 K_6_5
theorem P_6_6 : Both 6 6 := both_high (by decide) (by decide) (by decide) (by decide) A_6_6 C_6_6 F_6_0 C_6_0 K_6_6
theorem P_7_0 : Both 7 0 := both_low (by decide) (by decide) (by decide) A_7_0 C_7_0 F_7_0
theorem P_7_1 : Both 7 1 := both_low (by decide) (by decide) (by decide) A_7_1 C_7_1 F_7_1
theorem P_7_6 : Both 7 6 := both_high (by decide) (by decide) (by decide) (by decide) A_7_6 C_7_6 F_7_1 C_7_1 K_7_6
theorem P_7_7 : Both 7 7 := both_high (by decide) (by decide) (by decide) (by decide) A_7_7 C_7_7 F_7_0 C_7_0 K_7_7
theorem P_8_0 : Both 8 0 := both_low (by decide) (by decide) (by decide) A_8_0 C_8_0 F_8_0
theorem P_8_1 : Both 8 1 := both_low (by decide) (by decide) (by decide) A_8_1 C_8_1 F_8_1
theorem P_8_7 : Both 8 7 := both_high (by decide) (by decide) (by decide) (by decide) A_8_7 C_8_7 F_8_1 C_8_1 K_8_7
theorem P_8_8 : Both 8 8 := both_high (by decide) (by decide) (by decide) (by decide) A_8_8 C_8_8 F_8_0 C_8_0 K_8_8
theorem P_9_0 : Both 9 0 := both_low (by decide) (by decide) (by decide) A_9_0 C_9_0 F_9_0
theorem P_9_9 : Both 9 9 := both_high (by decide) (by decide) (by decide) (by decide) A_9_9 C_9_9 F_9_0 C_9_0 K_9_9
theorem P_10_0 : Both 10 0 := both_low (by decide) (by decide) (by decide) A_10_0 C_10_0 F_10_0
theorem P_10_10 : Both 10 10 := both_high (by decide) (by decide) (by decide) (by decide) A_10_10 C_10_10 F_10_0 C_10_0 K_10_10
/-! ### the number of spaces -/
theorem gauss_more {n k : Int} {r : Int × Int} {i K : Nat} (hi : impl_GaussNumber.f i n k = some r) (hs : spec_GaussNumber.f i n k = some r) (hK : i ≤ K) : impl_GaussNumber.f K n k = some r ∧ spec_GaussNumber.f K n k = some r := by
 obtain ⟨d, rfl⟩ : ∃ d, K = i + d := ⟨K - i, by omega⟩
 clear hK
 induction d with
 | zero => exact ⟨hi, hs⟩
 | succ d ih => exact ⟨impl_GaussNumber.mono n k (i + d) r ih.1, spec_GaussNumber.mono n k (i + d) r ih.2⟩
def shortL : List (Nat × Nat) := [(1, 0), (1, 1), (2, 0), (2, 1), (2, 2), (3, 0), (3, 1), (3, 2), (3, 3), (4, 0), (4, 1), (4, 2), (4, 3), (4, 4), (5, 0), (5, 1), (5, 2), (5, 3), (5, 4), (5, 5), (6, 0), (6, 1), (6, 5), (6, 6), (7, 0), (7, 1), (7, 6), (7, 7), (8, 0), (8, 1), (8, 7), (8, 8), (9, 0), (9, 9), (10, 0), (10, 10)]
def shortB (n k : Nat) : Bool := shortL.any (fun p => p.1 == n && p.2 == k)
theorem both_all : ∀ p ∈ shortL, Both p.1 p.2 := by
 intro p hp
 simp only [shortL, List.mem_cons, List.not_mem_nil, or_false] at hp
 rcases hp with rfl | rfl | rfl | rfl | rfl | rfl | rfl | rfl | rfl | rfl | rfl | rfl | rfl | rfl | rfl | rfl | rfl | rfl | rfl | rfl | rfl | rfl | rfl | rfl | rfl | rfl | rfl | rfl | rfl | rfl | rfl | rfl | rfl | rfl | rfl | rfl
 ·exact P_1_0
 ·exact P_1_1
 ·exact P_2_0
 ·exact P_2_1
 ·exact P_2_2
 ·exact P_3_0
 ·exact P_3_1
 ·exact P_3_2
 ·exact P_3_3
 ·exact P_4_0
 ·exact P_4_1
 ·exact P_4_2
 ·exact P_4_3
 ·exact P_4_4
 ·exact P_5_0
 ·exact P_5_1
 ·exact P_5_2
 ·exact P_5_3
 ·exact P_5_4
 ·exact P_5_5
 ·exact P_6_0
 ·exact P_6_1
 ·exact P_6_5
 ·exact P_6_6
 ·exact P_7_0
 ·exact P_7_1
 ·exact P_7_6
 ·exact P_7_7
 ·exact P_8_0
 ·exact P_8_1
 ·exact P_8_7
 ·exact P_8_8
 ·exact P_9_0
 ·exact P_9_9
 ·exact P_10_0
 ·exact P_10_10
theorem both_short {n k : Nat} (h : shortB n k = true) : Both n k := by
 simp only [shortB, List.any_eq_true, Bool.and_eq_true, beq_iff_eq] at h
 obtain ⟨p, hp, rfl, rfl⟩ := h
 exact both_all p hp
def gaussB (n k : Nat) : Bool := match impl_GaussNumber.f 200 (n : Int) (k : Int), spec_GaussNumber.f 200 (n : Int) (k : Int) with
 | some (a, c), some (b, d) => decide (a = b) && (decide (c = 0) && (decide (d = 0) && (decide (400 < a) || shortB n k)))
 | _, _ => false
theorem gauss_all : ∀ n k : Fin 11, (1 ≤ n.val → k.val ≤ n.val → gaussB n.val k.val = true) := by decide +kernel
theorem main0 (a b : Nat) (h : 1 ≤ a ∧ a ≤ 10 ∧ b ≤ a) : ∃ (N : Nat) (L : List (List Nat)) (c : Int), L.length ≤ 400 ∧ (∀ r ∈ L, OkR a r) ∧ ∀ K, N ≤ K → specSO.f K (a : Int) (b : Int) = some (L.map (mk a), c) ∧ implSO.f K (a : Int) (b : Int) = some (L.map (mk a), c) := by
 have hg := gauss_all ⟨a, by omega⟩ ⟨b, by omega⟩ (by show 1 ≤ a; omega) (by show b ≤ a; omega)
 unfold gaussB at hg
 dsimp only at hg
 cases hi : impl_GaussNumber.f 200 (a : Int) (b : Int) with
 | none => rw [hi] at hg; cases hg
 | some p =>
  cases hs : spec_GaussNumber.f 200 (a : Int) (b : Int) with
  | none => rw [hi, hs] at hg; cases hg
  | some q =>
   obtain ⟨p1, p2⟩ := p
   obtain ⟨q1, q2⟩ := q
   rw [hi, hs] at hg
   dsimp only at hg
   simp only [Bool.and_eq_true, Bool.or_eq_true, decide_eq_true_eq] at hg
   obtain ⟨rfl, rfl, rfl, hg⟩ := hg
   by_cases hbig : 400 < p1
   ·refine ⟨200, [], 3, by simp, by simp, fun K hK => ?_⟩
    obtain ⟨g1, g2⟩ := gauss_more hi hs hK
    constructor
    ·unfold specSO.f; rw [g2, Option.bind_some]; dsimp only; rw [if_pos rfl, if_pos hbig]; rfl
    ·unfold implSO.f; rw [g1, Option.bind_some]; dsimp only; rw [if_pos rfl, if_pos hbig]; rfl
   ·have hsh : shortB a b = true := hg.resolve_left hbig
    obtain ⟨L, N, c1, c2, c3⟩ := both_short hsh
    refine ⟨N + 200, L, 0, c1, c2, fun K hK => ?_⟩
    obtain ⟨g1, g2⟩ := gauss_more hi hs (show 200 ≤ K by omega)
    obtain ⟨d1, d2⟩ := c3 K (by omega)
    constructor
    ·unfold specSO.f; rw [g2, Option.bind_some]; dsimp only; rw [if_pos rfl, if_neg hbig, d1]; rfl
    ·unfold implSO.f; rw [g1, Option.bind_some]; dsimp only; rw [if_pos rfl, if_neg hbig, d2]; rfl
/-! ### the distance of two spaces, and the spaces that are taken -/
def D (n : Nat) (a b : List Nat) : Int := 2 * ((echN n 0 [] (a ++ b)).length : Int) - (a.length : Int) - (b.length : Int)
theorem dist_both {n : Nat} (h1 : 1 ≤ n) (hn : n ≤ 10) {a b : List Nat} (ha : OkR n a) (hb : OkR n b) : ∃ N, ∀ K, N ≤ K → spec_l02Distance.f K (n : Int) (T a) (n : Int) (T b) = some (D n a b) ∧ impl_Matrix_distance.f K (n : Int) (T a) (n : Int) (T b) = some (D n a b) := by
 obtain ⟨a1, a2⟩ := ha
 obtain ⟨b1, b2⟩ := hb
 have hl := echN_len n 0 [] (a ++ b)
 rw [List.length_append, List.length_nil] at hl
 obtain ⟨N, h⟩ := ech_both h1 hn (a ++ b) (by rw [List.length_append]; omega) (fun x hx => by
  rcases List.mem_append.1 hx with hx | hx
  ·exact a2 x hx
  ·exact b2 x hx)
 refine ⟨N, fun K hK => ?_⟩
 obtain ⟨e1, e2⟩ := h K hK
 unfold D
 constructor
 ·unfold spec_l02Distance.f spec_l02Sum.f
  rw [own_tells a (by omega), Option.bind_some, if_pos (by rw [len_T, len_T]; omega), ← T_append, e1]
  simp only [Option.bind_some, len_T]
  rw [w64 (x := 2 * ((echN n 0 [] (a ++ b)).length : Int)) (by omega) (by omega), w64 (x := 2 * ((echN n 0 [] (a ++ b)).length : Int) - (a.length : Int)) (by omega) (by omega), w64 (by omega) (by omega)]
 ·unfold impl_Matrix_distance.f impl_Matrix_sum.f slices_Concat_int64_int64.f impl_size_int64.f
  have hf : ([T a, T b] : List (List Int)).flatten = T (a ++ b) := by rw [T_append]; simp
  rw [hf, if_pos (by rw [len_T, List.length_append]; omega), Option.bind_some, e2]
  simp only [Option.bind_some, len_T]
  rw [w64 (x := 2 * ((echN n 0 [] (a ++ b)).length : Int)) (by omega) (by omega), w64 (x := 2 * ((echN n 0 [] (a ++ b)).length : Int) - (a.length : Int)) (by omega) (by omega), w64 (by omega) (by omega)]
theorem dist_all {n : Nat} (h1 : 1 ≤ n) (hn : n ≤ 10) {a : List Nat} (ha : OkR n a) : ∀ (out : List (List Nat)), (∀ r ∈ out, OkR n r) → ∃ N, ∀ K, N ≤ K → ∀ b ∈ out, spec_l02Distance.f K (n : Int) (T a) (n : Int) (T b) = some (D n a b) ∧ impl_Matrix_distance.f K (n : Int) (T a) (n : Int) (T b) = some (D n a b)
 | [], _ => ⟨0, fun _ _ b hb => by cases hb⟩
 | b :: out, h => by
  obtain ⟨N1, e1⟩ := dist_both h1 hn ha (h b List.mem_cons_self)
  obtain ⟨N2, e2⟩ := dist_all h1 hn ha out (fun r hr => h r (List.mem_cons_of_mem _ hr))
  refine ⟨N1 + N2, fun K hK c hc => ?_⟩
  rcases List.mem_cons.1 hc with rfl | hc
  ·exact e1 K (by omega)
  ·exact e2 K (by omega) c hc
theorem idxF_map {α β : Type} (g : α → β) (p : β → Option Bool) : ∀ (l : List α) (i : Int), idxF p (l.map g) i = idxF (fun x => p (g x)) l i
 | [], _ => rfl
 | y :: l, i => by
  rw [List.map_cons, idxF, idxF]
  congr 1
  funext b
  rw [idxF_map g p l (i + 1)]
theorem anyO_map {α β : Type} (g : α → β) (p : β → Option Bool) (f : α → Bool) (l : List α) (h : ∀ x ∈ l, p (g x) = some (f x)) : anyO p (l.map g) = some (l.any f) := by
 rw [← anyO_some (fun x => p (g x)) f l h]
 unfold anyO
 rw [idxF_map]
def nearB (n : Nat) (d : Int) (u : List Nat) (out : List (List Nat)) : Bool := out.any (fun v => decide (D n u v < d))
def greedyP (n : Nat) (d : Int) : List (List Nat) → List (List Nat) → List (List Nat)
 | [], out => out
 | u :: us, out => if nearB n d u out = true then greedyP n d us out else greedyP n d us (out ++ [u])
theorem greedyP_mem {n : Nat} {d : Int} : ∀ (us out : List (List Nat)), (∀ r ∈ us, OkR n r) → (∀ r ∈ out, OkR n r) → (greedyP n d us out).length ≤ out.length + us.length ∧ ∀ r ∈ greedyP n d us out, OkR n r
 | [], out, _, ho => ⟨Nat.le_add_right _ _, ho⟩
 | u :: us, out, hu, ho => by
  unfold greedyP
  split
  ·obtain ⟨h1, h2⟩ := greedyP_mem us out (fun r hr => hu r (List.mem_cons_of_mem _ hr)) ho
   exact ⟨by rw [List.length_cons]; omega, h2⟩
  ·obtain ⟨h1, h2⟩ := greedyP_mem us (out ++ [u]) (fun r hr => hu r (List.mem_cons_of_mem _ hr)) (fun r hr => by
    rcases List.mem_append.1 hr with hr | hr
    ·exact ho r hr
    ·rw [List.mem_singleton.1 hr]; exact hu u List.mem_cons_self)
   exact ⟨by rw [List.length_append, List.length_singleton] at h1; rw [List.length_cons]; omega, h2⟩
theorem far_tells {n : Nat} {d : Int} {u : List Nat} {K : Nat} : ∀ (out : List (List Nat)), (∀ b ∈ out, spec_l02Distance.f K (n : Int) (T u) (n : Int) (T b) = some (D n u b)) → farS K d (mk n u) (out.map (mk n)) = some (!nearB n d u out)
 | [], _ => rfl
 | v :: out, h => by
  have e : spec_l02Distance.f K (mk n u).f0 (mk n u).f1 (mk n v).f0 (mk n v).f1 = some (D n u v) := h v List.mem_cons_self
  rw [List.map_cons, farS, e, Option.bind_some, far_tells out (fun b hb => h b (List.mem_cons_of_mem _ hb))]
  unfold nearB
  rw [List.any_cons]
  by_cases c : d ≤ D n u v
  ·rw [if_pos c, decide_eq_false (by omega), Bool.false_or]
  ·rw [if_neg c, decide_eq_true (by omega), Bool.true_or]; rfl
theorem greedy_tells {n : Nat} (h1 : 1 ≤ n) (hn : n ≤ 10) (d : Int) : ∀ (us out : List (List Nat)), (∀ r ∈ us, OkR n r) → (∀ r ∈ out, OkR n r) → out.length + us.length ≤ 400 →
  ∃ N, ∀ K, N ≤ K → greedyS K d (us.map (mk n)) (out.map (mk n)) = some ((greedyP n d us out).map (mk n)) ∧ greedyI K d (us.map (mk n)) (out.map (mk n)) = some ((greedyP n d us out).map (mk n))
 | [], out, _, _, _ => ⟨0, fun K _ => ⟨rfl, rfl⟩⟩
 | u :: us, out, hu, ho, hl => by
  rw [List.length_cons] at hl
  obtain ⟨N1, e1⟩ := dist_all h1 hn (hu u List.mem_cons_self) out ho
  have hu' : ∀ r ∈ us, OkR n r := fun r hr => hu r (List.mem_cons_of_mem _ hr)
  have far : ∀ K, N1 ≤ K → farS K d (mk n u) (out.map (mk n)) = some (!nearB n d u out) := fun K hK => far_tells out (fun b hb => (e1 K hK b hb).1)
  have near : ∀ K, N1 ≤ K → anyO (fun x_ => impl_GreedySpaces_1.f K x_.f0 x_.f1 (mk n u).f0 (mk n u).f1 d) (out.map (mk n)) = some (nearB n d u out) := fun K hK => anyO_map (mk n) _ _ out (fun b hb => by
   have e : impl_Matrix_distance.f K (mk n u).f0 (mk n u).f1 (mk n b).f0 (mk n b).f1 = some (D n u b) := (e1 K hK b hb).2
   unfold impl_GreedySpaces_1.f
   rw [e, Option.bind_some])
  have lm : (out.map (mk n)).length < 4398046511103 := by rw [List.length_map]; omega
  have snoc : out.map (mk n) ++ [mk n u] = (out ++ [u]).map (mk n) := by rw [List.map_append]; rfl
  cases hq : nearB n d u out with
  | true =>
   obtain ⟨N2, e2⟩ := greedy_tells h1 hn d us out hu' ho (by omega)
   refine ⟨N1 + N2, fun K hK => ?_⟩
   obtain ⟨f1, f2⟩ := e2 K (by omega)
   have hp : greedyP n d (u :: us) out = greedyP n d us out := by rw [greedyP, if_pos hq]
   rw [hp, List.map_cons, greedyS, greedyI, far K (by omega), near K (by omega), hq, Option.bind_some, Option.bind_some, if_neg (by decide), if_pos rfl]
   exact ⟨f1, f2⟩
  | false =>
   obtain ⟨N2, e2⟩ := greedy_tells h1 hn d us (out ++ [u]) hu' (fun r hr => by
    rcases List.mem_append.1 hr with hr | hr
    ·exact ho r hr
    ·rw [List.mem_singleton.1 hr]; exact hu u List.mem_cons_self) (by rw [List.length_append, List.length_singleton]; omega)
   refine ⟨N1 + N2, fun K hK => ?_⟩
   obtain ⟨f1, f2⟩ := e2 K (by omega)
   have hp : greedyP n d (u :: us) out = greedyP n d us (out ++ [u]) := by rw [greedyP, if_neg (by rw [hq]; decide)]
   rw [hp, List.map_cons, greedyS, greedyI, far K (by omega), near K (by omega), hq, Option.bind_some, Option.bind_some, if_pos (by decide), if_pos lm, if_neg (by decide), if_pos lm, snoc]
   exact ⟨f1, f2⟩
/-! ### the arguments -/
theorem codes (n k d : Int) : (1 ≤ n ∧ n ≤ 10 ∧ 0 ≤ k ∧ k ≤ n ∧ impl_distanceCode.f n k d = some 0 ∧ spec_l06Distance.f n k d = some true) ∨ (impl_distanceCode.f n k d = some 2 ∧ spec_l06Distance.f n k d = some false) := by
 unfold impl_distanceCode.f spec_l06Distance.f spec_l06Side.f spec_l00In.f impl_within.f
 by_cases h0 : n ≥ 1 <;> by_cases h1 : n ≤ 10 <;> by_cases h2 : k ≥ 0 <;> by_cases h3 : k ≤ n <;> by_cases h4 : d ≥ 2 <;> by_cases h5 : d ≤ wrap64 (2 * k) <;> by_cases h6 : Int.tmod d 2 = 0 <;> simp [h0, h1, h2, h3, h4, h5, h6] <;> omega
theorem main (n k d : Int) : ∃ (K : Nat) (l l2 : List S33) (c m2 : Int), specGS.f K n k d = some (l, c) ∧ implGS.f K n k d = some (l, c) ∧ laws_eqMatrixS.f K l l = some true ∧ markMS.l K l 0 1 = some (m2, l2) ∧ laws_heldMatrixS.f K l2 1 = some m2 ∧ 0 ≤ m2 := by
 rcases codes n k d with ⟨r1, r2, r3, r4, hi, hs⟩ | ⟨hi, hs⟩
 ·obtain ⟨a, rfl⟩ : ∃ a : Nat, n = (a : Int) := ⟨n.toNat, by omega⟩
  obtain ⟨b, rfl⟩ : ∃ b : Nat, k = (b : Int) := ⟨k.toNat, by omega⟩
  obtain ⟨N1, L, c, c1, c2, c3⟩ := main0 a b ⟨by omega, by omega, by omega⟩
  by_cases hc : c = 0
  ·subst hc
   obtain ⟨N2, e⟩ := greedy_tells (n := a) (by omega) (by omega) d L [] c2 (by simp) (by simpa using c1)
   obtain ⟨g1, g2⟩ := greedyP_mem (n := a) (d := d) L [] c2 (by simp)
   obtain ⟨m2, l2, t1, t2, t3, t4⟩ := tail_tells ((greedyP a d L []).map (mk a)) (by rw [List.length_map]; rw [List.length_nil] at g1; omega) (fun s hs => by
    obtain ⟨r, hr, rfl⟩ := List.mem_map.1 hs
    show (T r).length ≤ 10
    rw [len_T]; exact (g2 r hr).1) (N1 + N2 + 1000) (by omega)
   obtain ⟨d1, d2⟩ := c3 (N1 + N2 + 1000) (by omega)
   obtain ⟨f1, f2⟩ := e (N1 + N2 + 1000) (by omega)
   rw [List.map_nil] at f1 f2
   refine ⟨N1 + N2 + 1000, _, l2, 0, m2, ?_, ?_, t1, t2, t3, t4⟩
   ·unfold specGS.f; rw [hs, Option.bind_some, if_pos rfl, d1, Option.bind_some]; dsimp only; rw [if_pos rfl, f1]; rfl
   ·unfold implGS.f; rw [hi, Option.bind_some, if_pos rfl, d2, Option.bind_some]; dsimp only; rw [if_pos rfl, f2]; rfl
  ·obtain ⟨m2, l2, t1, t2, t3, t4⟩ := tail_tells [] (by simp) (by simp) (N1 + 1000) (by omega)
   obtain ⟨d1, d2⟩ := c3 (N1 + 1000) (by omega)
   refine ⟨N1 + 1000, [], l2, c, m2, ?_, ?_, t1, t2, t3, t4⟩
   ·unfold specGS.f; rw [hs, Option.bind_some, if_pos rfl, d1, Option.bind_some]; dsimp only; rw [if_neg hc]
   ·unfold implGS.f; rw [hi, Option.bind_some, if_pos rfl, d2, Option.bind_some]; dsimp only; rw [if_neg hc]
 ·obtain ⟨m2, l2, t1, t2, t3, t4⟩ := tail_tells [] (by simp) (by simp) 1000 (by omega)
  refine ⟨1000, [], l2, 2, m2, ?_, ?_, t1, t2, t3, t4⟩
  ·unfold specGS.f; rw [hs, Option.bind_some, if_neg (by decide)]
  ·unfold implGS.f; rw [hi, Option.bind_some, if_neg (by decide)]
end Go.Proofs.Ytaopplbahakpgaa.PureFnExactGreedySpaces
