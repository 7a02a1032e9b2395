/- SpacesOf of the program and of the reference agree for all pairs of int64 (the 36 pairs with a list by reckoning, all others have none), and the list answers the law's marks. -/
import Derived.Test.YtaopplbahakpgaaPureFnExactSpacesOfc
namespace Go.Proofs.Ytaopplbahakpgaa.PureFnExactSpacesOf
open Go.RowKit Go.Proofs.Ytaopplbahakpgaa.PFnExactSpacesOf Go.Proofs.YtaopplbahakpgaaW.PrintWords Go.Proofs.YtaopplbahakpgaaW.PrintLast Go.Proofs.YtaopplbahakpgaaW.PrintMore
set_option linter.unusedVariables false
set_option linter.unusedSimpArgs false
theorem rd_set_self (l : List Int) (i x : Int) (h0 : 0 ≤ i) (h1 : i < (l.length : Int)) : rd (l.set i.toNat x) i = x := by
  unfold rd
  rw [List.getD_eq_getElem?_getD, List.getElem?_set_self (by omega)]; rfl
theorem rd_set_ne (l : List Int) (i t x : Int) (h0 : 0 ≤ i) (h1 : 0 ≤ t) (h : t ≠ i) : rd (l.set i.toNat x) t = rd l t := by
  unfold rd
  rw [List.getD_eq_getElem?_getD, List.getD_eq_getElem?_getD, List.getElem?_set_ne (by omega)]
theorem mark_l : ∀ (d : Nat) (l : List Int) (i x : Int) (k : Nat), 0 ≤ i → i + d = (l.length : Int) → 0 ≤ x → x + d ≤ 1099511627776 → i + d ≤ 1099511627776 → d < k →
    ∃ l', laws_markInt64S.l0 k l x i = some (x + d, l') ∧ l'.length = l.length ∧ (∀ t, 0 ≤ t → t < i → rd l' t = rd l t) ∧ ∀ t, i ≤ t → t < (l.length : Int) → rd l' t = x + (t - i) := by
  intro d
  induction d with
  | zero =>
    intro l i x k hi hd hx hx2 hi2 hk
    obtain ⟨k, rfl⟩ : ∃ m, k = m + 1 := ⟨k - 1, by omega⟩
    simp only [laws_markInt64S.l0]
    rw [if_neg (by omega)]
    exact ⟨l, by simp, rfl, fun _ _ _ => rfl, fun t h1 h2 => by omega⟩
  | succ d ih =>
    intro l i x k hi hd hx hx2 hi2 hk
    obtain ⟨k, rfl⟩ : ∃ m, k = m + 1 := ⟨k - 1, by omega⟩
    simp only [laws_markInt64S.l0]
    rw [if_pos (by omega), if_pos hi, w64 (x := x + 1) (by omega) (by omega), w64 (x := i + 1) (by omega) (by omega)]
    obtain ⟨l', e, hl, h1, h2⟩ := ih (l.set i.toNat x) (i + 1) (x + 1) k (by omega) (by simp; omega) (by omega) (by omega) (by omega) (by omega)
    refine ⟨l', by rw [e]; congr 2; omega, by simpa using hl, ?_, ?_⟩
    · intro t h0 ht
      rw [h1 t h0 (by omega), rd_set_ne l i t x hi h0 (by omega)]
    · intro t h0 ht
      by_cases e : t = i
      · rw [e, h1 i hi (by omega), rd_set_self l i x hi (by omega)]; omega
      · rw [h2 t (by omega) (by simpa using ht)]; omega
theorem held_l : ∀ (d : Nat) (l : List Int) (i x : Int) (k : Nat), 0 ≤ i → i + d = (l.length : Int) → 0 ≤ x → x + d ≤ 1099511627776 → i + d ≤ 1099511627776 → d < k → (∀ t, i ≤ t → t < (l.length : Int) → rd l t = x + (t - i)) →
    laws_heldInt64S.l0 k l x i = some (x + d) := by
  intro d
  induction d with
  | zero =>
    intro l i x k hi hd hx hx2 hi2 hk h
    obtain ⟨k, rfl⟩ : ∃ m, k = m + 1 := ⟨k - 1, by omega⟩
    simp only [laws_heldInt64S.l0]
    rw [if_neg (by omega)]; simp
  | succ d ih =>
    intro l i x k hi hd hx hx2 hi2 hk h
    obtain ⟨k, rfl⟩ : ∃ m, k = m + 1 := ⟨k - 1, by omega⟩
    simp only [laws_heldInt64S.l0]
    rw [if_pos (by omega), if_pos hi, if_pos (by rw [h i (by omega) (by omega)]; omega), w64 (x := x + 1) (by omega) (by omega), w64 (x := i + 1) (by omega) (by omega),
      ih l (i + 1) (x + 1) k (by omega) (by omega) (by omega) (by omega) (by omega) (by omega) (fun t h0 ht => by rw [h t (by omega) ht]; omega)]
    congr 1; omega
theorem mark_tells (l : List Int) (hl : l.length ≤ 2097152) (k : Nat) (hk : l.length < k) : ∃ l', laws_markInt64S.f k l 1 = some (1 + (l.length : Int), l') ∧ ∀ k', l.length < k' → laws_heldInt64S.f k' l' 1 = some (1 + (l.length : Int)) := by
  unfold laws_markInt64S.f laws_heldInt64S.f
  obtain ⟨l', e, e2, _, h⟩ := mark_l l.length l 0 1 k (by omega) (by omega) (by omega) (by omega) (by omega) hk
  refine ⟨l', e, fun k' hk' => ?_⟩
  exact held_l l.length l' 0 1 k' (by omega) (by omega) (by omega) (by omega) (by omega) hk' (fun t h0 ht => h t h0 (by omega))
theorem markS : ∀ (d : Nat) (xs : List S33) (i : Nat) (m : Int) (K : Nat), i + d = xs.length → xs.length ≤ 1000 → (∀ s ∈ xs, s.f1.length ≤ 10) → 0 ≤ m → m + 11 * d ≤ 1000000 → d + 20 < K →
    ∃ (m2 : Int) (xs2 : List S33), markMS.l K xs (i : Int) m = some (m2, xs2) ∧ xs2.length = xs.length ∧ (∀ t, t < i → xs2.getD t z33 = xs.getD t z33) ∧ m ≤ m2 ∧ ∀ K', d + 20 < K' → laws_heldMatrixS.l0 K' xs2 m (i : Int) = some m2 := by
  intro d
  induction d with
  | zero =>
    intro xs i m K hi hx hr hm hm2 hK
    obtain ⟨K, rfl⟩ : ∃ j, K = j + 1 := ⟨K - 1, by omega⟩
    refine ⟨m, xs, ?_, rfl, fun _ _ => rfl, Int.le_refl _, fun K' hK' => ?_⟩
    · rw [markMS.l, if_neg (by omega)]
    · obtain ⟨K', rfl⟩ : ∃ j, K' = j + 1 := ⟨K' - 1, by omega⟩
      rw [laws_heldMatrixS.l0, if_neg (by omega)]
  | succ d ih =>
    intro xs i m K hi hx hr hm hm2 hK
    obtain ⟨K, rfl⟩ : ∃ j, K = j + 1 := ⟨K - 1, by omega⟩
    have hil : i < xs.length := by omega
    have hrd : rd_T33 xs (i : Int) = xs[i] := by
      unfold rd_T33
      rw [Int.toNat_natCast, List.getD_eq_getElem?_getD, List.getElem?_eq_getElem hil]; rfl
    have hlen := hr xs[i] (List.getElem_mem hil)
    obtain ⟨r, e, rl, _, hmk⟩ := mark_l xs[i].f1.length xs[i].f1 0 (m + 1) K (by omega) (by omega) (by omega) (by omega) (by omega) (by omega)
    obtain ⟨m2, xs2, f1, f2, f3, f4, f5⟩ := ih (xs.set i ⟨m, r⟩) (i + 1) (m + 1 + (xs[i].f1.length : Int)) K (by simp; omega) (by simpa using hx) (fun s hs => by
      rcases List.mem_or_eq_of_mem_set hs with hs | rfl
      · exact hr s hs
      · show r.length ≤ 10
        omega) (by omega) (by omega) (by omega)
    refine ⟨m2, xs2, ?_, by rw [f2]; simp, fun t ht => ?_, by omega, fun K' hK' => ?_⟩
    · rw [markMS.l, if_pos (by omega), if_pos (by omega), hrd, w64 (x := m + 1) (by omega) (by omega)]
      unfold laws_markInt64S.f
      rw [e, Option.bind_some]
      dsimp only
      rw [Int.toNat_natCast, w64 (x := (i : Int) + 1) (by omega) (by omega), show (i : Int) + 1 = ((i + 1 : Nat) : Int) by omega]
      exact f1
    · rw [f3 t (by omega), List.getD_eq_getElem?_getD, List.getD_eq_getElem?_getD, List.getElem?_set_ne (by omega)]
    · obtain ⟨K', rfl⟩ : ∃ j, K' = j + 1 := ⟨K' - 1, by omega⟩
      have h2 : rd_T33 xs2 (i : Int) = ⟨m, r⟩ := by
        unfold rd_T33
        rw [Int.toNat_natCast, f3 i (by omega), List.getD_eq_getElem?_getD, List.getElem?_set_self hil]; rfl
      rw [laws_heldMatrixS.l0, f2, List.length_set, if_pos (by omega), if_pos (by omega), h2, if_pos rfl, w64 (x := m + 1) (by omega) (by omega)]
      unfold laws_heldInt64S.f
      rw [held_l xs[i].f1.length r 0 (m + 1) K' (by omega) (by omega) (by omega) (by omega) (by omega) (by omega) (fun t h0 ht => hmk t h0 (by omega)), Option.bind_some, if_neg (by omega), w64 (x := (i : Int) + 1) (by omega) (by omega), show (i : Int) + 1 = ((i + 1 : Nat) : Int) by omega]
      exact f5 K' (by omega)
theorem eqS (xs : List S33) (hx : xs.length ≤ 1000) (hr : ∀ s ∈ xs, s.f1.length ≤ 10) : ∀ (d i K : Nat), i + d = xs.length → d + 20 < K → laws_eqMatrixS.l0 K xs xs (i : Int) = some true := by
  intro d
  induction d with
  | zero =>
    intro i K hi hK
    obtain ⟨K, rfl⟩ : ∃ j, K = j + 1 := ⟨K - 1, by omega⟩
    rw [laws_eqMatrixS.l0, if_neg (by omega)]
  | succ d ih =>
    intro i K hi hK
    obtain ⟨K, rfl⟩ : ∃ j, K = j + 1 := ⟨K - 1, by omega⟩
    have hil : i < xs.length := by omega
    have hrd : rd_T33 xs (i : Int) = xs[i] := by
      unfold rd_T33
      rw [Int.toNat_natCast, List.getD_eq_getElem?_getD, List.getElem?_eq_getElem hil]; rfl
    have hlen := hr xs[i] (List.getElem_mem hil)
    rw [laws_eqMatrixS.l0, if_pos (by omega), if_pos (by omega), if_pos (by omega), hrd]
    unfold laws_eqMatrix.f
    rw [if_pos rfl, laws_eqInt64S.tells _ _ (by omega) K (by omega), decide_eq_true rfl, Option.bind_some, if_pos rfl, Option.bind_some, if_pos rfl, w64 (x := (i : Int) + 1) (by omega) (by omega), show (i : Int) + 1 = ((i + 1 : Nat) : Int) by omega]
    exact ih (i + 1) K (by omega) (by omega)
/-- What the law asks of a list that both hand back. -/
theorem tail_tells (xs : List S33) (hx : xs.length ≤ 400) (hr : ∀ s ∈ xs, s.f1.length ≤ 10) (K : Nat) (hK : 1000 ≤ K) : ∃ (m2 : Int) (l2 : List S33), laws_eqMatrixS.f K xs xs = some true ∧ markMS.l K xs 0 1 = some (m2, l2) ∧ laws_heldMatrixS.f K l2 1 = some m2 ∧ 0 ≤ m2 := by
  obtain ⟨m2, l2, h1, _, _, h4, h5⟩ := markS xs.length xs 0 1 K (by omega) (by omega) hr (by omega) (by omega) (by omega)
  refine ⟨m2, l2, ?_, h1, h5 K (by omega), by omega⟩
  unfold laws_eqMatrixS.f
  rw [if_pos rfl]
  exact eqS xs (by omega) hr xs.length 0 K (by omega) (by omega)
/-- Both list the same spaces. -/
def Both (n k : Nat) : Prop := ∃ (l : List S33) (N : Nat), l.length ≤ 400 ∧ (∀ s ∈ l, s.f1.length ≤ 10) ∧ ∀ K, N ≤ K → ascL.f K (n : Int) (k : Int) [] [] = some l ∧ spacesF.f K (n : Int) (k : Int) = some l
theorem size_tells {n : Nat} {L : List (List Nat)} (h : sizeB L = true) : (L.map (mk n)).length ≤ 400 ∧ ∀ s ∈ L.map (mk n), s.f1.length ≤ 10 := by
  simp only [sizeB, Bool.and_eq_true, List.all_eq_true, ble_to] at h
  refine ⟨by rw [List.length_map]; exact h.1, fun s hs => ?_⟩
  obtain ⟨r, hr, rfl⟩ := List.mem_map.1 hs
  show (T r).length ≤ 10
  rw [len_T]; exact h.2 r hr
theorem rr_nil : RRp [] := ⟨by simp, List.Pairwise.nil⟩
theorem asc_is {n k : Nat} {L : List (List Nat)} (h1 : 1 ≤ n) (hn : n ≤ 10) (hk : k ≤ n) (hA : eqLL (ascK n k []) L = true) (hl : L.length ≤ 400) : ∃ N, ∀ K, N ≤ K → ascL.f K (n : Int) (k : Int) [] [] = some (L.map (mk n)) := by
  have e : ascN n k [] = L := by rw [← ascK_eq hn k [] rr_nil (by simp)]; exact eqLL_eq _ _ hA
  obtain ⟨N, h⟩ := asc_tells h1 hn k [] [] hk (by simp) (by simp; omega) (by rw [e]; simp; omega)
  rw [e] at h
  exact ⟨N, fun K hK => by have := h K hK; rw [List.nil_append] at this; exact this⟩
theorem from_is {n k : Nat} {L : List (List Nat)} (h1 : 1 ≤ n) (hn : n ≤ 10) (hk : k ≤ n) (hF : eqLL (fromK n k []) L = true) (hl : L.length ≤ 400) : ∃ N, ∀ K, N ≤ K → fromL.f K (n : Int) (k : Int) [] [] = some (L.map (mk n)) := by
  have e : fromN n k [] = L := by rw [← fromK_eq hn k [] rr_nil (by simp)]; exact eqLL_eq _ _ hF
  obtain ⟨N, h⟩ := from_tells h1 hn (show k ≤ 10 by omega) k [] [] (by simp) (by simp) (by rw [e]; simp; omega)
  rw [e] at h
  exact ⟨N, fun K hK => by have := h K hK; rw [List.nil_append] at this; exact this⟩
theorem spaces_low {n k : Nat} {L : List (List Nat)} (h1 : 1 ≤ n) (hn : n ≤ 10) (hk : 2 * k ≤ n) (hC : (chainB L && sizeB L) = true) (hF : eqLL (fromK n k []) L = true) : ∃ N, ∀ K, N ≤ K → spacesF.f K (n : Int) (k : Int) = some (L.map (mk n)) := by
  rw [Bool.and_eq_true] at hC
  have hs := size_tells (n := n) hC.2
  obtain ⟨N, h⟩ := from_is h1 hn (by omega) hF (by have := hs.1; rwa [List.length_map] at this)
  refine ⟨N + 1, fun K hK => ?_⟩
  obtain ⟨K, rfl⟩ : ∃ j, K = j + 1 := ⟨K - 1, by omega⟩
  rw [spacesF.f, w64 (x := 2 * (k : Int)) (by omega) (by omega), if_neg (by omega), h K (by omega), Option.bind_some, if_pos (by omega)]
  exact sortS_is hC.1 (List.Perm.refl _)
theorem both_low {n k : Nat} {L : List (List Nat)} (h1 : 1 ≤ n) (hn : n ≤ 10) (hk : 2 * k ≤ n) (hA : eqLL (ascK n k []) L = true) (hC : (chainB L && sizeB L) = true) (hF : eqLL (fromK n k []) L = true) : Both n k := by
  have hC' := hC
  rw [Bool.and_eq_true] at hC'
  have hs := size_tells (n := n) hC'.2
  obtain ⟨N1, a⟩ := asc_is h1 hn (show k ≤ n by omega) hA (by have := hs.1; rwa [List.length_map] at this)
  obtain ⟨N2, b⟩ := spaces_low h1 hn hk hC hF
  exact ⟨L.map (mk n), N1 + N2, hs.1, hs.2, fun K hK => ⟨a K (by omega), b K (by omega)⟩⟩
theorem both_high {n k : Nat} {L U : List (List Nat)} (h1 : 1 ≤ n) (hn : n ≤ 10) (hk : k ≤ n) (h2 : n < 2 * k) (hA : eqLL (ascK n k []) L = true) (hC : (chainB L && sizeB L) = true) (hF : eqLL (fromK n (n - k) []) U = true) (hCU : (chainB U && sizeB U) = true) (hK : kerB n U L = true) : Both n k := by
  have hC' := hC
  rw [Bool.and_eq_true] at hC'
  have hs := size_tells (n := n) hC'.2
  obtain ⟨N1, a⟩ := asc_is h1 hn hk hA (by have := hs.1; rwa [List.length_map] at this)
  obtain ⟨N2, b⟩ := spaces_low h1 hn (k := n - k) (by omega) hCU hF
  obtain ⟨rs, hp, hr⟩ := kerB_tells hK
  have hlen : (rs.map (mk n)).length ≤ 400 := by
    have := hp.length_eq
    have := hs.1
    rw [List.length_map] at this ⊢
    omega
  refine ⟨L.map (mk n), N1 + N2 + 3001, hs.1, hs.2, fun K hK2 => ⟨a K (by omega), ?_⟩⟩
  obtain ⟨K, rfl⟩ : ∃ j, K = j + 1 := ⟨K - 1, by omega⟩
  rw [spacesF.f, w64 (x := 2 * (k : Int)) (by omega) (by omega), if_pos (by omega), w64 (x := (n : Int) - (k : Int)) (by omega) (by omega), show (n : Int) - (k : Int) = ((n - k : Nat) : Int) by omega, b K (by omega), Option.bind_some, hr K (by omega), Option.bind_some, if_pos (by omega)]
  exact sortS_is hC'.1 hp
theorem P_1_0 : Both 1 0 := both_low (by decide) (by decide) (by decide) A_1_0 C_1_0 F_1_0
theorem P_1_1 : Both 1 1 := both_high (by decide) (by decide) (by decide) (by decide) A_1_1 C_1_1 F_1_0 C_1_0 K_1_1
theorem P_2_0 : Both 2 0 := both_low (by decide) (by decide) (by decide) A_2_0 C_2_0 F_2_0
theorem P_2_1 : Both 2 1 := both_low (by decide) (by decide) (by decide) A_2_1 C_2_1 F_2_1
theorem P_2_2 : Both 2 2 := both_high (by decide) (by decide) (by decide) (by decide) A_2_2 C_2_2 F_2_0 C_2_0 K_2_2
theorem P_3_0 : Both 3 0 := both_low (by decide) (by decide) (by decide) A_3_0 C_3_0 F_3_0
theorem P_3_1 : Both 3 1 := both_low (by decide) (by decide) (by decide) A_3_1 C_3_1 F_3_1
theorem P_3_2 : Both 3 2 := both_high (by decide) (by decide) (by decide) (by decide) A_3_2 C_3_2 F_3_1 C_3_1 K_3_2
theorem P_3_3 : Both 3 3 := both_high (by decide) (by decide) (by decide) (by decide) A_3_3 C_3_3 F_3_0 C_3_0 K_3_3
theorem P_4_0 : Both 4 0 := both_low (by decide) (by decide) (by decide) A_4_0 C_4_0 F_4_0
theorem P_4_1 : Both 4 1 := both_low (by decide) (by decide) (by decide) A_4_1 C_4_1 F_4_1
theorem P_4_2 : Both 4 2 := both_low (by decide) (by decide) (by decide) A_4_2 C_4_2 F_4_2
theorem P_4_3 : Both 4 3 := both_high (by decide) (by decide) (by decide) (by decide) A_4_3 C_4_3 F_4_1 C_4_1 K_4_3
theorem P_4_4 : Both 4 4 := both_high (by decide) (by decide) (by decide) (by decide) A_4_4 C_4_4 F_4_0 C_4_0 K_4_4
theorem P_5_0 : Both 5 0 := both_low (by decide) (by decide) (by decide) A_5_0 C_5_0 F_5_0
theorem P_5_1 : Both 5 1 := both_low (by decide) (by decide) (by decide) A_5_1 C_5_1 F_5_1
theorem P_5_2 : Both 5 2 := both_low (by decide) (by decide) (by decide) A_5_2 C_5_2 F_5_2
theorem P_5_3 : Both 5 3 := both_high (by decide) (by decide) (by decide) (by decide) A_5_3 C_5_3 F_5_2 C_5_2 K_5_3
theorem P_5_4 : Both 5 4 := both_high (by decide) (by decide) (by decide) (by decide) A_5_4 C_5_4 F_5_1 C_5_1 K_5_4
theorem P_5_5 : Both 5 5 := both_high (by decide) (by decide) (by decide) (by decide) A_5_5 C_5_5 F_5_0 C_5_0 K_5_5
theorem P_6_0 : Both 6 0 := both_low (by decide) (by decide) (by decide) A_6_0 C_6_0 F_6_0
theorem P_6_1 : Both 6 1 := both_low (by decide) (by decide) (by decide) A_6_1 C_6_1 F_6_1
theorem P_6_5 : Both 6 5 := both_high (by decide) (by decide) (by decide) (by decide) A_6_5 C_6_5 F_6_1 C_6_1 K_6_5
theorem P_6_6 : Both 6 6 := both_high (by decide) (by decide) (by decide) (by decide) A_6_6 C_6_6 F_6_0 C_6_0 K_6_6
theorem P_7_0 : Both 7 0 := both_low (by decide) (by decide) (by decide) A_7_0 C_7_0 F_7_0
theorem P_7_1 : Both 7 1 := both_low (by decide) (by decide) (by decide) A_7_1 C_7_1 F_7_1
theorem P_7_6 : Both 7 6 := both_high (by decide) (by decide) (by decide) (by decide) A_7_6 C_7_6 F_7_1 C_7_1 K_7_6
theorem P_7_7 : Both 7 7 := both_high (by decide) (by decide) (by decide) (by decide) A_7_7 C_7_7 F_7_0 C_7_0 K_7_7
theorem P_8_0 : Both 8 0 := both_low (by decide) (by decide) (by decide) A_8_0 C_8_0 F_8_0
theorem P_8_1 : Both 8 1 := both_low (by decide) (by decide) (by decide) A_8_1 C_8_1 F_8_1
theorem P_8_7 : Both 8 7 := both_high (by decide) (by decide) (by decide) (by decide) A_8_7 C_8_7 F_8_1 C_8_1 K_8_7
theorem P_8_8 : Both 8 8 := both_high (by decide) (by decide) (by decide) (by decide) A_8_8 C_8_8 F_8_0 C_8_0 K_8_8
theorem P_9_0 : Both 9 0 := both_low (by decide) (by decide) (by decide) A_9_0 C_9_0 F_9_0
theorem P_9_9 : Both 9 9 := both_high (by decide) (by decide) (by decide) (by decide) A_9_9 C_9_9 F_9_0 C_9_0 K_9_9
theorem P_10_0 : Both 10 0 := both_low (by decide) (by decide) (by decide) A_10_0 C_10_0 F_10_0
theorem P_10_10 : Both 10 10 := both_high (by decide) (by decide) (by decide) (by decide) A_10_10 C_10_10 F_10_0 C_10_0 K_10_10

/-! ### the number of spaces -/
theorem gauss_more {n k : Int} {r : Int × Int} {i K : Nat} (hi : impl_GaussNumber.f i n k = some r) (hs : spec_GaussNumber.f i n k = some r) (hK : i ≤ K) : impl_GaussNumber.f K n k = some r ∧ spec_GaussNumber.f K n k = some r := by
  obtain ⟨d, rfl⟩ : ∃ d, K = i + d := ⟨K - i, by omega⟩
  clear hK
  induction d with
  | zero => exact ⟨hi, hs⟩
  | succ d ih => exact ⟨impl_GaussNumber.mono n k (i + d) r ih.1, spec_GaussNumber.mono n k (i + d) r ih.2⟩
def shortL : List (Nat × Nat) := [(1, 0), (1, 1), (2, 0), (2, 1), (2, 2), (3, 0), (3, 1), (3, 2), (3, 3), (4, 0), (4, 1), (4, 2), (4, 3), (4, 4), (5, 0), (5, 1), (5, 2), (5, 3), (5, 4), (5, 5), (6, 0), (6, 1), (6, 5), (6, 6), (7, 0), (7, 1), (7, 6), (7, 7), (8, 0), (8, 1), (8, 7), (8, 8), (9, 0), (9, 9), (10, 0), (10, 10)]
def shortB (n k : Nat) : Bool := shortL.any (fun p => p.1 == n && p.2 == k)
theorem both_all : ∀ p ∈ shortL, Both p.1 p.2 := by
  intro p hp
  simp only [shortL, List.mem_cons, List.not_mem_nil, or_false] at hp
  rcases hp with rfl | rfl | rfl | rfl | rfl | rfl | rfl | rfl | rfl | rfl | rfl | rfl | rfl | rfl | rfl | rfl | rfl | rfl | rfl | rfl | rfl | rfl | rfl | rfl | rfl | rfl | rfl | rfl | rfl | rfl | rfl | rfl | rfl | rfl | rfl | rfl
  · exact P_1_0
  · exact P_1_1
  · exact P_2_0
  · exact P_2_1
  · exact P_2_2
  · exact P_3_0
  · exact P_3_1
  · exact P_3_2
  · exact P_3_3
  · exact P_4_0
  · exact P_4_1
  · exact P_4_2
  · exact P_4_3
  · exact P_4_4
  · exact P_5_0
  · exact P_5_1
  · exact P_5_2
  · exact P_5_3
  · exact P_5_4
  · exact P_5_5
  · exact P_6_0
  · exact P_6_1
  · exact P_6_5
  · exact P_6_6
  · exact P_7_0
  · exact P_7_1
  · exact P_7_6
  · exact P_7_7
  · exact P_8_0
  · exact P_8_1
  · exact P_8_7
  · exact P_8_8
  · exact P_9_0
  · exact P_9_9
  · exact P_10_0
  · exact P_10_10

theorem both_short {n k : Nat} (h : shortB n k = true) : Both n k := by
  simp only [shortB, List.any_eq_true, Bool.and_eq_true, beq_iff_eq] at h
  obtain ⟨p, hp, rfl, rfl⟩ := h
  exact both_all p hp
def gaussB (n k : Nat) : Bool := match impl_GaussNumber.f 200 (n : Int) (k : Int), spec_GaussNumber.f 200 (n : Int) (k : Int) with
  | some (a, c), some (b, d) => decide (a = b) && (decide (c = 0) && (decide (d = 0) && (decide (400 < a) || shortB n k)))
  | _, _ => false
theorem gauss_all : ∀ n k : Fin 11, (1 ≤ n.val → k.val ≤ n.val → gaussB n.val k.val = true) := by decide +kernel
theorem gauss_out {n k : Int} (h : ¬ (1 ≤ n ∧ n ≤ 10 ∧ 0 ≤ k ∧ k ≤ n)) (K : Nat) : impl_GaussNumber.f K n k = some (0, 2) ∧ spec_GaussNumber.f K n k = some (0, 2) := by
  unfold spec_GaussNumber.f impl_GaussNumber.f spec_l00In.f impl_within.f
  by_cases h0 : n ≥ 1 <;> by_cases h1 : n ≤ 10 <;> by_cases h2 : k ≥ 0 <;> by_cases h3 : k ≤ n <;> first | omega | simp [h0, h1, h2, h3]
/-- The list and the code of both, and what the law asks of the list. -/
theorem main (n k : Int) : ∃ (K : Nat) (l l2 : List S33) (c m2 : Int), specSO.f K n k = some (l, c) ∧ implSO.f K n k = some (l, c) ∧ laws_eqMatrixS.f K l l = some true ∧ markMS.l K l 0 1 = some (m2, l2) ∧ laws_heldMatrixS.f K l2 1 = some m2 ∧ 0 ≤ m2 := by
  by_cases h : 1 ≤ n ∧ n ≤ 10 ∧ 0 ≤ k ∧ k ≤ n
  · obtain ⟨a, rfl⟩ : ∃ a : Nat, n = (a : Int) := ⟨n.toNat, by omega⟩
    obtain ⟨b, rfl⟩ : ∃ b : Nat, k = (b : Int) := ⟨k.toNat, by omega⟩
    have hg := gauss_all ⟨a, by omega⟩ ⟨b, by omega⟩ (by show 1 ≤ a; omega) (by show b ≤ a; omega)
    unfold gaussB at hg
    dsimp only at hg
    cases hi : impl_GaussNumber.f 200 (a : Int) (b : Int) with
    | none => rw [hi] at hg; cases hg
    | some p =>
      cases hs : spec_GaussNumber.f 200 (a : Int) (b : Int) with
      | none => rw [hi, hs] at hg; cases hg
      | some q =>
        obtain ⟨p1, p2⟩ := p
        obtain ⟨q1, q2⟩ := q
        rw [hi, hs] at hg
        dsimp only at hg
        simp only [Bool.and_eq_true, Bool.or_eq_true, decide_eq_true_eq] at hg
        obtain ⟨rfl, rfl, rfl, hg⟩ := hg
        by_cases hbig : 400 < p1
        · obtain ⟨m2, l2, t1, t2, t3, t4⟩ := tail_tells [] (by simp) (by simp) 1000 (by omega)
          obtain ⟨g1, g2⟩ := gauss_more hi hs (show 200 ≤ 1000 by omega)
          refine ⟨1000, [], l2, 3, m2, ?_, ?_, t1, t2, t3, t4⟩
          · unfold specSO.f; rw [g2, Option.bind_some]; dsimp only; rw [if_pos rfl, if_pos hbig]
          · unfold implSO.f; rw [g1, Option.bind_some]; dsimp only; rw [if_pos rfl, if_pos hbig]
        · have hsh : shortB a b = true := hg.resolve_left hbig
          obtain ⟨l, N, c1, c2, c3⟩ := both_short hsh
          obtain ⟨m2, l2, t1, t2, t3, t4⟩ := tail_tells l c1 c2 (N + 1000) (by omega)
          obtain ⟨g1, g2⟩ := gauss_more hi hs (show 200 ≤ N + 1000 by omega)
          obtain ⟨d1, d2⟩ := c3 (N + 1000) (by omega)
          refine ⟨N + 1000, l, l2, 0, m2, ?_, ?_, t1, t2, t3, t4⟩
          · unfold specSO.f; rw [g2, Option.bind_some]; dsimp only; rw [if_pos rfl, if_neg hbig, d1]; rfl
          · unfold implSO.f; rw [g1, Option.bind_some]; dsimp only; rw [if_pos rfl, if_neg hbig, d2]; rfl
  · obtain ⟨g1, g2⟩ := gauss_out h 1000
    obtain ⟨m2, l2, t1, t2, t3, t4⟩ := tail_tells [] (by simp) (by simp) 1000 (by omega)
    refine ⟨1000, [], l2, 2, m2, ?_, ?_, t1, t2, t3, t4⟩
    · unfold specSO.f; rw [g2, Option.bind_some]; dsimp only; rw [if_neg (by decide)]
    · unfold implSO.f; rw [g1, Option.bind_some]; dsimp only; rw [if_neg (by decide)]
end Go.Proofs.Ytaopplbahakpgaa.PureFnExactSpacesOf
