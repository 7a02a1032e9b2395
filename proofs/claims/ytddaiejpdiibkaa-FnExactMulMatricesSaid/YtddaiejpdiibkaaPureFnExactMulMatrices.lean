/- MulMatrices of the program and of the reference agree for every two matrices, valid or not, leave them alone, and hand back rows of their own (beyond 2^20 rows the law itself asks nothing). -/
import Derived.Test.YtddaiejpdiibkaaPFnExactMulMatricesx7
namespace Go.Proofs.Ytddaiejpdiibkaa.PureFnExactMulMatrices
open Go.RowKit Go.Proofs.Ytddaiejpdiibkaa.PFnExactMulMatrices Go.Proofs.YtddaiejpdiibkaaW.PrintWords Go.Proofs.YtddaiejpdiibkaaW.PrintLast Go.Proofs.YtddaiejpdiibkaaW.PrintMore
set_option linter.unusedVariables false
set_option linter.unusedSimpArgs false
theorem w64 {x : Int} (h0 : -9223372036854775808 ≤ x) (h1 : x ≤ 9223372036854775807) : wrap64 x = x := by unfold wrap64; omega
theorem rd_drop (l : List Int) (i : Int) (h0 : 0 ≤ i) (h1 : i < (l.length : Int)) : l.drop i.toNat = rd l i :: l.drop (i + 1).toNat := by
  have hl : i.toNat < l.length := by omega
  rw [List.drop_eq_getElem_cons hl]
  have e : (i + 1).toNat = i.toNat + 1 := by omega
  rw [e]
  congr 1
  unfold rd
  rw [List.getD_eq_getElem?_getD, List.getElem?_eq_getElem hl]; rfl
theorem wf64 {x : Int} (h : (Lit.int .i64 x).wf = true) : -9223372036854775808 ≤ x ∧ x ≤ 9223372036854775807 := by
  simp [Lit.wf, IntKind.min, IntKind.max, IntKind.signed, IntKind.bits] at h; omega
theorem maxLen_eq : maxLen = 9223372036854775807 := by unfold maxLen; rfl
def S (d : Int) : Int := 2 ^ d.toNat
theorem sizesM {c : Int} (h1 : 1 ≤ c) (h5 : c ≤ 10) : 0 ≤ IntKind.u64.wrap c ∧ IntKind.u64.wrap c = c ∧ shl .i64 1 c = S c ∧ wrap64 (S c - 1) = S c - 1 ∧ 2 ≤ S c ∧ S c ≤ 1024 ∧ wrap64 (S c) = S c := by
  have : c = 1 ∨ c = 2 ∨ c = 3 ∨ c = 4 ∨ c = 5 ∨ c = 6 ∨ c = 7 ∨ c = 8 ∨ c = 9 ∨ c = 10 := by omega
  rcases this with rfl | rfl | rfl | rfl | rfl | rfl | rfl | rfl | rfl | rfl <;> decide +kernel
def inM (c x : Int) : Bool := decide (0 ≤ x) && decide (x < S c)
theorem inM_iff {c x : Int} : inM c x = true ↔ 0 ≤ x ∧ x < S c := by unfold inM; simp
def okM (c : Int) (l : List Int) : Bool := decide (1 ≤ c) && decide (c ≤ 10) && decide (l.length ≤ 10) && l.all (inM c)
theorem okM_range {c : Int} {l : List Int} (h : okM c l = true) : 1 ≤ c ∧ c ≤ 10 ∧ l.length ≤ 10 ∧ ∀ x ∈ l, 0 ≤ x ∧ x < S c := by
  simp only [okM, Bool.and_eq_true, decide_eq_true_eq, List.all_eq_true] at h
  exact ⟨h.1.1.1, h.1.1.2, h.1.2, fun x hx => inM_iff.1 (h.2 x hx)⟩
theorem inM_spec {c : Int} (h1 : 1 ≤ c) (h5 : c ≤ 10) (x : Int) : spec_l00In.f x 0 (wrap64 (S c - 1)) = some (inM c x) := by
  obtain ⟨_, _, _, e2, _⟩ := sizesM h1 h5
  unfold spec_l00In.f inM
  rw [e2]
  by_cases h : x ≥ 0
  · have h0 : 0 ≤ x := h
    rw [if_pos h]
    by_cases h2 : x < S c
    · simp [h0, h2, show x ≤ S c - 1 by omega]
    · simp [h2, show ¬ x ≤ S c - 1 by omega]
  · have h0 : ¬ 0 ≤ x := h
    rw [if_neg h]; simp [h0]
theorem l02Ok_l {c : Int} (h1 : 1 ≤ c) (h5 : c ≤ 10) (l : List Int) (hl : l.length ≤ 10) : ∀ (n : Nat) (i : Int) (k : Nat), 0 ≤ i → i ≤ (l.length : Int) → (l.length : Int) - i = n → n < k → spec_l02Ok.l0 k i c l = some ((l.drop i.toNat).all (inM c)) := by
  obtain ⟨e0, e1, e2, _⟩ := sizesM h1 h5
  intro n
  induction n with
  | zero =>
    intro i k h0 h2 hd hk
    obtain ⟨k, rfl⟩ : ∃ m, k = m + 1 := ⟨k - 1, by omega⟩
    simp only [spec_l02Ok.l0]
    rw [if_neg (by omega), List.drop_eq_nil_of_le (by omega)]; rfl
  | succ n ih =>
    intro i k h0 h2 hd hk
    obtain ⟨k, rfl⟩ : ∃ m, k = m + 1 := ⟨k - 1, by omega⟩
    simp only [spec_l02Ok.l0]
    rw [if_pos (by omega), if_pos h0, if_pos e0, e1, e2, inM_spec h1 h5, w64 (x := i + 1) (by omega) (by omega), rd_drop l i h0 (by omega)]
    simp only [Option.bind_some, List.all_cons]
    by_cases e : inM c (rd l i) = true
    · rw [if_pos e, ih (i + 1) k (by omega) (by omega) (by omega) (by omega)]; simp [e]
    · rw [if_neg e]; simp [e]
theorem l02Ok_tells (c : Int) (l : List Int) (k : Nat) (hk : 20 ≤ k) : spec_l02Ok.f k c l = some (okM c l) := by
  obtain ⟨k, rfl⟩ : ∃ m, k = m + 1 := ⟨k - 1, by omega⟩
  unfold spec_l02Ok.f spec_l00In.f okM
  by_cases h1 : c ≥ 1
  · have h1' : 1 ≤ c := h1
    by_cases h5 : c ≤ 10
    · by_cases hl : l.length ≤ 10
      · have hl' : ¬ (l.length : Int) > 10 := by omega
        have e := l02Ok_l h1 h5 l hl l.length 0 k (by omega) (by omega) (by omega) (by omega)
        simp only [Int.toNat_zero, List.drop_zero] at e
        simp [h1, h1', h5, hl, hl', spec_l02Ok.j0, e]
      · have hl' : (l.length : Int) > 10 := by omega
        simp [h1, h1', h5, hl, hl', spec_l02Ok.j0]
    · simp [h1, h5, spec_l02Ok.j0]
  · have h1' : ¬ 1 ≤ c := h1
    simp [h1, h1', spec_l02Ok.j0]
theorem inM_impl {c : Int} (h1 : 1 ≤ c) (h5 : c ≤ 10) (l : List Int) (x : Int) : impl_Matrix_has.f c l x = some (inM c x) := by
  obtain ⟨_, _, e, e2, _⟩ := sizesM h1 h5
  unfold impl_Matrix_has.f impl_within.f inM
  rw [if_pos (by omega), e, e2]
  by_cases h : x ≥ 0
  · have h0 : 0 ≤ x := h
    rw [if_pos h]
    by_cases h2 : x < S c
    · simp [h0, h2, show x ≤ S c - 1 by omega]
    · simp [h2, show ¬ x ≤ S c - 1 by omega]
  · have h0 : ¬ 0 ≤ x := h
    rw [if_neg h]; simp [h0]
theorem any_not_inM (c : Int) (l : List Int) : (!l.any fun x => !inM c x) = l.all (inM c) := by
  induction l with
  | nil => rfl
  | cons x l ih => simp only [List.any_cons, List.all_cons, ← ih]; cases inM c x <;> simp
theorem validM_tells (c : Int) (l : List Int) : impl_ValidMatrix.f c l = some (okM c l) := by
  unfold impl_ValidMatrix.f okM
  by_cases h1 : c ≥ 1
  · have h1' : 1 ≤ c := h1
    by_cases h5 : c ≤ 10
    · have hw : impl_within.f c 1 10 = some true := by unfold impl_within.f; simp [h1, h5]
      rw [hw]
      by_cases hl : l.length ≤ 10
      · have hl' : (l.length : Int) ≤ 10 := by omega
        have e := anyO_some (fun x_ => impl_ValidMatrix_1.f x_ c l) (fun x => !inM c x) l (fun x _ => by unfold impl_ValidMatrix_1.f; rw [inM_impl h1 h5]; rfl)
        have e2 := any_not_inM c l
        simp only [Option.bind_some, if_true, hl', e, e2]
        simp [h1', h5, hl]
      · have hl' : ¬ (l.length : Int) ≤ 10 := by omega
        simp [hl, hl']
    · have hw : impl_within.f c 1 10 = some false := by unfold impl_within.f; simp [h1, h5]
      rw [hw]; simp [h5]
  · have h1' : ¬ 1 ≤ c := h1
    have hw : impl_within.f c 1 10 = some false := by unfold impl_within.f; simp [h1]
    rw [hw]; simp [h1']
theorem laws_eqInt64S.tells_l (a b : List Int) (hl : a.length = b.length) (hb : (a.length : Int) ≤ 9223372036854775807) : ∀ (d : Nat) (i : Int) (k : Nat), 0 ≤ i → i ≤ (a.length : Int) → (a.length : Int) - i = d → d < k →
    laws_eqInt64S.l0 k a b i = some (decide (a.drop i.toNat = b.drop i.toNat)) := by
  intro d
  induction d with
  | zero =>
    intro k' k h0 h1 hd hk
    obtain ⟨k, rfl⟩ : ∃ m, k = m + 1 := ⟨k - 1, by omega⟩
    simp only [laws_eqInt64S.l0]
    rw [if_neg (by omega), List.drop_eq_nil_of_le (by omega), List.drop_eq_nil_of_le (by omega)]; simp
  | succ d ih =>
    intro i k h0 h1 hd hk
    obtain ⟨k, rfl⟩ : ∃ m, k = m + 1 := ⟨k - 1, by omega⟩
    simp only [laws_eqInt64S.l0]
    rw [if_pos (by omega), if_pos h0, if_pos (by omega), w64 (by omega) (by omega), rd_drop a i h0 (by omega), rd_drop b i h0 (by omega)]
    by_cases e : rd a i = rd b i
    · rw [if_pos e, ih (i + 1) k (by omega) (by omega) (by omega) (by omega)]
      simp [e]
    · rw [if_neg e]; simp [e]
theorem laws_eqInt64S.tells (a b : List Int) (hb : a.length ≤ 9223372036854775807) (k : Nat) (hk : a.length < k) : laws_eqInt64S.f k a b = some (decide (a = b)) := by
  unfold laws_eqInt64S.f
  by_cases h : (a.length : Int) = (b.length : Int)
  · rw [if_pos h, laws_eqInt64S.tells_l a b (by omega) (by omega) a.length 0 k (by omega) (by omega) (by omega) hk]
    simp
  · rw [if_neg h]
    have : a ≠ b := fun e => h (by rw [e])
    simp [this]
theorem set_rd (l o : List Int) (i : Int) (h0 : 0 ≤ i) (h1 : i < (l.length : Int)) (ho : o.length = l.length) (he : o.take i.toNat = l.take i.toNat) : (o.set i.toNat (rd l i)).take (i + 1).toNat = l.take (i + 1).toNat := by
  have e : (i + 1).toNat = i.toNat + 1 := by omega
  have hl : i.toNat < l.length := by omega
  have ho' : i.toNat < o.length := by omega
  rw [e, List.take_succ_eq_append_getElem (by simpa using ho'), List.take_succ_eq_append_getElem hl, List.take_set_of_le (Nat.le_refl _), he, List.getElem_set_self]
  congr 2
  unfold rd
  rw [List.getD_eq_getElem?_getD, List.getElem?_eq_getElem hl]; rfl
theorem laws_toInt64S.tells_l (l : List Int) (hb : (l.length : Int) ≤ 9223372036854775807) : ∀ (d : Nat) (i : Int) (o : List Int) (k : Nat), 0 ≤ i → i ≤ (l.length : Int) → (l.length : Int) - i = d → d < k → o.length = l.length → o.take i.toNat = l.take i.toNat →
    laws_toInt64S.l0 k l o i = some l := by
  intro d
  induction d with
  | zero =>
    intro i o k h0 h1 hd hk ho he
    obtain ⟨k, rfl⟩ : ∃ m, k = m + 1 := ⟨k - 1, by omega⟩
    simp only [laws_toInt64S.l0]
    rw [if_neg (by omega)]
    have e : i.toNat = l.length := by omega
    rw [e, List.take_of_length_le (by omega), List.take_of_length_le (by omega)] at he
    rw [he]
  | succ d ih =>
    intro i o k h0 h1 hd hk ho he
    obtain ⟨k, rfl⟩ : ∃ m, k = m + 1 := ⟨k - 1, by omega⟩
    simp only [laws_toInt64S.l0]
    rw [if_pos (by omega), if_pos h0, if_pos (by omega), w64 (by omega) (by omega)]
    exact ih (i + 1) _ k (by omega) (by omega) (by omega) (by omega) (by simpa using ho) (set_rd l o i h0 (by omega) ho he)
theorem laws_toInt64S.tells (l : List Int) (hl : l.length ≤ 1048576) (k : Nat) (hk : l.length < k) : laws_toInt64S.f k l = some l := by
  unfold laws_toInt64S.f
  rw [if_pos (by omega), if_pos (by omega)]
  exact laws_toInt64S.tells_l l (by omega) l.length 0 _ k (by omega) (by omega) (by omega) hk (by simp) (by simp)
theorem laws_szInt64S.tells (l : List Int) (hl : l.length ≤ maxLen) (x : Int) (h0 : 0 ≤ x) (h1 : x ≤ 1048576) : laws_szInt64S.f l x = some (if x < (l.length : Int) then -1 else x - l.length) := by
  rw [maxLen_eq] at hl
  unfold laws_szInt64S.f
  rw [w64 (by omega) (by omega)]
  by_cases h : x < (l.length : Int)
  · rw [if_pos (by omega), if_pos h]
  · rw [if_neg (by omega), if_neg h]
theorem rd_set_self (l : List Int) (i x : Int) (h0 : 0 ≤ i) (h1 : i < (l.length : Int)) : rd (l.set i.toNat x) i = x := by
  unfold rd
  rw [List.getD_eq_getElem?_getD, List.getElem?_set_self (by omega)]; rfl
theorem rd_set_ne (l : List Int) (i t x : Int) (h0 : 0 ≤ i) (h1 : 0 ≤ t) (h : t ≠ i) : rd (l.set i.toNat x) t = rd l t := by
  unfold rd
  rw [List.getD_eq_getElem?_getD, List.getD_eq_getElem?_getD, List.getElem?_set_ne (by omega)]
theorem mark_l : ∀ (d : Nat) (l : List Int) (i x : Int) (k : Nat), 0 ≤ i → i + d = (l.length : Int) → 0 ≤ x → x + d ≤ 1099511627776 → i + d ≤ 1099511627776 → d < k →
    ∃ l', laws_markInt64S.l0 k l x i = some (x + d, l') ∧ l'.length = l.length ∧ (∀ t, 0 ≤ t → t < i → rd l' t = rd l t) ∧ ∀ t, i ≤ t → t < (l.length : Int) → rd l' t = x + (t - i) := by
  intro d
  induction d with
  | zero =>
    intro l i x k hi hd hx hx2 hi2 hk
    obtain ⟨k, rfl⟩ : ∃ m, k = m + 1 := ⟨k - 1, by omega⟩
    simp only [laws_markInt64S.l0]
    rw [if_neg (by omega)]
    exact ⟨l, by simp, rfl, fun _ _ _ => rfl, fun t h1 h2 => by omega⟩
  | succ d ih =>
    intro l i x k hi hd hx hx2 hi2 hk
    obtain ⟨k, rfl⟩ : ∃ m, k = m + 1 := ⟨k - 1, by omega⟩
    simp only [laws_markInt64S.l0]
    rw [if_pos (by omega), if_pos hi, w64 (x := x + 1) (by omega) (by omega), w64 (x := i + 1) (by omega) (by omega)]
    obtain ⟨l', e, hl, h1, h2⟩ := ih (l.set i.toNat x) (i + 1) (x + 1) k (by omega) (by simp; omega) (by omega) (by omega) (by omega) (by omega)
    refine ⟨l', by rw [e]; congr 2; omega, by simpa using hl, ?_, ?_⟩
    · intro t h0 ht
      rw [h1 t h0 (by omega), rd_set_ne l i t x hi h0 (by omega)]
    · intro t h0 ht
      by_cases e : t = i
      · rw [e, h1 i hi (by omega), rd_set_self l i x hi (by omega)]; omega
      · rw [h2 t (by omega) (by simpa using ht)]; omega
theorem held_l : ∀ (d : Nat) (l : List Int) (i x : Int) (k : Nat), 0 ≤ i → i + d = (l.length : Int) → 0 ≤ x → x + d ≤ 1099511627776 → i + d ≤ 1099511627776 → d < k → (∀ t, i ≤ t → t < (l.length : Int) → rd l t = x + (t - i)) →
    laws_heldInt64S.l0 k l x i = some (x + d) := by
  intro d
  induction d with
  | zero =>
    intro l i x k hi hd hx hx2 hi2 hk h
    obtain ⟨k, rfl⟩ : ∃ m, k = m + 1 := ⟨k - 1, by omega⟩
    simp only [laws_heldInt64S.l0]
    rw [if_neg (by omega)]; simp
  | succ d ih =>
    intro l i x k hi hd hx hx2 hi2 hk h
    obtain ⟨k, rfl⟩ : ∃ m, k = m + 1 := ⟨k - 1, by omega⟩
    simp only [laws_heldInt64S.l0]
    rw [if_pos (by omega), if_pos hi, if_pos (by rw [h i (by omega) (by omega)]; omega), w64 (x := x + 1) (by omega) (by omega), w64 (x := i + 1) (by omega) (by omega),
      ih l (i + 1) (x + 1) k (by omega) (by omega) (by omega) (by omega) (by omega) (by omega) (fun t h0 ht => by rw [h t (by omega) ht]; omega)]
    congr 1; omega
theorem mark_tells (l : List Int) (hl : l.length ≤ 2097152) (k : Nat) (hk : l.length < k) : ∃ l', laws_markInt64S.f k l 1 = some (1 + (l.length : Int), l') ∧ ∀ k', l.length < k' → laws_heldInt64S.f k' l' 1 = some (1 + (l.length : Int)) := by
  unfold laws_markInt64S.f laws_heldInt64S.f
  obtain ⟨l', e, e2, _, h⟩ := mark_l l.length l 0 1 k (by omega) (by omega) (by omega) (by omega) (by omega) hk
  refine ⟨l', e, fun k' hk' => ?_⟩
  exact held_l l.length l' 0 1 k' (by omega) (by omega) (by omega) (by omega) (by omega) hk' (fun t h0 ht => h t h0 (by omega))
theorem uw {x : Int} (h0 : 0 ≤ x) (h1 : x ≤ 20) : IntKind.u64.wrap x = x := by
  have h : ∀ i : Fin 21, IntKind.u64.wrap (i.val : Int) = (i.val : Int) := by decide +kernel
  have := h ⟨x.toNat, by omega⟩
  simp only [show ((x.toNat : Nat) : Int) = x by omega] at this
  exact this
theorem times_l (l : List Int) (hl : l.length ≤ 10) (x : Int) : ∀ (n : Nat) (i acc : Int), 0 ≤ i → i + n = (l.length : Int) →
    ∃ s : Int, ∀ k, n < k → spec_l02Times.l0 k x l acc i = some s ∧ impl_sumOf.l0 k x acc l (l.length : Int) i = some s := by
  intro n
  induction n with
  | zero =>
    intro i acc hi hd
    refine ⟨acc, fun k hk => ?_⟩
    obtain ⟨k, rfl⟩ : ∃ m, k = m + 1 := ⟨k - 1, by omega⟩
    simp only [spec_l02Times.l0, impl_sumOf.l0]
    rw [if_neg (by omega), if_neg (by omega)]
    exact ⟨rfl, rfl⟩
  | succ n ih =>
    intro i acc hi hd
    have hu : IntKind.u64.wrap i = i := uw hi (by omega)
    by_cases hb : Go.bits .and .i64 (shr .i64 x i) 1 = 1
    · obtain ⟨s, h⟩ := ih (i + 1) (Go.bits .xor .i64 acc (rd l i)) (by omega) (by omega)
      refine ⟨s, fun k hk => ?_⟩
      obtain ⟨k, rfl⟩ : ∃ m, k = m + 1 := ⟨k - 1, by omega⟩
      obtain ⟨e1, e2⟩ := h k (by omega)
      simp only [spec_l02Times.l0, impl_sumOf.l0]
      constructor
      · unfold spec_l02Bit.f
        rw [if_pos (by omega), hu, if_pos hi]
        simp only [Option.bind_some]
        rw [if_pos hb, if_pos hi, w64 (x := i + 1) (by omega) (by omega)]
        exact e1
      · rw [if_pos (by omega), if_pos hi, if_pos (by omega), if_pos hb, w64 (x := i + 1) (by omega) (by omega)]
        exact e2
    · obtain ⟨s, h⟩ := ih (i + 1) acc (by omega) (by omega)
      refine ⟨s, fun k hk => ?_⟩
      obtain ⟨k, rfl⟩ : ∃ m, k = m + 1 := ⟨k - 1, by omega⟩
      obtain ⟨e1, e2⟩ := h k (by omega)
      simp only [spec_l02Times.l0, impl_sumOf.l0]
      constructor
      · unfold spec_l02Bit.f
        rw [if_pos (by omega), hu, if_pos hi]
        simp only [Option.bind_some]
        rw [if_neg hb, w64 (x := i + 1) (by omega) (by omega)]
        exact e1
      · rw [if_pos (by omega), if_pos hi, if_pos (by omega), if_neg hb, w64 (x := i + 1) (by omega) (by omega)]
        exact e2
theorem codes2 {q : Option Bool} (c1 : Int) (l1 : List Int) (c2 : Int) (l2 : List Int) : codesO q [(⟨c1, l1⟩ : S33), (⟨c2, l2⟩ : S33)] = if (okM c1 l1 && okM c2 l2) = true then q.bind fun q => some (if q = true then 0 else 2) else some 1 := by
  unfold codesO
  have e3 := anyO_some (fun x : S33 => impl_matricesCode_1.f x.f0 x.f1) (fun x => !okM x.f0 x.f1) [(⟨c1, l1⟩ : S33), (⟨c2, l2⟩ : S33)] (fun x _ => by unfold impl_matricesCode_1.f; rw [validM_tells]; rfl)
  rw [e3]
  simp only [Option.bind_some, List.any_cons, List.any_nil, Bool.or_false]
  cases okM c1 l1 <;> cases okM c2 l2 <;> simp
theorem times_tells (l : List Int) (hl : l.length ≤ 10) (x : Int) : ∃ s : Int, ∀ k, 12 ≤ k → spec_l02Times.f k x l = some s ∧ impl_sumOf.f k l x = some s := by
  obtain ⟨s, h⟩ := times_l l hl x l.length 0 0 (by omega) (by omega)
  exact ⟨s, fun k hk => h k (by omega)⟩
theorem mul_l (c1 c2 c : Int) (l1 l2 : List Int) (hl : l1.length ≤ 10) (hl2 : l2.length ≤ 10) : ∀ (n : Nat) (i : Int) (R : List Int), 0 ≤ i → i + n = (l1.length : Int) → R.length + n ≤ 10 →
    ∃ S : List Int, S.length ≤ 10 ∧ ∀ k, n + 20 < k → spec_l02Mul.l0 k i c1 l1 c2 l2 c R = some (c, S) ∧ impl_Matrix_mul.l0 k l1 (l1.length : Int) i c2 l2 c R = some (c, S) := by
  intro n
  induction n with
  | zero =>
    intro i R hi hd hR
    refine ⟨R, by omega, fun k hk => ?_⟩
    obtain ⟨k, rfl⟩ : ∃ m, k = m + 1 := ⟨k - 1, by omega⟩
    rw [spec_l02Mul.l0, impl_Matrix_mul.l0, if_neg (by omega), if_neg (by omega)]
    exact ⟨rfl, rfl⟩
  | succ n ih =>
    intro i R hi hd hR
    obtain ⟨s, hs⟩ := times_tells l2 hl2 (rd l1 i)
    obtain ⟨S, hS, h⟩ := ih (i + 1) (R ++ [s]) (by omega) (by omega) (by simp; omega)
    refine ⟨S, hS, fun k hk => ?_⟩
    obtain ⟨k, rfl⟩ : ∃ m, k = m + 1 := ⟨k - 1, by omega⟩
    obtain ⟨e1, e2⟩ := hs k (by omega)
    constructor
    · rw [spec_l02Mul.l0, if_pos (by omega), if_pos hi, e1]
      simp only [Option.bind_some]
      rw [if_pos (by omega), w64 (x := i + 1) (by omega) (by omega)]
      exact (h k (by omega)).1
    · rw [impl_Matrix_mul.l0, if_pos (by omega), if_pos hi, if_pos (by omega), e2]
      simp only [Option.bind_some]
      rw [if_pos (by omega), w64 (x := i + 1) (by omega) (by omega)]
      exact (h k (by omega)).2
theorem spec_bad (k : Nat) (hk : 1 ≤ k) (c1 : Int) (l1 : List Int) (c2 : Int) (l2 : List Int) : spec_MulMatrices.j0 k true c1 l1 c2 l2 = some (0, [], 1) := by
  obtain ⟨k, rfl⟩ : ∃ m, k = m + 1 := ⟨k - 1, by omega⟩
  rw [spec_MulMatrices.j0, if_pos rfl]
theorem both (c1 : Int) (l1 : List Int) (c2 : Int) (l2 : List Int) : ∃ (m : Int) (L : List Int) (e : Int), L.length ≤ 10 ∧ ∀ K, 100 ≤ K → spec_MulMatrices.f K c1 l1 c2 l2 = some (m, L, e) ∧ impl_MulMatrices.f K c1 l1 c2 l2 = some (m, L, e) := by
  by_cases h1 : okM c1 l1 = true
  · by_cases h2 : okM c2 l2 = true
    · obtain ⟨_, _, q1, _⟩ := okM_range h1
      obtain ⟨_, _, q2, _⟩ := okM_range h2
      by_cases hc : c1 = (l2.length : Int)
      · obtain ⟨S, hS, h⟩ := mul_l c1 c2 c2 l1 l2 q1 q2 l1.length 0 [] (by omega) (by omega) (by simp; omega)
        refine ⟨c2, S, 0, hS, fun K hK => ?_⟩
        constructor
        · unfold spec_MulMatrices.f
          obtain ⟨K, rfl⟩ : ∃ m, K = m + 1 := ⟨K - 1, by omega⟩
          rw [l02Ok_tells c1 l1 _ (by omega), h1]
          simp only [Option.bind_some, if_true]
          rw [l02Ok_tells c2 l2 _ (by omega), h2]
          simp only [Option.bind_some]
          rw [show (!true) = false from rfl, spec_MulMatrices.j0, if_neg (by decide), if_pos hc]
          unfold spec_l02Mul.f
          rw [(h K (by omega)).1]; rfl
        · unfold impl_MulMatrices.f
          rw [codes2, h1, h2]
          unfold impl_MulMatrices_1.f impl_size_int64.f impl_Matrix_mul.f
          have e : (c1 == (l2.length : Int)) = true := by rw [beq_iff_eq]; exact hc
          simp only [Bool.and_self, if_true, e, Option.bind_some]
          rw [(h K (by omega)).2]; rfl
      · refine ⟨0, [], 2, by simp, fun K hK => ?_⟩
        constructor
        · unfold spec_MulMatrices.f
          obtain ⟨K, rfl⟩ : ∃ m, K = m + 1 := ⟨K - 1, by omega⟩
          rw [l02Ok_tells c1 l1 _ (by omega), h1]
          simp only [Option.bind_some, if_true]
          rw [l02Ok_tells c2 l2 _ (by omega), h2]
          simp only [Option.bind_some]
          rw [show (!true) = false from rfl, spec_MulMatrices.j0, if_neg (by decide), if_neg hc]
        · unfold impl_MulMatrices.f
          rw [codes2, h1, h2]
          unfold impl_MulMatrices_1.f impl_size_int64.f
          have e : (c1 == (l2.length : Int)) = false := by rw [beq_eq_false_iff_ne]; exact hc
          simp only [Bool.and_self, if_true, e, Option.bind_some]
          rfl
    · refine ⟨0, [], 1, by simp, fun K hK => ?_⟩
      constructor
      · unfold spec_MulMatrices.f
        rw [l02Ok_tells c1 l1 _ (by omega), h1]
        simp only [Option.bind_some, if_true]
        rw [l02Ok_tells c2 l2 _ (by omega), Bool.eq_false_iff.2 h2]
        exact spec_bad _ (by omega) _ _ _ _
      · unfold impl_MulMatrices.f
        rw [codes2, h1, Bool.eq_false_iff.2 h2]
        rfl
  · refine ⟨0, [], 1, by simp, fun K hK => ?_⟩
    constructor
    · unfold spec_MulMatrices.f
      rw [l02Ok_tells c1 l1 _ (by omega), Bool.eq_false_iff.2 h1]
      simp only [Option.bind_some]
      rw [if_neg (by decide)]
      exact spec_bad _ (by omega) _ _ _ _
    · unfold impl_MulMatrices.f
      rw [codes2, Bool.eq_false_iff.2 h1]
      rfl
theorem to_tells (c : Int) (l : List Int) (hb : l.length ≤ 1048576) (k : Nat) (hk : l.length < k) : laws_toMatrix.f k c l = some (c, l) := by
  unfold laws_toMatrix.f
  rw [laws_toInt64S.tells l hb k hk]; rfl
theorem eq_self (c : Int) (l : List Int) (hb : l.length ≤ 1048576) (k : Nat) (hk : l.length < k) : laws_eqMatrix.f k c l c l = some true := by
  unfold laws_eqMatrix.f
  rw [laws_eqInt64S.tells l l (by omega) k hk]; simp
theorem markM (c : Int) (l : List Int) (hl : l.length ≤ 2097152) (k : Nat) (hk : l.length < k) : ∃ l', laws_markMatrix.f k c l 1 = some (1 + (l.length : Int), l') ∧ ∀ k', l.length < k' → laws_heldMatrix.f k' c l' 1 = some (1 + (l.length : Int)) := by
  obtain ⟨l', m1, m2⟩ := mark_tells l hl k hk
  refine ⟨l', by unfold laws_markMatrix.f; rw [m1]; rfl, fun k' hk' => ?_⟩
  unfold laws_heldMatrix.f
  rw [m2 k' hk']
  simp only [Option.bind_some]
  rw [if_neg (by omega)]
theorem j2_tells (c : Int) (l' : List Int) (t e : Int) (k : Nat) (h : ∀ k', k ≤ k' + 1 → laws_heldMatrix.f k' c l' 1 = some t) (ht : 0 ≤ t) (hk : 1 ≤ k) : laws_FnExactMulMatrices.j2 k t (e != e) c l' = some true := by
  obtain ⟨k, rfl⟩ : ∃ m, k = m + 1 := ⟨k - 1, by omega⟩
  simp only [laws_FnExactMulMatrices.j2]
  rw [bne_self_eq_false, if_neg (by decide), h k (by omega)]
  simp only [Option.bind_some]
  rw [if_neg (by omega)]; simp
theorem markN (c : Int) (l : List Int) (hl : l.length ≤ 2097152) (x : Int) (h0 : 0 ≤ x) (h1 : x ≤ 2097152) (k : Nat) (hk : l.length < k) : ∃ l', laws_markMatrix.f k c l x = some (x + (l.length : Int), l') ∧ True := by
  obtain ⟨l', e, _, _, _⟩ := mark_l l.length l 0 x k (by omega) (by omega) h0 (by omega) (by omega) hk
  refine ⟨l', ?_, trivial⟩
  unfold laws_markMatrix.f laws_markInt64S.f
  rw [e]; rfl
theorem main : laws_FnExactMulMatrices.Pure := by
  intro c1 l1 c2 l2 _ hl1 _ _ hl2 _
  obtain ⟨m, L, e, hR, hb⟩ := both c1 l1 c2 l2
  refine ⟨l1.length + l2.length + 4000, ?_⟩
  generalize hK : l1.length + l2.length + 4000 = K
  unfold laws_FnExactMulMatrices.f laws_szMatrix.f
  rw [laws_szInt64S.tells l1 hl1 _ (by omega) (by omega)]
  by_cases h1 : (1048576 : Int) < (l1.length : Int)
  · simp [h1]
  · rw [if_neg h1]
    simp only [Option.bind_some]
    rw [if_neg (by omega)]
    simp only [Option.bind_some]
    rw [if_neg (by omega), laws_szInt64S.tells l2 hl2 _ (by omega) (by omega)]
    by_cases h2 : (1048576 - (l1.length : Int)) < (l2.length : Int)
    · simp [h2]
    · rw [if_neg h2]
      simp only [Option.bind_some]
      rw [if_neg (by omega)]
      simp only [Option.bind_some]
      rw [if_neg (by omega), to_tells c1 l1 (by omega) K (by omega)]
      simp only [Option.bind_some]
      rw [to_tells c2 l2 (by omega) K (by omega)]
      simp only [Option.bind_some]
      rw [(hb K (by omega)).1]
      simp only [Option.bind_some]
      rw [(hb K (by omega)).2]
      simp only [Option.bind_some]
      rw [eq_self m L (by omega) K (by omega)]
      simp only [Option.bind_some, if_true]
      rw [bne_self_eq_false]
      obtain ⟨K, rfl⟩ : ∃ m, K = m + 1 := ⟨K - 1, by omega⟩
      simp only [laws_FnExactMulMatrices.j0]
      obtain ⟨l1', a1, _⟩ := markN c1 l1 (by omega) 1 (by omega) (by omega) K (by omega)
      obtain ⟨l2', a2, _⟩ := markN c2 l2 (by omega) (1 + (l1.length : Int)) (by omega) (by omega) K (by omega)
      rw [if_neg (by decide), to_tells c1 l1 (by omega) K (by omega)]
      simp only [Option.bind_some]
      rw [eq_self c1 l1 (by omega) K (by omega)]
      simp only [Option.bind_some, if_true]
      rw [to_tells c2 l2 (by omega) K (by omega)]
      simp only [Option.bind_some]
      rw [eq_self c2 l2 (by omega) K (by omega)]
      simp only [Option.bind_some, if_true]
      rw [a1]
      simp only [Option.bind_some]
      rw [a2]
      simp only [Option.bind_some]
      rw [if_neg (by omega), eq_self m L (by omega) K (by omega)]
      simp only [Option.bind_some, if_true]
      rw [bne_self_eq_false]
      obtain ⟨K, rfl⟩ : ∃ m, K = m + 1 := ⟨K - 1, by omega⟩
      simp only [laws_FnExactMulMatrices.j1]
      obtain ⟨L', m2, m3⟩ := markM m L (by omega) K (by omega)
      rw [if_neg (by decide), m2]
      simp only [Option.bind_some]
      rw [m3 K (by omega)]
      simp only [Option.bind_some]
      rw [if_neg (by omega), if_true, to_tells c1 l1 (by omega) K (by omega)]
      simp only [Option.bind_some]
      rw [to_tells c2 l2 (by omega) K (by omega)]
      simp only [Option.bind_some]
      rw [(hb K (by omega)).2]
      simp only [Option.bind_some]
      rw [eq_self m L (by omega) K (by omega)]
      simp only [Option.bind_some, if_true]
      exact j2_tells m L' _ e K (fun k' hk' => m3 k' (by omega)) (by omega) (by omega)
end Go.Proofs.Ytddaiejpdiibkaa.PureFnExactMulMatrices
namespace Go.Proofs.Ytddaiejpdiibkaa.Pure
open Go.Proofs.Ytddaiejpdiibkaa.PFnExactMulMatrices
theorem FnExactMulMatrices : laws_FnExactMulMatrices.Pure := PureFnExactMulMatrices.main
end Go.Proofs.Ytddaiejpdiibkaa.Pure
