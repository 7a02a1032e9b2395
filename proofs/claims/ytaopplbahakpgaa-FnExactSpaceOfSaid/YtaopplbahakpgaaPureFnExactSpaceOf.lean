/- SpaceOf of the program and of the reference agree for every matrix, valid or not, leave it alone, and hand back rows of their own (beyond 2^20 rows the law itself asks nothing). -/
import Derived.Test.YtaopplbahakpgaaPFnExactSpaceOfx7
namespace Go.Proofs.Ytaopplbahakpgaa.PureFnExactSpaceOf
open Go.RowKit Go.Proofs.Ytaopplbahakpgaa.PFnExactSpaceOf Go.Proofs.YtaopplbahakpgaaW.PrintWords Go.Proofs.YtaopplbahakpgaaW.PrintLast Go.Proofs.YtaopplbahakpgaaW.PrintMore
set_option linter.unusedVariables false
set_option linter.unusedSimpArgs false
theorem w64 {x : Int} (h0 : -9223372036854775808 ≤ x) (h1 : x ≤ 9223372036854775807) : wrap64 x = x := by unfold wrap64; omega
theorem rd_drop (l : List Int) (i : Int) (h0 : 0 ≤ i) (h1 : i < (l.length : Int)) : l.drop i.toNat = rd l i :: l.drop (i + 1).toNat := by
  have hl : i.toNat < l.length := by omega
  rw [List.drop_eq_getElem_cons hl]
  have e : (i + 1).toNat = i.toNat + 1 := by omega
  rw [e]
  congr 1
  unfold rd
  rw [List.getD_eq_getElem?_getD, List.getElem?_eq_getElem hl]; rfl
theorem wf64 {x : Int} (h : (Lit.int .i64 x).wf = true) : -9223372036854775808 ≤ x ∧ x ≤ 9223372036854775807 := by
  simp [Lit.wf, IntKind.min, IntKind.max, IntKind.signed, IntKind.bits] at h; omega
theorem maxLen_eq : maxLen = 9223372036854775807 := by unfold maxLen; rfl
def S (d : Int) : Int := 2 ^ d.toNat
theorem sizesM {c : Int} (h1 : 1 ≤ c) (h5 : c ≤ 10) : 0 ≤ IntKind.u64.wrap c ∧ IntKind.u64.wrap c = c ∧ shl .i64 1 c = S c ∧ wrap64 (S c - 1) = S c - 1 ∧ 2 ≤ S c ∧ S c ≤ 1024 ∧ wrap64 (S c) = S c := by
  have : c = 1 ∨ c = 2 ∨ c = 3 ∨ c = 4 ∨ c = 5 ∨ c = 6 ∨ c = 7 ∨ c = 8 ∨ c = 9 ∨ c = 10 := by omega
  rcases this with rfl | rfl | rfl | rfl | rfl | rfl | rfl | rfl | rfl | rfl <;> decide +kernel
def inM (c x : Int) : Bool := decide (0 ≤ x) && decide (x < S c)
theorem inM_iff {c x : Int} : inM c x = true ↔ 0 ≤ x ∧ x < S c := by unfold inM; simp
def okM (c : Int) (l : List Int) : Bool := decide (1 ≤ c) && decide (c ≤ 10) && decide (l.length ≤ 10) && l.all (inM c)
theorem okM_range {c : Int} {l : List Int} (h : okM c l = true) : 1 ≤ c ∧ c ≤ 10 ∧ l.length ≤ 10 ∧ ∀ x ∈ l, 0 ≤ x ∧ x < S c := by
  simp only [okM, Bool.and_eq_true, decide_eq_true_eq, List.all_eq_true] at h
  exact ⟨h.1.1.1, h.1.1.2, h.1.2, fun x hx => inM_iff.1 (h.2 x hx)⟩
theorem inM_spec {c : Int} (h1 : 1 ≤ c) (h5 : c ≤ 10) (x : Int) : spec_l00In.f x 0 (wrap64 (S c - 1)) = some (inM c x) := by
  obtain ⟨_, _, _, e2, _⟩ := sizesM h1 h5
  unfold spec_l00In.f inM
  rw [e2]
  by_cases h : x ≥ 0
  · have h0 : 0 ≤ x := h
    rw [if_pos h]
    by_cases h2 : x < S c
    · simp [h0, h2, show x ≤ S c - 1 by omega]
    · simp [h2, show ¬ x ≤ S c - 1 by omega]
  · have h0 : ¬ 0 ≤ x := h
    rw [if_neg h]; simp [h0]
theorem l02Ok_l {c : Int} (h1 : 1 ≤ c) (h5 : c ≤ 10) (l : List Int) (hl : l.length ≤ 10) : ∀ (n : Nat) (i : Int) (k : Nat), 0 ≤ i → i ≤ (l.length : Int) → (l.length : Int) - i = n → n < k → spec_l02Ok.l0 k i c l = some ((l.drop i.toNat).all (inM c)) := by
  obtain ⟨e0, e1, e2, _⟩ := sizesM h1 h5
  intro n
  induction n with
  | zero =>
    intro i k h0 h2 hd hk
    obtain ⟨k, rfl⟩ : ∃ m, k = m + 1 := ⟨k - 1, by omega⟩
    simp only [spec_l02Ok.l0]
    rw [if_neg (by omega), List.drop_eq_nil_of_le (by omega)]; rfl
  | succ n ih =>
    intro i k h0 h2 hd hk
    obtain ⟨k, rfl⟩ : ∃ m, k = m + 1 := ⟨k - 1, by omega⟩
    simp only [spec_l02Ok.l0]
    rw [if_pos (by omega), if_pos h0, if_pos e0, e1, e2, inM_spec h1 h5, w64 (x := i + 1) (by omega) (by omega), rd_drop l i h0 (by omega)]
    simp only [Option.bind_some, List.all_cons]
    by_cases e : inM c (rd l i) = true
    · rw [if_pos e, ih (i + 1) k (by omega) (by omega) (by omega) (by omega)]; simp [e]
    · rw [if_neg e]; simp [e]
theorem l02Ok_tells (c : Int) (l : List Int) (k : Nat) (hk : 20 ≤ k) : spec_l02Ok.f k c l = some (okM c l) := by
  obtain ⟨k, rfl⟩ : ∃ m, k = m + 1 := ⟨k - 1, by omega⟩
  unfold spec_l02Ok.f spec_l00In.f okM
  by_cases h1 : c ≥ 1
  · have h1' : 1 ≤ c := h1
    by_cases h5 : c ≤ 10
    · by_cases hl : l.length ≤ 10
      · have hl' : ¬ (l.length : Int) > 10 := by omega
        have e := l02Ok_l h1 h5 l hl l.length 0 k (by omega) (by omega) (by omega) (by omega)
        simp only [Int.toNat_zero, List.drop_zero] at e
        simp [h1, h1', h5, hl, hl', spec_l02Ok.j0, e]
      · have hl' : (l.length : Int) > 10 := by omega
        simp [h1, h1', h5, hl, hl', spec_l02Ok.j0]
    · simp [h1, h5, spec_l02Ok.j0]
  · have h1' : ¬ 1 ≤ c := h1
    simp [h1, h1', spec_l02Ok.j0]
theorem inM_impl {c : Int} (h1 : 1 ≤ c) (h5 : c ≤ 10) (l : List Int) (x : Int) : impl_Matrix_has.f c l x = some (inM c x) := by
  obtain ⟨_, _, e, e2, _⟩ := sizesM h1 h5
  unfold impl_Matrix_has.f impl_within.f inM
  rw [if_pos (by omega), e, e2]
  by_cases h : x ≥ 0
  · have h0 : 0 ≤ x := h
    rw [if_pos h]
    by_cases h2 : x < S c
    · simp [h0, h2, show x ≤ S c - 1 by omega]
    · simp [h2, show ¬ x ≤ S c - 1 by omega]
  · have h0 : ¬ 0 ≤ x := h
    rw [if_neg h]; simp [h0]
theorem any_not_inM (c : Int) (l : List Int) : (!l.any fun x => !inM c x) = l.all (inM c) := by
  induction l with
  | nil => rfl
  | cons x l ih => simp only [List.any_cons, List.all_cons, ← ih]; cases inM c x <;> simp
theorem validM_tells (c : Int) (l : List Int) : impl_ValidMatrix.f c l = some (okM c l) := by
  unfold impl_ValidMatrix.f okM
  by_cases h1 : c ≥ 1
  · have h1' : 1 ≤ c := h1
    by_cases h5 : c ≤ 10
    · have hw : impl_within.f c 1 10 = some true := by unfold impl_within.f; simp [h1, h5]
      rw [hw]
      by_cases hl : l.length ≤ 10
      · have hl' : (l.length : Int) ≤ 10 := by omega
        have e := anyO_some (fun x_ => impl_ValidMatrix_1.f x_ c l) (fun x => !inM c x) l (fun x _ => by unfold impl_ValidMatrix_1.f; rw [inM_impl h1 h5]; rfl)
        have e2 := any_not_inM c l
        simp only [Option.bind_some, if_true, hl', e, e2]
        simp [h1', h5, hl]
      · have hl' : ¬ (l.length : Int) ≤ 10 := by omega
        simp [hl, hl']
    · have hw : impl_within.f c 1 10 = some false := by unfold impl_within.f; simp [h1, h5]
      rw [hw]; simp [h5]
  · have h1' : ¬ 1 ≤ c := h1
    have hw : impl_within.f c 1 10 = some false := by unfold impl_within.f; simp [h1]
    rw [hw]; simp [h1']
theorem laws_eqInt64S.tells_l (a b : List Int) (hl : a.length = b.length) (hb : (a.length : Int) ≤ 9223372036854775807) : ∀ (d : Nat) (i : Int) (k : Nat), 0 ≤ i → i ≤ (a.length : Int) → (a.length : Int) - i = d → d < k →
    laws_eqInt64S.l0 k a b i = some (decide (a.drop i.toNat = b.drop i.toNat)) := by
  intro d
  induction d with
  | zero =>
    intro k' k h0 h1 hd hk
    obtain ⟨k, rfl⟩ : ∃ m, k = m + 1 := ⟨k - 1, by omega⟩
    simp only [laws_eqInt64S.l0]
    rw [if_neg (by omega), List.drop_eq_nil_of_le (by omega), List.drop_eq_nil_of_le (by omega)]; simp
  | succ d ih =>
    intro i k h0 h1 hd hk
    obtain ⟨k, rfl⟩ : ∃ m, k = m + 1 := ⟨k - 1, by omega⟩
    simp only [laws_eqInt64S.l0]
    rw [if_pos (by omega), if_pos h0, if_pos (by omega), w64 (by omega) (by omega), rd_drop a i h0 (by omega), rd_drop b i h0 (by omega)]
    by_cases e : rd a i = rd b i
    · rw [if_pos e, ih (i + 1) k (by omega) (by omega) (by omega) (by omega)]
      simp [e]
    · rw [if_neg e]; simp [e]
theorem laws_eqInt64S.tells (a b : List Int) (hb : a.length ≤ 9223372036854775807) (k : Nat) (hk : a.length < k) : laws_eqInt64S.f k a b = some (decide (a = b)) := by
  unfold laws_eqInt64S.f
  by_cases h : (a.length : Int) = (b.length : Int)
  · rw [if_pos h, laws_eqInt64S.tells_l a b (by omega) (by omega) a.length 0 k (by omega) (by omega) (by omega) hk]
    simp
  · rw [if_neg h]
    have : a ≠ b := fun e => h (by rw [e])
    simp [this]
theorem set_rd (l o : List Int) (i : Int) (h0 : 0 ≤ i) (h1 : i < (l.length : Int)) (ho : o.length = l.length) (he : o.take i.toNat = l.take i.toNat) : (o.set i.toNat (rd l i)).take (i + 1).toNat = l.take (i + 1).toNat := by
  have e : (i + 1).toNat = i.toNat + 1 := by omega
  have hl : i.toNat < l.length := by omega
  have ho' : i.toNat < o.length := by omega
  rw [e, List.take_succ_eq_append_getElem (by simpa using ho'), List.take_succ_eq_append_getElem hl, List.take_set_of_le (Nat.le_refl _), he, List.getElem_set_self]
  congr 2
  unfold rd
  rw [List.getD_eq_getElem?_getD, List.getElem?_eq_getElem hl]; rfl
theorem laws_toInt64S.tells_l (l : List Int) (hb : (l.length : Int) ≤ 9223372036854775807) : ∀ (d : Nat) (i : Int) (o : List Int) (k : Nat), 0 ≤ i → i ≤ (l.length : Int) → (l.length : Int) - i = d → d < k → o.length = l.length → o.take i.toNat = l.take i.toNat →
    laws_toInt64S.l0 k l o i = some l := by
  intro d
  induction d with
  | zero =>
    intro i o k h0 h1 hd hk ho he
    obtain ⟨k, rfl⟩ : ∃ m, k = m + 1 := ⟨k - 1, by omega⟩
    simp only [laws_toInt64S.l0]
    rw [if_neg (by omega)]
    have e : i.toNat = l.length := by omega
    rw [e, List.take_of_length_le (by omega), List.take_of_length_le (by omega)] at he
    rw [he]
  | succ d ih =>
    intro i o k h0 h1 hd hk ho he
    obtain ⟨k, rfl⟩ : ∃ m, k = m + 1 := ⟨k - 1, by omega⟩
    simp only [laws_toInt64S.l0]
    rw [if_pos (by omega), if_pos h0, if_pos (by omega), w64 (by omega) (by omega)]
    exact ih (i + 1) _ k (by omega) (by omega) (by omega) (by omega) (by simpa using ho) (set_rd l o i h0 (by omega) ho he)
theorem laws_toInt64S.tells (l : List Int) (hl : l.length ≤ 1048576) (k : Nat) (hk : l.length < k) : laws_toInt64S.f k l = some l := by
  unfold laws_toInt64S.f
  rw [if_pos (by omega), if_pos (by omega)]
  exact laws_toInt64S.tells_l l (by omega) l.length 0 _ k (by omega) (by omega) (by omega) hk (by simp) (by simp)
theorem laws_szInt64S.tells (l : List Int) (hl : l.length ≤ maxLen) (x : Int) (h0 : 0 ≤ x) (h1 : x ≤ 1048576) : laws_szInt64S.f l x = some (if x < (l.length : Int) then -1 else x - l.length) := by
  rw [maxLen_eq] at hl
  unfold laws_szInt64S.f
  rw [w64 (by omega) (by omega)]
  by_cases h : x < (l.length : Int)
  · rw [if_pos (by omega), if_pos h]
  · rw [if_neg (by omega), if_neg h]
theorem rd_set_self (l : List Int) (i x : Int) (h0 : 0 ≤ i) (h1 : i < (l.length : Int)) : rd (l.set i.toNat x) i = x := by
  unfold rd
  rw [List.getD_eq_getElem?_getD, List.getElem?_set_self (by omega)]; rfl
theorem rd_set_ne (l : List Int) (i t x : Int) (h0 : 0 ≤ i) (h1 : 0 ≤ t) (h : t ≠ i) : rd (l.set i.toNat x) t = rd l t := by
  unfold rd
  rw [List.getD_eq_getElem?_getD, List.getD_eq_getElem?_getD, List.getElem?_set_ne (by omega)]
theorem mark_l : ∀ (d : Nat) (l : List Int) (i x : Int) (k : Nat), 0 ≤ i → i + d = (l.length : Int) → 0 ≤ x → x + d ≤ 1099511627776 → i + d ≤ 1099511627776 → d < k →
    ∃ l', laws_markInt64S.l0 k l x i = some (x + d, l') ∧ l'.length = l.length ∧ (∀ t, 0 ≤ t → t < i → rd l' t = rd l t) ∧ ∀ t, i ≤ t → t < (l.length : Int) → rd l' t = x + (t - i) := by
  intro d
  induction d with
  | zero =>
    intro l i x k hi hd hx hx2 hi2 hk
    obtain ⟨k, rfl⟩ : ∃ m, k = m + 1 := ⟨k - 1, by omega⟩
    simp only [laws_markInt64S.l0]
    rw [if_neg (by omega)]
    exact ⟨l, by simp, rfl, fun _ _ _ => rfl, fun t h1 h2 => by omega⟩
  | succ d ih =>
    intro l i x k hi hd hx hx2 hi2 hk
    obtain ⟨k, rfl⟩ : ∃ m, k = m + 1 := ⟨k - 1, by omega⟩
    simp only [laws_markInt64S.l0]
    rw [if_pos (by omega), if_pos hi, w64 (x := x + 1) (by omega) (by omega), w64 (x := i + 1) (by omega) (by omega)]
    obtain ⟨l', e, hl, h1, h2⟩ := ih (l.set i.toNat x) (i + 1) (x + 1) k (by omega) (by simp; omega) (by omega) (by omega) (by omega) (by omega)
    refine ⟨l', by rw [e]; congr 2; omega, by simpa using hl, ?_, ?_⟩
    · intro t h0 ht
      rw [h1 t h0 (by omega), rd_set_ne l i t x hi h0 (by omega)]
    · intro t h0 ht
      by_cases e : t = i
      · rw [e, h1 i hi (by omega), rd_set_self l i x hi (by omega)]; omega
      · rw [h2 t (by omega) (by simpa using ht)]; omega
theorem held_l : ∀ (d : Nat) (l : List Int) (i x : Int) (k : Nat), 0 ≤ i → i + d = (l.length : Int) → 0 ≤ x → x + d ≤ 1099511627776 → i + d ≤ 1099511627776 → d < k → (∀ t, i ≤ t → t < (l.length : Int) → rd l t = x + (t - i)) →
    laws_heldInt64S.l0 k l x i = some (x + d) := by
  intro d
  induction d with
  | zero =>
    intro l i x k hi hd hx hx2 hi2 hk h
    obtain ⟨k, rfl⟩ : ∃ m, k = m + 1 := ⟨k - 1, by omega⟩
    simp only [laws_heldInt64S.l0]
    rw [if_neg (by omega)]; simp
  | succ d ih =>
    intro l i x k hi hd hx hx2 hi2 hk h
    obtain ⟨k, rfl⟩ : ∃ m, k = m + 1 := ⟨k - 1, by omega⟩
    simp only [laws_heldInt64S.l0]
    rw [if_pos (by omega), if_pos hi, if_pos (by rw [h i (by omega) (by omega)]; omega), w64 (x := x + 1) (by omega) (by omega), w64 (x := i + 1) (by omega) (by omega),
      ih l (i + 1) (x + 1) k (by omega) (by omega) (by omega) (by omega) (by omega) (by omega) (fun t h0 ht => by rw [h t (by omega) ht]; omega)]
    congr 1; omega
theorem mark_tells (l : List Int) (hl : l.length ≤ 2097152) (k : Nat) (hk : l.length < k) : ∃ l', laws_markInt64S.f k l 1 = some (1 + (l.length : Int), l') ∧ ∀ k', l.length < k' → laws_heldInt64S.f k' l' 1 = some (1 + (l.length : Int)) := by
  unfold laws_markInt64S.f laws_heldInt64S.f
  obtain ⟨l', e, e2, _, h⟩ := mark_l l.length l 0 1 k (by omega) (by omega) (by omega) (by omega) (by omega) hk
  refine ⟨l', e, fun k' hk' => ?_⟩
  exact held_l l.length l' 0 1 k' (by omega) (by omega) (by omega) (by omega) (by omega) hk' (fun t h0 ht => h t h0 (by omega))
def T (L : List Nat) : List Int := L.map (fun n : Nat => (n : Int))
theorem len_T (L : List Nat) : (T L).length = L.length := by simp [T]
theorem rd_T (L : List Nat) (i : Nat) : rd (T L) (i : Int) = ((L.getD i 0 : Nat) : Int) := by
  unfold rd T
  rw [List.getD_eq_getElem?_getD, List.getD_eq_getElem?_getD, List.getElem?_map, Int.toNat_natCast]
  cases L[i]? <;> rfl
theorem set_T (L : List Nat) (i n : Nat) : (T L).set (i : Int).toNat (n : Int) = T (L.set i n) := by
  unfold T; rw [Int.toNat_natCast, List.map_set]
theorem i64_small (n : Int) (h0 : 0 ≤ n) (h1 : n < 2 ^ 10) : IntKind.i64.wrap n = n := by rw [IntKind.wrap_i64]; omega
theorem xor_T {a b : Nat} (ha : a < 1024) (hb : b < 1024) : Go.bits .xor .i64 (a : Int) (b : Int) = ((a ^^^ b : Nat) : Int) := by
  have ha' : a % 2 ^ IntKind.i64.bits = a := Nat.mod_eq_of_lt (by simp [IntKind.bits]; omega)
  have hb' : b % 2 ^ IntKind.i64.bits = b := Nat.mod_eq_of_lt (by simp [IntKind.bits]; omega)
  have hx : a ^^^ b < 2 ^ 10 := Nat.xor_lt_two_pow (n := 10) ha hb
  simp only [bits, BitVec.ofInt_natCast, BitVec.toNat_xor, BitVec.toNat_ofNat, ha', hb']
  exact i64_small _ (Int.natCast_nonneg _) (by exact_mod_cast hx)
theorem bit_T {x k : Nat} (hx : x < 1024) (hk : k ≤ 62) : Go.bits .and .i64 (shr .i64 (x : Int) (k : Int)) 1 = if x.testBit k = true then 1 else 0 := by
  have e : shr .i64 (x : Int) (k : Int) = ((x / 2 ^ k : Nat) : Int) := by
    unfold shr
    rw [Int.toNat_natCast, show min k IntKind.i64.bits = k by simp [IntKind.bits]; omega]
    simp
  have h2 : x / 2 ^ k < 1024 := Nat.lt_of_le_of_lt (Nat.div_le_self _ _) hx
  rw [e]
  have := (bits_nat .i64 10 (by decide) i64_small (x / 2 ^ k) 1 h2 (by decide)).1
  rw [show (1 : Int) = ((1 : Nat) : Int) from rfl, this, Nat.and_one_is_mod, Nat.testBit_eq_decide_div_mod_eq]
  by_cases h : x / 2 ^ k % 2 = 1
  · simp [h]
  · have : x / 2 ^ k % 2 = 0 := by omega
    simp [this]
theorem uw {x : Int} (h0 : 0 ≤ x) (h1 : x ≤ 20) : IntKind.u64.wrap x = x := by
  have h : ∀ i : Fin 21, IntKind.u64.wrap (i.val : Int) = (i.val : Int) := by decide +kernel
  have := h ⟨x.toNat, by omega⟩
  simp only [show ((x.toNat : Nat) : Int) = x by omega] at this
  exact this
theorem sbit_T {x k : Nat} (hx : x < 1024) (hk : k ≤ 20) : spec_l02Bit.f (x : Int) (k : Int) = some (if x.testBit k = true then 1 else 0) := by
  unfold spec_l02Bit.f
  rw [uw (by omega) (by omega), if_pos (by omega), bit_T hx (by omega)]
def Sp : List Nat → Nat → Prop
  | [], w => w = 0
  | x :: L, w => Sp L w ∨ Sp L (w ^^^ x)
theorem sp_zero : ∀ L : List Nat, Sp L 0
  | [] => rfl
  | _ :: L => Or.inl (sp_zero L)
theorem xx (a b : Nat) : a ^^^ b ^^^ b = a := by rw [Nat.xor_assoc, Nat.xor_self, Nat.xor_zero]
theorem sp_xor : ∀ (L : List Nat) {a b : Nat}, Sp L a → Sp L b → Sp L (a ^^^ b)
  | [], a, b, ha, hb => by
    have h1 : a = 0 := ha
    have h2 : b = 0 := hb
    subst h1 h2; rfl
  | x :: L, a, b, ha, hb => by
    rcases ha with ha | ha <;> rcases hb with hb | hb
    · exact Or.inl (sp_xor L ha hb)
    · refine Or.inr ?_
      have := sp_xor L ha hb
      rwa [← Nat.xor_assoc] at this
    · refine Or.inr ?_
      have := sp_xor L ha hb
      rwa [show a ^^^ x ^^^ b = a ^^^ b ^^^ x by rw [Nat.xor_assoc, Nat.xor_comm x b, ← Nat.xor_assoc]] at this
    · refine Or.inl ?_
      have := sp_xor L ha hb
      rwa [show a ^^^ x ^^^ (b ^^^ x) = a ^^^ b by rw [Nat.xor_comm b x, ← Nat.xor_assoc, xx]] at this
theorem sp_mem : ∀ (L : List Nat) {x : Nat}, x ∈ L → Sp L x
  | y :: L, x, h => by
    rcases List.mem_cons.1 h with rfl | h
    · exact Or.inr (by rw [Nat.xor_self]; exact sp_zero L)
    · exact Or.inl (sp_mem L h)
theorem sp_min {V : Nat → Prop} (h0 : V 0) (hx : ∀ a b, V a → V b → V (a ^^^ b)) : ∀ (L : List Nat) {w : Nat}, (∀ x ∈ L, V x) → Sp L w → V w
  | [], w, _, h => by have : w = 0 := h; rw [this]; exact h0
  | x :: L, w, hm, h => by
    rcases h with h | h
    · exact sp_min h0 hx L (fun y hy => hm y (List.mem_cons_of_mem _ hy)) h
    · have h1 := sp_min h0 hx L (fun y hy => hm y (List.mem_cons_of_mem _ hy)) h
      have := hx _ _ h1 (hm x List.mem_cons_self)
      rwa [xx] at this
def fB (k l w : Nat) : Nat := if w.testBit k = true then w ^^^ l else w
theorem fB_bit {k l : Nat} (hl : l.testBit k = true) (w : Nat) : (fB k l w).testBit k = false := by
  unfold fB
  cases h : w.testBit k with
  | true => rw [if_pos rfl, Nat.testBit_xor, h, hl]; rfl
  | false => rw [if_neg (by decide), h]
theorem fB_xor {k l : Nat} (hl : l.testBit k = true) (a b : Nat) : fB k l (a ^^^ b) = fB k l a ^^^ fB k l b := by
  unfold fB
  rw [Nat.testBit_xor]
  cases ha : a.testBit k <;> cases hb : b.testBit k <;> simp
  · rw [Nat.xor_assoc]
  · rw [Nat.xor_assoc, Nat.xor_comm b l, ← Nat.xor_assoc]
  · rw [Nat.xor_comm b l, ← Nat.xor_assoc, xx]
theorem fB_sp {k l : Nat} {L : List Nat} (hl : Sp L l) {w : Nat} (hw : Sp L w) : Sp L (fB k l w) := by
  unfold fB
  split
  · exact sp_xor L hw hl
  · exact hw
/-- the span of what is left, behind a column with a lead -/
theorem sp_lead {k l : Nat} {L M : List Nat} (hl : l.testBit k = true) (ha : ∀ y ∈ M, Sp L y ∧ y.testBit k = false) (hb : ∀ x ∈ L, Sp M (fB k l x)) (w : Nat) : Sp M w ↔ Sp L w ∧ w.testBit k = false := by
  constructor
  · exact sp_min (V := fun w => Sp L w ∧ w.testBit k = false) ⟨sp_zero L, by simp⟩ (fun a b h1 h2 => ⟨sp_xor L h1.1 h2.1, by rw [Nat.testBit_xor, h1.2, h2.2]; rfl⟩) M ha
  · rintro ⟨h1, h2⟩
    have := sp_min (V := fun w => Sp M (fB k l w)) (by show Sp M (fB k l 0); have : fB k l 0 = 0 := by unfold fB; simp
                                                       rw [this]; exact sp_zero M) (fun a b h1 h2 => by show Sp M (fB k l (a ^^^ b)); rw [fB_xor hl]; exact sp_xor M h1 h2) L hb h1
    have e : fB k l w = w := by unfold fB; rw [h2]; rfl
    rwa [e] at this
theorem sp_low {L : List Nat} {k : Nat} (h : ∀ x ∈ L, x.testBit k = false) {w : Nat} (hw : Sp L w) : w.testBit k = false :=
  sp_min (V := fun w => w.testBit k = false) (by simp) (fun a b h1 h2 => by rw [Nat.testBit_xor, h1, h2]; rfl) L h hw
theorem sp_small {L : List Nat} {c : Nat} (h : ∀ x ∈ L, x < 2 ^ c) {w : Nat} (hw : Sp L w) : w < 2 ^ c :=
  sp_min (V := fun w => w < 2 ^ c) (Nat.two_pow_pos c) (fun a b h1 h2 => Nat.xor_lt_two_pow h1 h2) L h hw
structure Inv (c k : Nat) (left out rest out' : List Nat) : Prop where
  len : out.length = out'.length
  dif : ∀ j, Sp left (out.getD j 0 ^^^ out'.getD j 0)
  same : ∀ w, Sp left w ↔ Sp rest w
  low : ∀ x ∈ left, ∀ b < k, x.testBit b = false
  sl : ∀ x ∈ left, x < 2 ^ c
  so : ∀ x ∈ out, x < 2 ^ c
  sr : ∀ x ∈ rest, x < 2 ^ c
  so' : ∀ x ∈ out', x < 2 ^ c
theorem Inv.none {c k : Nat} {left out rest out' : List Nat} (h : Inv c k left out rest out') : (∀ x ∈ left, x.testBit k = false) ↔ (∀ x ∈ rest, x.testBit k = false) :=
  ⟨fun hl x hx => sp_low hl ((h.same x).2 (sp_mem rest hx)), fun hr x hx => sp_low hr ((h.same x).1 (sp_mem left hx))⟩
theorem Inv.skip {c k : Nat} {left out rest out' : List Nat} (h : Inv c k left out rest out') (hn : ∀ x ∈ left, x.testBit k = false) : Inv c (k + 1) left out rest out' :=
  ⟨h.len, h.dif, h.same, fun x hx b hb => by
    by_cases e : b = k
    · rw [e]; exact hn x hx
    · exact h.low x hx b (by omega), h.sl, h.so, h.sr, h.so'⟩
theorem getD_map_append (f : Nat → Nat) (hf : f 0 = 0) (L : List Nat) (l j : Nat) : (L.map f ++ [l]).getD j 0 = if j = L.length then l else f (L.getD j 0) := by
  rw [List.getD_eq_getElem?_getD, List.getD_eq_getElem?_getD]
  by_cases h : j < L.length
  · rw [if_neg (by omega), List.getElem?_append_left (by simpa using h), List.getElem?_map]
    rw [List.getElem?_eq_getElem h]; rfl
  · by_cases e : j = L.length
    · rw [if_pos e, List.getElem?_append_right (by simp; omega)]
      simp [e]
    · rw [if_neg e, List.getElem?_eq_none (by simp; omega), List.getElem?_eq_none (by omega)]
      simp [hf]
theorem fB_small {c k l w : Nat} (hl : l < 2 ^ c) (hw : w < 2 ^ c) : fB k l w < 2 ^ c := by
  unfold fB
  split
  · exact Nat.xor_lt_two_pow hw hl
  · exact hw
theorem fB_zero (k l : Nat) : fB k l 0 = 0 := by unfold fB; simp
theorem Inv.lead {c k l l' : Nat} {left out rest out' rest2 : List Nat} (h : Inv c k left out rest out') (hl : l ∈ left) (hlb : l.testBit k = true) (hl' : l' ∈ rest) (hlb' : l'.testBit k = true)
    (hr : ∀ x ∈ rest2, x ∈ rest) (hr2 : ∀ x ∈ rest, x = l' ∨ x ∈ rest2) : Inv c (k + 1) (left.map (fB k l)) (out.map (fB k l) ++ [l]) (rest2.map (fB k l')) (out'.map (fB k l') ++ [l']) := by
  have s1 := sp_lead (L := left) (M := left.map (fB k l)) hlb (fun y hy => by
    obtain ⟨x, hx, rfl⟩ := List.mem_map.1 hy
    exact ⟨fB_sp (sp_mem left hl) (sp_mem left hx), fB_bit hlb x⟩) (fun x hx => sp_mem _ (List.mem_map.2 ⟨x, hx, rfl⟩))
  have s2 := sp_lead (L := rest) (M := rest2.map (fB k l')) hlb' (fun y hy => by
    obtain ⟨x, hx, rfl⟩ := List.mem_map.1 hy
    exact ⟨fB_sp (sp_mem rest hl') (sp_mem rest (hr x hx)), fB_bit hlb' x⟩) (fun x hx => by
    rcases hr2 x hx with rfl | hx
    · have : fB k x x = 0 := by unfold fB; rw [if_pos hlb', Nat.xor_self]
      rw [this]; exact sp_zero _
    · exact sp_mem _ (List.mem_map.2 ⟨x, hx, rfl⟩))
  have wl : Sp left l := sp_mem left hl
  have wl' : Sp left l' := (h.same l').2 (sp_mem rest hl')
  refine ⟨by simp [h.len], fun j => ?_, fun w => ?_, fun x hx b hb => ?_, ?_, ?_, ?_, ?_⟩
  · rw [s1, getD_map_append _ (fB_zero k l), getD_map_append _ (fB_zero k l'), ← h.len]
    by_cases e : j = out.length
    · rw [if_pos e, if_pos e]
      exact ⟨sp_xor left wl wl', by rw [Nat.testBit_xor, hlb, hlb']; rfl⟩
    · rw [if_neg e, if_neg e]
      refine ⟨?_, by rw [Nat.testBit_xor, fB_bit hlb, fB_bit hlb']; rfl⟩
      have hd := h.dif j
      generalize out.getD j 0 = y at hd ⊢
      generalize out'.getD j 0 = y' at hd ⊢
      unfold fB
      split <;> split
      · have := sp_xor left (sp_xor left hd wl) wl'
        rwa [show y ^^^ y' ^^^ l ^^^ l' = y ^^^ l ^^^ (y' ^^^ l') by ac_rfl] at this
      · have := sp_xor left hd wl
        rwa [show y ^^^ y' ^^^ l = y ^^^ l ^^^ y' by ac_rfl] at this
      · have := sp_xor left hd wl'
        rwa [show y ^^^ y' ^^^ l' = y ^^^ (y' ^^^ l') by ac_rfl] at this
      · exact hd
  · rw [s1, s2, h.same]
  · have hx' := (s1 x).1 (sp_mem _ hx)
    by_cases e : b = k
    · rw [e]; exact hx'.2
    · exact sp_low (fun y hy => h.low y hy b (by omega)) hx'.1
  · intro x hx
    obtain ⟨y, hy, rfl⟩ := List.mem_map.1 hx
    exact fB_small (h.sl l hl) (h.sl y hy)
  · intro x hx
    rcases List.mem_append.1 hx with hx | hx
    · obtain ⟨y, hy, rfl⟩ := List.mem_map.1 hx
      exact fB_small (h.sl l hl) (h.so y hy)
    · rw [List.mem_singleton.1 hx]; exact h.sl l hl
  · intro x hx
    obtain ⟨y, hy, rfl⟩ := List.mem_map.1 hx
    exact fB_small (h.sr l' hl') (h.sr y (hr y hy))
  · intro x hx
    rcases List.mem_append.1 hx with hx | hx
    · obtain ⟨y, hy, rfl⟩ := List.mem_map.1 hx
      exact fB_small (h.sr l' hl') (h.so' y hy)
    · rw [List.mem_singleton.1 hx]; exact h.sr l' hl'
theorem outs_eq {left out out' : List Nat} (hlen : out.length = out'.length) (hd : ∀ j, Sp left (out.getD j 0 ^^^ out'.getD j 0)) (hz : ∀ w, Sp left w → w = 0) : out = out' := by
  refine List.ext_getElem hlen fun j h1 h2 => ?_
  have := hz _ (hd j)
  rw [List.getD_eq_getElem?_getD, List.getD_eq_getElem?_getD, List.getElem?_eq_getElem h1, List.getElem?_eq_getElem h2] at this
  simp only [Option.getD_some] at this
  have e := xx out[j] out'[j]
  rw [this, Nat.zero_xor] at e
  exact e.symm
/-- behind the last column, or where one side has nothing left -/
theorem Inv.ends {c k : Nat} {left out rest out' : List Nat} (h : Inv c k left out rest out') (hk : c ≤ k) : out = out' :=
  outs_eq h.len h.dif fun w hw => by
    refine Nat.eq_of_testBit_eq fun b => ?_
    rw [Nat.zero_testBit]
    by_cases hb : b < k
    · exact sp_low (fun x hx => h.low x hx b hb) hw
    · exact Nat.testBit_lt_two_pow (Nat.lt_of_lt_of_le (sp_small h.sl hw) (Nat.pow_le_pow_right (by omega) (by omega)))
theorem Inv.empty {c k : Nat} {left out out' : List Nat} (h : Inv c k left out [] out') : out = out' ∧ ∀ x ∈ left, x = 0 :=
  ⟨outs_eq h.len h.dif fun w hw => (h.same w).1 hw, fun x hx => (h.same x).1 (sp_mem left hx)⟩

def mapFrom (f : Nat → Nat) (i : Nat) (L : List Nat) : List Nat := L.take i ++ (L.drop i).map f
theorem getD_lt (L : List Nat) (i : Nat) (h : i < L.length) : L.getD i 0 = L[i] := by
  rw [List.getD_eq_getElem?_getD, List.getElem?_eq_getElem h]; rfl
theorem mapFrom_step (f : Nat → Nat) (i : Nat) (L : List Nat) (h : i < L.length) : mapFrom f (i + 1) (L.set i (f (L.getD i 0))) = mapFrom f i L := by
  unfold mapFrom
  rw [List.take_succ_eq_append_getElem (by simpa using h), List.take_set_of_le (Nat.le_refl _), List.getElem_set_self, List.drop_set_of_lt (by omega), List.drop_eq_getElem_cons h, List.map_cons, getD_lt L i h, List.append_assoc]
  rfl
theorem mapFrom_skip (f : Nat → Nat) (i : Nat) (L : List Nat) (h : i < L.length) (hf : f (L.getD i 0) = L.getD i 0) : mapFrom f (i + 1) L = mapFrom f i L := by
  have := mapFrom_step f i L h
  rw [hf] at this
  have e : L.set i (L.getD i 0) = L := by rw [getD_lt L i h, List.set_getElem_self]
  rwa [e] at this
theorem mapFrom_end (f : Nat → Nat) (L : List Nat) : mapFrom f L.length L = L := by unfold mapFrom; simp
theorem mapFrom_zero (f : Nat → Nat) (L : List Nat) : mapFrom f 0 L = L.map f := by unfold mapFrom; simp
theorem getD_small {L : List Nat} (h : ∀ x ∈ L, x < 1024) (i : Nat) : L.getD i 0 < 1024 := by
  by_cases hi : i < L.length
  · rw [getD_lt L i hi]; exact h _ (List.getElem_mem hi)
  · rw [List.getD_eq_getElem?_getD, List.getElem?_eq_none (by omega)]; simp
theorem set_small {L : List Nat} (h : ∀ x ∈ L, x < 1024) (i y : Nat) (hy : y < 1024) : ∀ x ∈ L.set i y, x < 1024 := by
  intro x hx
  rcases List.mem_or_eq_of_mem_set hx with hx | rfl
  · exact h x hx
  · exact hy
theorem fB_lt {k l w : Nat} (hl : l < 1024) (hw : w < 1024) : fB k l w < 1024 := fB_small (c := 10) hl hw
/-- the reference clears a column: the rows left -/
theorem spec_l2 {c k l : Nat} (hk : k ≤ 20) (hl : l < 1024) (O : List Int) : ∀ (n i : Nat) (L : List Nat), i + n = L.length → L.length ≤ 1000 → (∀ x ∈ L, x < 1024) → ∀ K,
    spec_l02Echelon.l2 (K + n + 1) (c : Int) (T L) O (k : Int) (l : Int) (i : Int) = spec_l02Echelon.l3 K (c : Int) (T (mapFrom (fB k l) i L)) O (k : Int) (l : Int) 0 := by
  intro n
  induction n with
  | zero =>
    intro i L hn hL hs K
    simp only [spec_l02Echelon.l2, len_T]
    rw [if_neg (by omega), show i = L.length by omega, mapFrom_end]
  | succ n ih =>
    intro i L hn hL hs K
    rw [show K + (n + 1) + 1 = K + n + 1 + 1 by omega]
    obtain ⟨K', hK'⟩ : ∃ K', K' = K + n + 1 := ⟨_, rfl⟩
    rw [← hK']
    have hx := getD_small hs i
    simp only [spec_l02Echelon.l2, len_T]
    rw [if_pos (by omega), if_pos (by omega), rd_T, sbit_T hx hk, w64 (x := (i : Int) + 1) (by omega) (by omega), show (i : Int) + 1 = ((i + 1 : Nat) : Int) by omega, hK']
    simp only [Option.bind_some]
    by_cases hb : (L.getD i 0).testBit k = true
    · rw [if_pos hb, if_pos rfl, xor_T hx hl, set_T, ih (i + 1) _ (by simp; omega) (by simpa using hL) (set_small hs i _ (Nat.xor_lt_two_pow (n := 10) hx hl))]
      have e : L.getD i 0 ^^^ l = fB k l (L.getD i 0) := by unfold fB; rw [if_pos hb]
      rw [e, mapFrom_step _ i L (by omega)]
    · rw [if_neg hb, if_neg (by decide), ih (i + 1) L (by omega) hL hs, mapFrom_skip _ i L (by omega) (by unfold fB; rw [if_neg hb])]
theorem spec_l3 {c k l : Nat} (hk : k ≤ 20) (hl : l < 1024) (O : List Int) : ∀ (n i : Nat) (L : List Nat), i + n = L.length → L.length ≤ 1000 → (∀ x ∈ L, x < 1024) → ∀ K,
    spec_l02Echelon.l3 (K + n + 1) (c : Int) O (T L) (k : Int) (l : Int) (i : Int) = spec_l02Echelon.l0 K (c : Int) O (T (mapFrom (fB k l) i L ++ [l])) ((k + 1 : Nat) : Int) := by
  intro n
  induction n with
  | zero =>
    intro i L hn hL hs K
    simp only [spec_l02Echelon.l3, len_T]
    rw [if_neg (by omega), show i = L.length by omega, mapFrom_end, if_pos (by omega), w64 (by omega) (by omega)]
    simp [T]
  | succ n ih =>
    intro i L hn hL hs K
    rw [show K + (n + 1) + 1 = K + n + 1 + 1 by omega]
    obtain ⟨K', hK'⟩ : ∃ K', K' = K + n + 1 := ⟨_, rfl⟩
    rw [← hK']
    have hx := getD_small hs i
    simp only [spec_l02Echelon.l3, len_T]
    rw [if_pos (by omega), if_pos (by omega), rd_T, sbit_T hx hk, w64 (x := (i : Int) + 1) (by omega) (by omega), show (i : Int) + 1 = ((i + 1 : Nat) : Int) by omega, hK']
    simp only [Option.bind_some]
    by_cases hb : (L.getD i 0).testBit k = true
    · rw [if_pos hb, if_pos rfl, xor_T hx hl, set_T, ih (i + 1) _ (by simp; omega) (by simpa using hL) (set_small hs i _ (Nat.xor_lt_two_pow (n := 10) hx hl))]
      have e : L.getD i 0 ^^^ l = fB k l (L.getD i 0) := by unfold fB; rw [if_pos hb]
      rw [e, mapFrom_step _ i L (by omega)]
    · rw [if_neg hb, if_neg (by decide), ih (i + 1) L (by omega) hL hs, mapFrom_skip _ i L (by omega) (by unfold fB; rw [if_neg hb])]
theorem spec_at {c k : Nat} (O : List Int) (L : List Nat) (a i K : Nat) (ha : a < L.length) : spec_l02Echelon.l1 (K + 2) (c : Int) (T L) O (k : Int) (a : Int) (i : Int) = spec_l02Echelon.l2 K (c : Int) (T (L.set a 0)) O (k : Int) ((L.getD a 0 : Nat) : Int) 0 := by
  have h0 : ¬ (a : Int) < 0 := by omega
  have h1 : (0 : Int) ≤ (a : Int) := by omega
  have h2 : (a : Int) < (L.length : Int) := by omega
  have e : ∀ x9 : Int, spec_l02Echelon.j2 (K + 1) (c : Int) (T L) O (k : Int) (a : Int) x9 false = spec_l02Echelon.l2 K (c : Int) (T (L.set a 0)) O (k : Int) ((L.getD a 0 : Nat) : Int) 0 := by
    intro x9
    rw [spec_l02Echelon.j2, if_neg (show ¬ (false = true) by decide), if_neg h0, if_pos h1, len_T, if_pos h2, rd_T]
    have := set_T L a 0
    rw [← this]
    rfl
  rw [show K + 2 = (K + 1) + 1 from rfl, spec_l02Echelon.l1, decide_eq_false h0, e, ite_self]
theorem spec_found {c k : Nat} (hk : k ≤ 20) (O : List Int) (L : List Nat) (hL : L.length ≤ 1000) (hs : ∀ x ∈ L, x < 1024) (i K : Nat) (hi : i < L.length) (hb : (L.getD i 0).testBit k = true) :
    spec_l02Echelon.l1 (K + 2) (c : Int) (T L) O (k : Int) (-1) (i : Int) = spec_l02Echelon.l1 K (c : Int) (T L) O (k : Int) (i : Int) ((i + 1 : Nat) : Int) := by
  have hx := getD_small hs i
  rw [show K + 2 = K + 1 + 1 by omega]
  simp only [spec_l02Echelon.l1, len_T]
  rw [if_pos (by omega), show decide ((-1 : Int) < 0) = true from rfl]
  simp only [spec_l02Echelon.j2, len_T]
  rw [if_pos trivial, if_pos (by omega), if_pos (by omega), rd_T, sbit_T hx hk, if_pos hb]
  simp only [Option.bind_some]
  rw [if_pos trivial, w64 (x := (i : Int) + 1) (by omega) (by omega), show (i : Int) + 1 = ((i + 1 : Nat) : Int) by omega]
/-- the reference looks for a lead -/
theorem spec_scan {c k : Nat} (hk : k ≤ 20) (O : List Int) (L : List Nat) (hL : L.length ≤ 1000) (hs : ∀ x ∈ L, x < 1024) : ∀ (n i : Nat), i + n = L.length → (∀ j, j < i → (L.getD j 0).testBit k = false) →
    ((∀ x ∈ L, x.testBit k = false) ∧ ∀ K, spec_l02Echelon.l1 (K + 2 * n + 2) (c : Int) (T L) O (k : Int) (-1) (i : Int) = spec_l02Echelon.l0 K (c : Int) (T L) O ((k + 1 : Nat) : Int)) ∨
    ∃ a s, a < L.length ∧ (L.getD a 0).testBit k = true ∧ s ≤ 2 * n + 4 ∧ ∀ K, spec_l02Echelon.l1 (K + s) (c : Int) (T L) O (k : Int) (-1) (i : Int) = spec_l02Echelon.l2 K (c : Int) (T (L.set a 0)) O (k : Int) ((L.getD a 0 : Nat) : Int) 0 := by
  intro n
  induction n with
  | zero =>
    intro i hn hz
    refine Or.inl ⟨fun x hx => ?_, fun K => ?_⟩
    · obtain ⟨j, hj, rfl⟩ := List.getElem_of_mem hx
      have := hz j (by omega)
      rwa [getD_lt L j hj] at this
    · rw [show K + 2 * 0 + 2 = K + 1 + 1 by omega]
      simp only [spec_l02Echelon.l1, spec_l02Echelon.j2, len_T]
      rw [if_neg (show ¬ (i : Int) < (L.length : Int) by omega), if_neg (show ¬ (false = true) by decide), if_pos (show (-1 : Int) < 0 by decide), w64 (x := (k : Int) + 1) (by omega) (by omega), show (k : Int) + 1 = ((k + 1 : Nat) : Int) by omega]
  | succ n ih =>
    intro i hn hz
    have hx := getD_small hs i
    by_cases hb : (L.getD i 0).testBit k = true
    · refine Or.inr ⟨i, 4, by omega, hb, by omega, fun K => ?_⟩
      rw [show K + 4 = K + 2 + 2 by omega, spec_found hk O L hL hs i (K + 2) (by omega) hb, spec_at O L i (i + 1) K (by omega)]
    · have hz' : ∀ j, j < i + 1 → (L.getD j 0).testBit k = false := fun j hj => by
        by_cases e : j = i
        · rw [e]; exact Bool.eq_false_iff.2 hb
        · exact hz j (by omega)
      have step : ∀ K, spec_l02Echelon.l1 (K + 2) (c : Int) (T L) O (k : Int) (-1) (i : Int) = spec_l02Echelon.l1 K (c : Int) (T L) O (k : Int) (-1) ((i + 1 : Nat) : Int) := fun K => by
        rw [show K + 2 = K + 1 + 1 by omega]
        simp only [spec_l02Echelon.l1, len_T]
        rw [if_pos (by omega), show decide ((-1 : Int) < 0) = true from rfl]
        simp only [spec_l02Echelon.j2, len_T]
        rw [if_pos trivial, if_pos (by omega), if_pos (by omega), rd_T, sbit_T hx hk, if_neg hb]
        simp only [Option.bind_some]
        rw [if_neg (show ¬ ((0 : Int) = 1) by decide), w64 (x := (i : Int) + 1) (by omega) (by omega), show (i : Int) + 1 = ((i + 1 : Nat) : Int) by omega]
      rcases ih (i + 1) (by omega) hz' with ⟨h1, h2⟩ | ⟨a, s, h1, h2, h3, h4⟩
      · refine Or.inl ⟨h1, fun K => ?_⟩
        rw [show K + 2 * (n + 1) + 2 = K + 2 * n + 2 + 2 by omega, step, h2]
      · refine Or.inr ⟨a, s + 2, h1, h2, by omega, fun K => ?_⟩
        rw [show K + (s + 2) = K + s + 2 by omega, step, h4]

theorem mapFrom_set (f : Nat → Nat) (R : List Nat) (i j y : Nat) (h : i < j) (hj : j ≤ R.length) : mapFrom f j (R.set i y) = (mapFrom f j R).set i y := by
  unfold mapFrom
  rw [List.take_set, List.drop_set_of_lt h, List.set_append_left _ _ (by rw [List.length_take]; omega)]
theorem mapFrom_over (f : Nat → Nat) (R : List Nat) (d l : Nat) (h : d < R.length) : (mapFrom f (d + 1) R).set d l = (mapFrom f d R).set d l := by
  rw [← mapFrom_step f d R h, mapFrom_set f R d (d + 1) _ (by omega) (by omega), List.set_set]
theorem lead_T {x k : Nat} (hx : x < 1024) (hk : k ≤ 62) : impl_echelon_1.f (x : Int) (k : Int) = some (x.testBit k) := by
  unfold impl_echelon_1.f
  rw [if_pos (by omega), bit_T hx hk]
  cases x.testBit k <;> rfl
theorem idx_T {k : Nat} (hk : k ≤ 62) : ∀ (D : List Nat) (i : Int), (∀ x ∈ D, x < 1024) →
    ((∀ x ∈ D, x.testBit k = false) ∧ idxF (fun x_ => impl_echelon_1.f x_ (k : Int)) (T D) i = some (-1)) ∨
    ∃ a, a < D.length ∧ (D.getD a 0).testBit k = true ∧ idxF (fun x_ => impl_echelon_1.f x_ (k : Int)) (T D) i = some (i + (a : Int)) := by
  intro D
  induction D with
  | nil => intro i _; exact Or.inl ⟨by simp, rfl⟩
  | cons x D ih =>
    intro i hs
    have hx := hs x List.mem_cons_self
    have e : T (x :: D) = (x : Int) :: T D := rfl
    by_cases hb : x.testBit k = true
    · refine Or.inr ⟨0, by simp, by simpa using hb, ?_⟩
      rw [e, idxF, lead_T hx hk, Option.bind_some, if_pos hb]; simp
    · have hb' := Bool.eq_false_iff.2 hb
      rcases ih (i + 1) (fun y hy => hs y (List.mem_cons_of_mem _ hy)) with ⟨h1, h2⟩ | ⟨a, h1, h2, h3⟩
      · refine Or.inl ⟨fun y hy => ?_, ?_⟩
        · rcases List.mem_cons.1 hy with rfl | hy
          · exact hb'
          · exact h1 y hy
        · rw [e, idxF, lead_T hx hk, Option.bind_some, if_neg hb, h2]
      · refine Or.inr ⟨a + 1, by simpa using h1, by simpa using h2, ?_⟩
        rw [e, idxF, lead_T hx hk, Option.bind_some, if_neg hb, h3]
        congr 1; omega
theorem impl_l1 {k l d : Nat} (hk : k ≤ 61) (hl : l < 1024) : ∀ (n i : Nat) (R : List Nat), i + n = R.length → R.length ≤ 1000 → (∀ x ∈ R, x < 1024) → d < R.length → R.getD d 0 = l → ∀ K,
    impl_echelon.l1 (K + n + 1) (T R) (d : Int) (R.length : Int) (i : Int) (k : Int) = impl_echelon.l0 K (T ((mapFrom (fB k l) i R).set d l)) ((d + 1 : Nat) : Int) ((k + 1 : Nat) : Int) := by
  intro n
  induction n with
  | zero =>
    intro i R hn hR hs hd hdl K
    have e : R.set d l = R := by rw [← hdl, getD_lt R d hd, List.set_getElem_self]
    rw [show K + 0 + 1 = K + 1 from rfl, impl_echelon.l1, if_neg (by omega), show i = R.length by omega, mapFrom_end, e, w64 (x := (d : Int) + 1) (by omega) (by omega), w64 (x := (k : Int) + 1) (by omega) (by omega),
      show (d : Int) + 1 = ((d + 1 : Nat) : Int) by omega, show (k : Int) + 1 = ((k + 1 : Nat) : Int) by omega]
  | succ n ih =>
    intro i R hn hR hs hd hdl K
    rw [show K + (n + 1) + 1 = (K + n + 1) + 1 by omega, impl_echelon.l1, if_pos (by omega), w64 (x := (i : Int) + 1) (by omega) (by omega), show (i : Int) + 1 = ((i + 1 : Nat) : Int) by omega]
    by_cases hid : i = d
    · subst hid
      rw [if_pos rfl, ih (i + 1) R (by omega) hR hs hd hdl, mapFrom_over _ R i l hd]
    · have hx := getD_small hs i
      rw [if_neg (by omega), if_pos (by omega), len_T, if_pos (by omega), if_pos (by omega), rd_T, rd_T, hdl, bit_T hx (by omega)]
      by_cases hb : (R.getD i 0).testBit k = true
      · have e : R.getD i 0 ^^^ l = fB k l (R.getD i 0) := by unfold fB; rw [if_pos hb]
        have hg : (R.set i (R.getD i 0 ^^^ l)).getD d 0 = l := by
          rw [List.getD_eq_getElem?_getD, List.getElem?_set_ne hid, ← List.getD_eq_getElem?_getD]; exact hdl
        have := ih (i + 1) (R.set i (R.getD i 0 ^^^ l)) (by simp; omega) (by simpa using hR) (set_small hs i _ (Nat.xor_lt_two_pow (n := 10) hx hl)) (by simpa using hd) hg K
        rw [List.length_set] at this
        rw [if_pos hb, if_pos rfl, if_pos (by omega), if_pos (by omega), xor_T hx hl, set_T, this, e, mapFrom_step _ i R (by omega)]
      · rw [if_neg hb, if_neg (by decide), ih (i + 1) R (by omega) hR hs hd hdl, mapFrom_skip _ i R (by omega) (by unfold fB; rw [if_neg hb])]
theorem set_T' (L : List Nat) (i n : Nat) : (T L).set i (n : Int) = T (L.set i n) := by
  unfold T; rw [List.map_set]
theorem T_append (A B : List Nat) : T (A ++ B) = T A ++ T B := by simp [T]
theorem T_drop (A : List Nat) (n : Nat) : (T A).drop n = T (A.drop n) := by simp [T, List.map_drop]
theorem T_take (A : List Nat) (n : Nat) : (T A).take n = T (A.take n) := by simp [T, List.map_take]
/-- the swap: what stands behind the lead, of the rows that were left -/
theorem swap_rest (rest : List Nat) (a : Nat) (ha : a < rest.length) : ∃ rest2, (rest.set 0 (rest.getD a 0)).set a (rest.getD 0 0) = rest.getD a 0 :: rest2 ∧ rest2.length + 1 = rest.length ∧ (∀ x ∈ rest2, x ∈ rest) ∧ ∀ x ∈ rest, x = rest.getD a 0 ∨ x ∈ rest2 := by
  cases rest with
  | nil => simp at ha
  | cons r t =>
    cases a with
    | zero => exact ⟨t, by simp, by simp, fun x hx => List.mem_cons_of_mem _ hx, fun x hx => by simpa using hx⟩
    | succ a =>
      have ha' : a < t.length := by simpa using ha
      have hl : (r :: t).getD (a + 1) 0 = t[a] := by rw [List.getD_cons_succ, getD_lt t a ha']
      refine ⟨t.set a r, by simp [hl], by simp, fun x hx => ?_, fun x hx => ?_⟩
      · rcases List.mem_or_eq_of_mem_set hx with hx | rfl
        · exact List.mem_cons_of_mem _ hx
        · exact List.mem_cons_self
      · rw [hl]
        rcases List.mem_cons.1 hx with rfl | hx
        · exact Or.inr (List.mem_set ha' x)
        · obtain ⟨j, hj, rfl⟩ := List.getElem_of_mem hx
          by_cases e : j = a
          · subst e; exact Or.inl rfl
          · refine Or.inr ?_
            have : (t.set a r)[j]'(by simpa using hj) = t[j] := by rw [List.getElem_set_ne (by omega)]
            rw [← this]; exact List.getElem_mem _
theorem impl_stop (R : List Nat) (d k K : Nat) (hd : d ≤ R.length) (h : k < 62 → ¬ d < R.length) : impl_echelon.l0 (K + 2) (T R) (d : Int) (k : Int) = some (T (R.take d)) := by
  have e : impl_echelon.j1 (K + 1) (T R) (d : Int) false (k : Int) = some (T (R.take d)) := by
    rw [impl_echelon.j1, if_neg (by decide), if_pos (by omega), len_T, if_pos (by omega), Int.toNat_natCast, T_take]
  rw [show K + 2 = (K + 1) + 1 from rfl, impl_echelon.l0, len_T]
  by_cases hk : (k : Int) < 62
  · rw [if_pos hk, decide_eq_false (by have := h (by omega); omega), e]
  · rw [if_neg hk, e]
theorem impl_none (out rest : List Nat) (k K : Nat) (hk : k < 62) (hl : out.length + rest.length ≤ 1000) (hne : 0 < rest.length) (hs : ∀ x ∈ rest, x < 1024) (hz : ∀ x ∈ rest, x.testBit k = false) :
    impl_echelon.l0 (K + 2) (T (out ++ rest)) (out.length : Int) (k : Int) = impl_echelon.l0 K (T (out ++ rest)) (out.length : Int) ((k + 1 : Nat) : Int) := by
  rw [show K + 2 = (K + 1) + 1 from rfl, impl_echelon.l0, if_pos (by omega), decide_eq_true (by rw [len_T, List.length_append]; omega), impl_echelon.j1, if_pos rfl, if_pos (by omega), len_T, if_pos (by rw [List.length_append]; omega), Int.toNat_natCast, T_drop, List.drop_left]
  rcases idx_T (k := k) (by omega) rest 0 hs with ⟨_, h2⟩ | ⟨a, h1, h2, _⟩
  · unfold idxO
    rw [h2, Option.bind_some, if_pos (by decide), w64 (x := (k : Int) + 1) (by omega) (by omega), show (k : Int) + 1 = ((k + 1 : Nat) : Int) by omega]
  · rw [getD_lt rest a h1, hz _ (List.getElem_mem h1)] at h2; cases h2
theorem impl_lead (out rest : List Nat) (k : Nat) (hk : k ≤ 20) (hl : out.length + rest.length ≤ 1000) (hso : ∀ x ∈ out, x < 1024) (hs : ∀ x ∈ rest, x < 1024) (hb : ¬ ∀ x ∈ rest, x.testBit k = false) :
    ∃ (l : Nat) (rest2 : List Nat), l ∈ rest ∧ l.testBit k = true ∧ rest2.length + 1 = rest.length ∧ (∀ x ∈ rest2, x ∈ rest) ∧ (∀ x ∈ rest, x = l ∨ x ∈ rest2) ∧
      ∀ K, impl_echelon.l0 (K + (out.length + rest.length) + 3) (T (out ++ rest)) (out.length : Int) (k : Int) = impl_echelon.l0 K (T ((out.map (fB k l) ++ [l]) ++ rest2.map (fB k l))) ((out.length + 1 : Nat) : Int) ((k + 1 : Nat) : Int) := by
  rcases idx_T (k := k) (by omega) rest 0 hs with ⟨h1, _⟩ | ⟨a, h1, h2, h3⟩
  · exact absurd h1 hb
  · obtain ⟨rest2, s1, s2, s3, s4⟩ := swap_rest rest a h1
    have hlm : rest.getD a 0 ∈ rest := by rw [getD_lt rest a h1]; exact List.getElem_mem h1
    refine ⟨rest.getD a 0, rest2, hlm, h2, s2, s3, s4, fun K => ?_⟩
    have hdl : (out ++ rest).getD (out.length + a) 0 = rest.getD a 0 := by rw [List.getD_eq_getElem?_getD, List.getElem?_append_right (by omega), Nat.add_sub_cancel_left, ← List.getD_eq_getElem?_getD]
    have hd0 : (out ++ rest).getD out.length 0 = rest.getD 0 0 := by rw [List.getD_eq_getElem?_getD, List.getElem?_append_right (by omega), Nat.sub_self, ← List.getD_eq_getElem?_getD]
    have hQ : ((out ++ rest).set out.length (rest.getD a 0)).set (out.length + a) (rest.getD 0 0) = out ++ rest.getD a 0 :: rest2 := by
      rw [List.set_append_right _ _ (by omega), Nat.sub_self, List.set_append_right _ _ (by omega), Nat.add_sub_cancel_left, s1]
    have hlen : (out ++ rest.getD a 0 :: rest2).length = out.length + rest.length := by simp; omega
    have hm := impl_l1 (k := k) (l := rest.getD a 0) (d := out.length) (by omega) (hs _ hlm) (out.length + rest.length) 0 (out ++ rest.getD a 0 :: rest2) (by rw [hlen]; omega) (by rw [hlen]; omega)
      (fun x hx => by
        rcases List.mem_append.1 hx with hx | hx
        · exact hso x hx
        · rcases List.mem_cons.1 hx with rfl | hx
          · exact hs _ hlm
          · exact hs x (s3 x hx)) (by rw [hlen]; omega) (by rw [List.getD_eq_getElem?_getD, List.getElem?_append_right (by omega), Nat.sub_self]; rfl) K
    rw [hlen, mapFrom_zero, List.map_append, List.set_append_right _ _ (by simp), List.length_map, Nat.sub_self, List.map_cons, List.set_cons_zero] at hm
    rw [show K + (out.length + rest.length) + 3 = (K + (out.length + rest.length) + 1 + 1) + 1 by omega, impl_echelon.l0, if_pos (by omega), decide_eq_true (by rw [len_T, List.length_append]; omega), impl_echelon.j1, if_pos rfl, if_pos (by omega), len_T, if_pos (by rw [List.length_append]; omega), Int.toNat_natCast, T_drop, List.drop_left]
    unfold idxO
    rw [h3, Option.bind_some, Int.zero_add, if_neg (by omega), w64 (x := (out.length : Int) + (a : Int)) (by omega) (by omega), show (out.length : Int) + (a : Int) = ((out.length + a : Nat) : Int) by omega, if_pos (by omega), if_pos (by rw [List.length_append]; omega), if_pos (by rw [List.length_append]; omega), rd_T, rd_T, hdl, hd0, set_T', set_T, hQ, List.length_append]
    rw [show ((out.length + rest.length : Nat) : Int) = ((out.length + rest.length : Nat) : Int) from rfl]
    have := hm
    simp only [List.append_assoc, List.singleton_append] at this ⊢
    exact this
theorem impl_tail (c : Nat) (out rest : List Nat) (hl : out.length + rest.length ≤ 1000) (hs : ∀ x ∈ rest, x < 1024) (hz : ∀ x ∈ rest, ∀ b, c ≤ b → x.testBit b = false) : ∀ m k, k + m = 62 → c ≤ k → ∃ N, ∀ K, N ≤ K → impl_echelon.l0 K (T (out ++ rest)) (out.length : Int) (k : Int) = some (T out) := by
  intro m
  induction m with
  | zero =>
    intro k hk hc
    refine ⟨2, fun K hK => ?_⟩
    obtain ⟨K, rfl⟩ : ∃ j, K = j + 2 := ⟨K - 2, by omega⟩
    rw [impl_stop _ _ _ _ (by simp) (by omega), List.take_left]
  | succ m ih =>
    intro k hk hc
    by_cases hr : rest = []
    · subst hr
      refine ⟨2, fun K hK => ?_⟩
      obtain ⟨K, rfl⟩ : ∃ j, K = j + 2 := ⟨K - 2, by omega⟩
      rw [impl_stop _ _ _ _ (by simp) (by simp), List.take_left]
    · obtain ⟨N, hN⟩ := ih (k + 1) (by omega) (by omega)
      refine ⟨N + 2, fun K hK => ?_⟩
      obtain ⟨K, rfl⟩ : ∃ j, K = j + 2 := ⟨K - 2, by omega⟩
      rw [impl_none out rest k K (by omega) hl (List.length_pos_iff.2 hr) hs (fun x hx => hz x hx k hc)]
      exact hN K (by omega)
theorem spec_tail {c : Nat} (hc : c ≤ 10) (O : List Int) (L : List Nat) (hL : L.length ≤ 1000) (hz : ∀ x ∈ L, x = 0) : ∀ d k, k + d = c → ∃ N, ∀ K, N ≤ K → spec_l02Echelon.l0 K (c : Int) (T L) O (k : Int) = some O := by
  intro d
  induction d with
  | zero =>
    intro k hk
    refine ⟨1, fun K hK => ?_⟩
    obtain ⟨K, rfl⟩ : ∃ j, K = j + 1 := ⟨K - 1, by omega⟩
    rw [spec_l02Echelon.l0, if_neg (by omega)]
  | succ d ih =>
    intro k hk
    obtain ⟨N, hN⟩ := ih (k + 1) (by omega)
    refine ⟨N + 2 * L.length + 3, fun K hK => ?_⟩
    rcases spec_scan (c := c) (k := k) (by omega) O L hL (fun x hx => by rw [hz x hx]; decide) L.length 0 (by omega) (fun j hj => by omega) with ⟨_, h2⟩ | ⟨a, s, h1, h2, _⟩
    · obtain ⟨K', rfl⟩ : ∃ j, K = (j + 2 * L.length + 2) + 1 := ⟨K - 2 * L.length - 3, by omega⟩
      rw [spec_l02Echelon.l0, if_pos (by omega), show (0 : Int) = ((0 : Nat) : Int) from rfl, h2]
      exact hN K' (by omega)
    · rw [getD_lt L a h1, hz _ (List.getElem_mem h1)] at h2; simp at h2
theorem sim {c : Nat} (hc : c ≤ 10) : ∀ (d k : Nat) (left out rest out' : List Nat), k + d = c → Inv c k left out rest out' → left.length ≤ 10 → out'.length + rest.length ≤ 10 →
    ∃ (R : List Nat) (N : Nat), R.length ≤ 10 ∧ ∀ K, N ≤ K → spec_l02Echelon.l0 K (c : Int) (T left) (T out) (k : Int) = some (T R) ∧ impl_echelon.l0 K (T (out' ++ rest)) (out'.length : Int) (k : Int) = some (T R) := by
  have h1024 : 2 ^ c ≤ 1024 := Nat.pow_le_pow_right (n := 2) (by omega) hc
  have small : ∀ L : List Nat, (∀ x ∈ L, x < 2 ^ c) → ∀ x ∈ L, x < 1024 := fun L h x hx => Nat.lt_of_lt_of_le (h x hx) h1024
  intro d
  induction d with
  | zero =>
    intro k left out rest out' hk hI hL hR
    have e := hI.ends (by omega)
    obtain ⟨N, hN⟩ := impl_tail c out' rest (by omega) (small _ hI.sr) (fun x hx b hb => Nat.testBit_lt_two_pow (Nat.lt_of_lt_of_le (hI.sr x hx) (Nat.pow_le_pow_right (by omega) hb))) (62 - k) k (by omega) (by omega)
    refine ⟨out, N + 1, by rw [e]; omega, fun K hK => ⟨?_, by rw [e]; exact hN K (by omega)⟩⟩
    obtain ⟨K, rfl⟩ : ∃ j, K = j + 1 := ⟨K - 1, by omega⟩
    rw [spec_l02Echelon.l0, if_neg (by omega)]
  | succ d ih =>
    intro k left out rest out' hk hI hL hR
    by_cases hr : rest = []
    · subst hr
      obtain ⟨e, hz⟩ := hI.empty
      obtain ⟨N, hN⟩ := spec_tail hc (T out) left (by omega) hz (d + 1) k hk
      refine ⟨out, N + 2, by rw [e]; omega, fun K hK => ⟨hN K (by omega), ?_⟩⟩
      obtain ⟨K, rfl⟩ : ∃ j, K = j + 2 := ⟨K - 2, by omega⟩
      rw [impl_stop _ _ _ _ (by simp) (by simp), List.take_left, e]
    · have hpos := List.length_pos_iff.2 hr
      rcases spec_scan (c := c) (k := k) (by omega) (T out) left (by omega) (small _ hI.sl) left.length 0 (by omega) (fun j hj => by omega) with ⟨h1, h2⟩ | ⟨a, s, h1, h2, h3, h4⟩
      · obtain ⟨R, N, hRl, hN⟩ := ih (k + 1) left out rest out' (by omega) (hI.skip h1) hL hR
        refine ⟨R, N + 2 * left.length + 3, hRl, fun K hK => ⟨?_, ?_⟩⟩
        · obtain ⟨K', rfl⟩ : ∃ j, K = (j + 2 * left.length + 2) + 1 := ⟨K - 2 * left.length - 3, by omega⟩
          rw [spec_l02Echelon.l0, if_pos (by omega), show (0 : Int) = ((0 : Nat) : Int) from rfl, h2]
          exact (hN K' (by omega)).1
        · obtain ⟨K, rfl⟩ : ∃ j, K = j + 2 := ⟨K - 2, by omega⟩
          rw [impl_none out' rest k K (by omega) (by omega) hpos (small _ hI.sr) (hI.none.1 h1)]
          exact (hN K (by omega)).2
      · have hlm : left.getD a 0 ∈ left := by rw [getD_lt left a h1]; exact List.getElem_mem h1
        have hnb : ¬ ∀ x ∈ rest, x.testBit k = false := fun hz => by
          have := hI.none.2 hz _ hlm
          rw [h2] at this; cases this
        obtain ⟨l', rest2, m1, m2, m3, m4, m5, m6⟩ := impl_lead out' rest k (by omega) (by omega) (small _ hI.so') (small _ hI.sr) hnb
        have hI2 := hI.lead hlm h2 m1 m2 m4 m5
        obtain ⟨R, N, hRl, hN⟩ := ih (k + 1) _ _ _ _ (by omega) hI2 (by simpa using hL) (by simp; omega)
        have hl : left.getD a 0 < 1024 := small _ hI.sl _ hlm
        have hset : mapFrom (fB k (left.getD a 0)) 0 (left.set a 0) = left.map (fB k (left.getD a 0)) := by
          rw [mapFrom_zero, List.map_set, fB_zero]
          have e0 : fB k (left.getD a 0) (left.getD a 0) = 0 := by unfold fB; rw [if_pos h2, Nat.xor_self]
          have e1 : (left.map (fB k (left.getD a 0)))[a]'(by simpa using h1) = 0 := by rw [List.getElem_map, ← getD_lt left a h1, e0]
          have hlen : a < (left.map (fB k (left.getD a 0))).length := by simpa using h1
          have this : (left.map (fB k (left.getD a 0))).set a ((left.map (fB k (left.getD a 0)))[a]'hlen) = left.map (fB k (left.getD a 0)) := List.set_getElem_self _
          rw [e1] at this; exact this
        have hol : out.length ≤ 10 := by rw [hI.len]; omega
        refine ⟨R, N + 100, hRl, fun K hK => ⟨?_, ?_⟩⟩
        · obtain ⟨K', rfl⟩ : ∃ j, K = ((j + out.length + 1) + left.length + 1 + s) + 1 := ⟨K - out.length - left.length - s - 3, by omega⟩
          rw [spec_l02Echelon.l0, if_pos (by omega), show (0 : Int) = ((0 : Nat) : Int) from rfl, h4]
          have q1 := spec_l2 (c := c) (k := k) (by omega) hl (T out) left.length 0 (left.set a 0) (by simp) (by simp; omega) (set_small (small _ hI.sl) a 0 (by decide)) (K' + out.length + 1)
          rw [show ((0 : Nat) : Int) = 0 from rfl] at q1
          rw [q1, hset]
          have q2 := spec_l3 (c := c) (k := k) (by omega) hl (T (left.map (fB k (left.getD a 0)))) out.length 0 out (by omega) (by omega) (small _ hI.so) K'
          rw [show ((0 : Nat) : Int) = 0 from rfl] at q2
          rw [q2, mapFrom_zero]
          exact (hN K' (by omega)).1
        · obtain ⟨K', rfl⟩ : ∃ j, K = j + (out'.length + rest.length) + 3 := ⟨K - (out'.length + rest.length) - 3, by omega⟩
          rw [m6]
          have := (hN K' (by omega)).2
          rw [List.length_append, List.length_map, List.length_singleton] at this
          exact this
theorem of_T (l : List Int) (h : ∀ x ∈ l, 0 ≤ x) : T (l.map Int.toNat) = l := by
  unfold T
  rw [List.map_map]
  conv => rhs; rw [← List.map_id l]
  refine List.map_congr_left fun x hx => ?_
  have := h x hx
  simp; omega
theorem echelon_tells {c : Int} (h1 : 1 ≤ c) (h5 : c ≤ 10) (l : List Int) (hl : l.length ≤ 10) (hs : ∀ x ∈ l, 0 ≤ x ∧ x < 2 ^ c.toNat) :
    ∃ (R : List Int) (N : Nat), R.length ≤ 10 ∧ ∀ K, N ≤ K → spec_l02Echelon.f K c l = some R ∧ impl_echelon.f K l = some R := by
  obtain ⟨C, hC⟩ : ∃ C : Nat, (C : Int) = c := ⟨c.toNat, by omega⟩
  obtain ⟨L, hL⟩ : ∃ L : List Nat, T L = l := ⟨l.map Int.toNat, of_T l fun x hx => (hs x hx).1⟩
  subst hC hL
  rw [len_T] at hl
  have hb : ∀ x ∈ L, x < 2 ^ C := fun x hx => by
    have h := (hs (x : Int) (List.mem_map.2 ⟨x, hx, rfl⟩)).2
    rw [Int.toNat_natCast] at h
    exact_mod_cast h
  have hI : Inv C 0 L [] L [] := ⟨rfl, fun j => by simpa using sp_zero L, fun w => Iff.rfl, fun x _ b h => by omega, hb, by simp, hb, by simp⟩
  obtain ⟨R, N, hR, hN⟩ := sim (by omega) C 0 L [] L [] (by omega) hI (by omega) (by simp; omega)
  refine ⟨T R, N, by rw [len_T]; exact hR, fun K hK => ?_⟩
  obtain ⟨e1, e2⟩ := hN K hK
  constructor
  · unfold spec_l02Echelon.f spec_l00Own.f
    simp only [Option.bind_some, List.length_nil, List.nil_append, len_T]
    rw [if_pos (by omega)]
    exact e1
  · unfold impl_echelon.f slices_Clone_int64_int64.f
    simp only [Option.bind_some, List.length_nil, List.nil_append, len_T]
    rw [if_pos (by omega)]
    exact e2
theorem both0 (c : Int) (l : List Int) : ∃ (m : Int) (L : List Int) (e : Int) (N : Nat), L.length ≤ 10 ∧ ∀ K, N ≤ K → spec_SpaceOf.f K c l = some (m, L, e) ∧ impl_SpaceOf.f K c l = some (m, L, e) := by
  by_cases h : okM c l = true
  · obtain ⟨h1, h5, hl, hs⟩ := okM_range h
    obtain ⟨R, N, hR, hN⟩ := echelon_tells h1 h5 l hl hs
    refine ⟨c, R, 0, N + 100, hR, fun K hK => ?_⟩
    obtain ⟨e1, e2⟩ := hN K (by omega)
    constructor
    · unfold spec_SpaceOf.f spec_EchelonOf.f
      rw [l02Ok_tells c l K (by omega), h]
      simp only [Option.bind_some, if_true]
      rw [e1]; rfl
    · unfold impl_SpaceOf.f impl_EchelonOf.f impl_Matrix_form.f
      rw [validM_tells, h]
      simp only [Option.bind_some, if_true]
      rw [e2]; rfl
  · refine ⟨0, [], 1, 100, by simp, fun K hK => ?_⟩
    constructor
    · unfold spec_SpaceOf.f spec_EchelonOf.f
      rw [l02Ok_tells c l K (by omega), Bool.eq_false_iff.2 h]; rfl
    · unfold impl_SpaceOf.f impl_EchelonOf.f
      rw [validM_tells, Bool.eq_false_iff.2 h]; rfl
theorem to_tells (c : Int) (l : List Int) (hb : l.length ≤ 1048576) (k : Nat) (hk : l.length < k) : laws_toMatrix.f k c l = some (c, l) := by
  unfold laws_toMatrix.f
  rw [laws_toInt64S.tells l hb k hk]; rfl
theorem eq_self (c : Int) (l : List Int) (hb : l.length ≤ 1048576) (k : Nat) (hk : l.length < k) : laws_eqMatrix.f k c l c l = some true := by
  unfold laws_eqMatrix.f
  rw [laws_eqInt64S.tells l l (by omega) k hk]; simp
theorem markM (c : Int) (l : List Int) (hl : l.length ≤ 2097152) (k : Nat) (hk : l.length < k) : ∃ l', laws_markMatrix.f k c l 1 = some (1 + (l.length : Int), l') ∧ ∀ k', l.length < k' → laws_heldMatrix.f k' c l' 1 = some (1 + (l.length : Int)) := by
  obtain ⟨l', m1, m2⟩ := mark_tells l hl k hk
  refine ⟨l', by unfold laws_markMatrix.f; rw [m1]; rfl, fun k' hk' => ?_⟩
  unfold laws_heldMatrix.f
  rw [m2 k' hk']
  simp only [Option.bind_some]
  rw [if_neg (by omega)]
theorem j2_tells (c : Int) (l' : List Int) (t e : Int) (k : Nat) (h : ∀ k', k ≤ k' + 1 → laws_heldMatrix.f k' c l' 1 = some t) (ht : 0 ≤ t) (hk : 1 ≤ k) : laws_FnExactSpaceOf.j2 k t (e != e) c l' = some true := by
  obtain ⟨k, rfl⟩ : ∃ m, k = m + 1 := ⟨k - 1, by omega⟩
  simp only [laws_FnExactSpaceOf.j2]
  rw [bne_self_eq_false, if_neg (by decide), h k (by omega)]
  simp only [Option.bind_some]
  rw [if_neg (by omega)]; simp
theorem main : laws_FnExactSpaceOf.Pure := by
  intro c l _ hl _
  obtain ⟨m, L, e, N, hR, hb⟩ := both0 c l
  refine ⟨l.length + N + 4000, ?_⟩
  generalize hK : l.length + N + 4000 = K
  unfold laws_FnExactSpaceOf.f laws_szMatrix.f
  rw [laws_szInt64S.tells l hl _ (by omega) (by omega)]
  by_cases h1 : (1048576 : Int) < (l.length : Int)
  · simp [h1]
  · rw [if_neg h1]
    simp only [Option.bind_some]
    rw [if_neg (by omega)]
    simp only [Option.bind_some]
    rw [if_neg (by omega), to_tells c l (by omega) K (by omega)]
    simp only [Option.bind_some]
    rw [(hb K (by omega)).1]
    simp only [Option.bind_some]
    rw [(hb K (by omega)).2]
    simp only [Option.bind_some]
    rw [eq_self m L (by omega) K (by omega)]
    simp only [Option.bind_some, if_true]
    rw [bne_self_eq_false]
    obtain ⟨K, rfl⟩ : ∃ m, K = m + 1 := ⟨K - 1, by omega⟩
    simp only [laws_FnExactSpaceOf.j0]
    obtain ⟨l', m1, _⟩ := markM c l (by omega) K (by omega)
    rw [if_neg (by decide), to_tells c l (by omega) K (by omega)]
    simp only [Option.bind_some]
    rw [eq_self c l (by omega) K (by omega)]
    simp only [Option.bind_some, if_true]
    rw [m1]
    simp only [Option.bind_some]
    rw [if_neg (by omega), eq_self m L (by omega) K (by omega)]
    simp only [Option.bind_some, if_true]
    rw [bne_self_eq_false]
    obtain ⟨K, rfl⟩ : ∃ m, K = m + 1 := ⟨K - 1, by omega⟩
    simp only [laws_FnExactSpaceOf.j1]
    obtain ⟨L', m2, m3⟩ := markM m L (by omega) K (by omega)
    rw [if_neg (by decide), m2]
    simp only [Option.bind_some]
    rw [m3 K (by omega)]
    simp only [Option.bind_some]
    rw [if_neg (by omega), if_true, to_tells c l (by omega) K (by omega)]
    simp only [Option.bind_some]
    rw [(hb K (by omega)).2]
    simp only [Option.bind_some]
    rw [eq_self m L (by omega) K (by omega)]
    simp only [Option.bind_some, if_true]
    exact j2_tells m L' _ e K (fun k' hk' => m3 k' (by omega)) (by omega) (by omega)
end Go.Proofs.Ytaopplbahakpgaa.PureFnExactSpaceOf
namespace Go.Proofs.Ytaopplbahakpgaa.Pure
open Go.Proofs.Ytaopplbahakpgaa.PFnExactSpaceOf
theorem FnExactSpaceOf : laws_FnExactSpaceOf.Pure := PureFnExactSpaceOf.main
end Go.Proofs.Ytaopplbahakpgaa.Pure
