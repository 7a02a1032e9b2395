/- A drawn square matrix has an inverse just if its rank is full, the inverse is one on both sides, and the inverse's inverse is the matrix (beyond 3000 bytes the law itself asks nothing). -/
import Derived.Test.YtddaiejpdiibkaaPFnInversesx7
namespace Go.Proofs.Ytddaiejpdiibkaa.PureFnInverses
open Go.RowKit Go.Proofs.Ytddaiejpdiibkaa.PFnInverses Go.Proofs.YtddaiejpdiibkaaW.PrintWords Go.Proofs.YtddaiejpdiibkaaW.PrintLast Go.Proofs.YtddaiejpdiibkaaW.PrintMore
set_option linter.unusedVariables false
set_option linter.unusedSimpArgs false
theorem w64 {x : Int} (h0 : -9223372036854775808 ≤ x) (h1 : x ≤ 9223372036854775807) : wrap64 x = x := by unfold wrap64; omega
theorem rd_drop (l : List Int) (i : Int) (h0 : 0 ≤ i) (h1 : i < (l.length : Int)) : l.drop i.toNat = rd l i :: l.drop (i + 1).toNat := by
  have hl : i.toNat < l.length := by omega
  rw [List.drop_eq_getElem_cons hl]
  have e : (i + 1).toNat = i.toNat + 1 := by omega
  rw [e]
  congr 1
  unfold rd
  rw [List.getD_eq_getElem?_getD, List.getElem?_eq_getElem hl]; rfl
theorem wf64 {x : Int} (h : (Lit.int .i64 x).wf = true) : -9223372036854775808 ≤ x ∧ x ≤ 9223372036854775807 := by
  simp [Lit.wf, IntKind.min, IntKind.max, IntKind.signed, IntKind.bits] at h; omega
theorem maxLen_eq : maxLen = 9223372036854775807 := by unfold maxLen; rfl
def S (d : Int) : Int := 2 ^ d.toNat
theorem sizesM {c : Int} (h1 : 1 ≤ c) (h5 : c ≤ 10) : 0 ≤ IntKind.u64.wrap c ∧ IntKind.u64.wrap c = c ∧ shl .i64 1 c = S c ∧ wrap64 (S c - 1) = S c - 1 ∧ 2 ≤ S c ∧ S c ≤ 1024 ∧ wrap64 (S c) = S c := by
  have : c = 1 ∨ c = 2 ∨ c = 3 ∨ c = 4 ∨ c = 5 ∨ c = 6 ∨ c = 7 ∨ c = 8 ∨ c = 9 ∨ c = 10 := by omega
  rcases this with rfl | rfl | rfl | rfl | rfl | rfl | rfl | rfl | rfl | rfl <;> decide +kernel
def inM (c x : Int) : Bool := decide (0 ≤ x) && decide (x < S c)
theorem inM_iff {c x : Int} : inM c x = true ↔ 0 ≤ x ∧ x < S c := by unfold inM; simp
def okM (c : Int) (l : List Int) : Bool := decide (1 ≤ c) && decide (c ≤ 10) && decide (l.length ≤ 10) && l.all (inM c)
theorem okM_range {c : Int} {l : List Int} (h : okM c l = true) : 1 ≤ c ∧ c ≤ 10 ∧ l.length ≤ 10 ∧ ∀ x ∈ l, 0 ≤ x ∧ x < S c := by
  simp only [okM, Bool.and_eq_true, decide_eq_true_eq, List.all_eq_true] at h
  exact ⟨h.1.1.1, h.1.1.2, h.1.2, fun x hx => inM_iff.1 (h.2 x hx)⟩
theorem inM_impl {c : Int} (h1 : 1 ≤ c) (h5 : c ≤ 10) (l : List Int) (x : Int) : impl_Matrix_has.f c l x = some (inM c x) := by
  obtain ⟨_, _, e, e2, _⟩ := sizesM h1 h5
  unfold impl_Matrix_has.f impl_within.f inM
  rw [if_pos (by omega), e, e2]
  by_cases h : x ≥ 0
  · have h0 : 0 ≤ x := h
    rw [if_pos h]
    by_cases h2 : x < S c
    · simp [h0, h2, show x ≤ S c - 1 by omega]
    · simp [h2, show ¬ x ≤ S c - 1 by omega]
  · have h0 : ¬ 0 ≤ x := h
    rw [if_neg h]; simp [h0]
theorem any_not_inM (c : Int) (l : List Int) : (!l.any fun x => !inM c x) = l.all (inM c) := by
  induction l with
  | nil => rfl
  | cons x l ih => simp only [List.any_cons, List.all_cons, ← ih]; cases inM c x <;> simp
theorem validM_tells (c : Int) (l : List Int) : impl_ValidMatrix.f c l = some (okM c l) := by
  unfold impl_ValidMatrix.f okM
  by_cases h1 : c ≥ 1
  · have h1' : 1 ≤ c := h1
    by_cases h5 : c ≤ 10
    · have hw : impl_within.f c 1 10 = some true := by unfold impl_within.f; simp [h1, h5]
      rw [hw]
      by_cases hl : l.length ≤ 10
      · have hl' : (l.length : Int) ≤ 10 := by omega
        have e := anyO_some (fun x_ => impl_ValidMatrix_1.f x_ c l) (fun x => !inM c x) l (fun x _ => by unfold impl_ValidMatrix_1.f; rw [inM_impl h1 h5]; rfl)
        have e2 := any_not_inM c l
        simp only [Option.bind_some, if_true, hl', e, e2]
        simp [h1', h5, hl]
      · have hl' : ¬ (l.length : Int) ≤ 10 := by omega
        simp [hl, hl']
    · have hw : impl_within.f c 1 10 = some false := by unfold impl_within.f; simp [h1, h5]
      rw [hw]; simp [h5]
  · have h1' : ¬ 1 ≤ c := h1
    have hw : impl_within.f c 1 10 = some false := by unfold impl_within.f; simp [h1]
    rw [hw]; simp [h1']
def T (L : List Nat) : List Int := L.map (fun n : Nat => (n : Int))
theorem len_T (L : List Nat) : (T L).length = L.length := by simp [T]
theorem rd_T (L : List Nat) (i : Nat) : rd (T L) (i : Int) = ((L.getD i 0 : Nat) : Int) := by
  unfold rd T
  rw [List.getD_eq_getElem?_getD, List.getD_eq_getElem?_getD, List.getElem?_map, Int.toNat_natCast]
  cases L[i]? <;> rfl
theorem set_T (L : List Nat) (i n : Nat) : (T L).set (i : Int).toNat (n : Int) = T (L.set i n) := by
  unfold T; rw [Int.toNat_natCast, List.map_set]
theorem i64_small (n : Int) (h0 : 0 ≤ n) (h1 : n < 2 ^ 10) : IntKind.i64.wrap n = n := by rw [IntKind.wrap_i64]; omega
theorem xor_T {a b : Nat} (ha : a < 1024) (hb : b < 1024) : Go.bits .xor .i64 (a : Int) (b : Int) = ((a ^^^ b : Nat) : Int) := by
  have ha' : a % 2 ^ IntKind.i64.bits = a := Nat.mod_eq_of_lt (by simp [IntKind.bits]; omega)
  have hb' : b % 2 ^ IntKind.i64.bits = b := Nat.mod_eq_of_lt (by simp [IntKind.bits]; omega)
  have hx : a ^^^ b < 2 ^ 10 := Nat.xor_lt_two_pow (n := 10) ha hb
  simp only [bits, BitVec.ofInt_natCast, BitVec.toNat_xor, BitVec.toNat_ofNat, ha', hb']
  exact i64_small _ (Int.natCast_nonneg _) (by exact_mod_cast hx)
theorem bit_T {x k : Nat} (hx : x < 1024) (hk : k ≤ 62) : Go.bits .and .i64 (shr .i64 (x : Int) (k : Int)) 1 = if x.testBit k = true then 1 else 0 := by
  have e : shr .i64 (x : Int) (k : Int) = ((x / 2 ^ k : Nat) : Int) := by
    unfold shr
    rw [Int.toNat_natCast, show min k IntKind.i64.bits = k by simp [IntKind.bits]; omega]
    simp
  have h2 : x / 2 ^ k < 1024 := Nat.lt_of_le_of_lt (Nat.div_le_self _ _) hx
  rw [e]
  have := (bits_nat .i64 10 (by decide) i64_small (x / 2 ^ k) 1 h2 (by decide)).1
  rw [show (1 : Int) = ((1 : Nat) : Int) from rfl, this, Nat.and_one_is_mod, Nat.testBit_eq_decide_div_mod_eq]
  by_cases h : x / 2 ^ k % 2 = 1
  · simp [h]
  · have : x / 2 ^ k % 2 = 0 := by omega
    simp [this]
theorem uw {x : Int} (h0 : 0 ≤ x) (h1 : x ≤ 20) : IntKind.u64.wrap x = x := by
  have h : ∀ i : Fin 21, IntKind.u64.wrap (i.val : Int) = (i.val : Int) := by decide +kernel
  have := h ⟨x.toNat, by omega⟩
  simp only [show ((x.toNat : Nat) : Int) = x by omega] at this
  exact this
def Sp : List Nat → Nat → Prop
  | [], w => w = 0
  | x :: L, w => Sp L w ∨ Sp L (w ^^^ x)
theorem sp_zero : ∀ L : List Nat, Sp L 0
  | [] => rfl
  | _ :: L => Or.inl (sp_zero L)
theorem xx (a b : Nat) : a ^^^ b ^^^ b = a := by rw [Nat.xor_assoc, Nat.xor_self, Nat.xor_zero]
theorem sp_xor : ∀ (L : List Nat) {a b : Nat}, Sp L a → Sp L b → Sp L (a ^^^ b)
  | [], a, b, ha, hb => by
    have h1 : a = 0 := ha
    have h2 : b = 0 := hb
    subst h1 h2; rfl
  | x :: L, a, b, ha, hb => by
    rcases ha with ha | ha <;> rcases hb with hb | hb
    · exact Or.inl (sp_xor L ha hb)
    · refine Or.inr ?_
      have := sp_xor L ha hb
      rwa [← Nat.xor_assoc] at this
    · refine Or.inr ?_
      have := sp_xor L ha hb
      rwa [show a ^^^ x ^^^ b = a ^^^ b ^^^ x by rw [Nat.xor_assoc, Nat.xor_comm x b, ← Nat.xor_assoc]] at this
    · refine Or.inl ?_
      have := sp_xor L ha hb
      rwa [show a ^^^ x ^^^ (b ^^^ x) = a ^^^ b by rw [Nat.xor_comm b x, ← Nat.xor_assoc, xx]] at this
theorem sp_mem : ∀ (L : List Nat) {x : Nat}, x ∈ L → Sp L x
  | y :: L, x, h => by
    rcases List.mem_cons.1 h with rfl | h
    · exact Or.inr (by rw [Nat.xor_self]; exact sp_zero L)
    · exact Or.inl (sp_mem L h)
theorem sp_min {V : Nat → Prop} (h0 : V 0) (hx : ∀ a b, V a → V b → V (a ^^^ b)) : ∀ (L : List Nat) {w : Nat}, (∀ x ∈ L, V x) → Sp L w → V w
  | [], w, _, h => by have : w = 0 := h; rw [this]; exact h0
  | x :: L, w, hm, h => by
    rcases h with h | h
    · exact sp_min h0 hx L (fun y hy => hm y (List.mem_cons_of_mem _ hy)) h
    · have h1 := sp_min h0 hx L (fun y hy => hm y (List.mem_cons_of_mem _ hy)) h
      have := hx _ _ h1 (hm x List.mem_cons_self)
      rwa [xx] at this
def fB (k l w : Nat) : Nat := if w.testBit k = true then w ^^^ l else w
theorem fB_bit {k l : Nat} (hl : l.testBit k = true) (w : Nat) : (fB k l w).testBit k = false := by
  unfold fB
  cases h : w.testBit k with
  | true => rw [if_pos rfl, Nat.testBit_xor, h, hl]; rfl
  | false => rw [if_neg (by decide), h]
theorem fB_xor {k l : Nat} (hl : l.testBit k = true) (a b : Nat) : fB k l (a ^^^ b) = fB k l a ^^^ fB k l b := by
  unfold fB
  rw [Nat.testBit_xor]
  cases ha : a.testBit k <;> cases hb : b.testBit k <;> simp
  · rw [Nat.xor_assoc]
  · rw [Nat.xor_assoc, Nat.xor_comm b l, ← Nat.xor_assoc]
  · rw [Nat.xor_comm b l, ← Nat.xor_assoc, xx]
theorem fB_sp {k l : Nat} {L : List Nat} (hl : Sp L l) {w : Nat} (hw : Sp L w) : Sp L (fB k l w) := by
  unfold fB
  split
  · exact sp_xor L hw hl
  · exact hw
/-- the span of what is left, behind a column with a lead -/
theorem sp_lead {k l : Nat} {L M : List Nat} (hl : l.testBit k = true) (ha : ∀ y ∈ M, Sp L y ∧ y.testBit k = false) (hb : ∀ x ∈ L, Sp M (fB k l x)) (w : Nat) : Sp M w ↔ Sp L w ∧ w.testBit k = false := by
  constructor
  · exact sp_min (V := fun w => Sp L w ∧ w.testBit k = false) ⟨sp_zero L, by simp⟩ (fun a b h1 h2 => ⟨sp_xor L h1.1 h2.1, by rw [Nat.testBit_xor, h1.2, h2.2]; rfl⟩) M ha
  · rintro ⟨h1, h2⟩
    have := sp_min (V := fun w => Sp M (fB k l w)) (by show Sp M (fB k l 0); have : fB k l 0 = 0 := by unfold fB; simp
                                                       rw [this]; exact sp_zero M) (fun a b h1 h2 => by show Sp M (fB k l (a ^^^ b)); rw [fB_xor hl]; exact sp_xor M h1 h2) L hb h1
    have e : fB k l w = w := by unfold fB; rw [h2]; rfl
    rwa [e] at this
theorem sp_low {L : List Nat} {k : Nat} (h : ∀ x ∈ L, x.testBit k = false) {w : Nat} (hw : Sp L w) : w.testBit k = false :=
  sp_min (V := fun w => w.testBit k = false) (by simp) (fun a b h1 h2 => by rw [Nat.testBit_xor, h1, h2]; rfl) L h hw
theorem sp_small {L : List Nat} {c : Nat} (h : ∀ x ∈ L, x < 2 ^ c) {w : Nat} (hw : Sp L w) : w < 2 ^ c :=
  sp_min (V := fun w => w < 2 ^ c) (Nat.two_pow_pos c) (fun a b h1 h2 => Nat.xor_lt_two_pow h1 h2) L h hw
theorem getD_map_append (f : Nat → Nat) (hf : f 0 = 0) (L : List Nat) (l j : Nat) : (L.map f ++ [l]).getD j 0 = if j = L.length then l else f (L.getD j 0) := by
  rw [List.getD_eq_getElem?_getD, List.getD_eq_getElem?_getD]
  by_cases h : j < L.length
  · rw [if_neg (by omega), List.getElem?_append_left (by simpa using h), List.getElem?_map]
    rw [List.getElem?_eq_getElem h]; rfl
  · by_cases e : j = L.length
    · rw [if_pos e, List.getElem?_append_right (by simp; omega)]
      simp [e]
    · rw [if_neg e, List.getElem?_eq_none (by simp; omega), List.getElem?_eq_none (by omega)]
      simp [hf]
theorem fB_small {c k l w : Nat} (hl : l < 2 ^ c) (hw : w < 2 ^ c) : fB k l w < 2 ^ c := by
  unfold fB
  split
  · exact Nat.xor_lt_two_pow hw hl
  · exact hw
theorem fB_zero (k l : Nat) : fB k l 0 = 0 := by unfold fB; simp
def mapFrom (f : Nat → Nat) (i : Nat) (L : List Nat) : List Nat := L.take i ++ (L.drop i).map f
theorem getD_lt (L : List Nat) (i : Nat) (h : i < L.length) : L.getD i 0 = L[i] := by
  rw [List.getD_eq_getElem?_getD, List.getElem?_eq_getElem h]; rfl
theorem mapFrom_step (f : Nat → Nat) (i : Nat) (L : List Nat) (h : i < L.length) : mapFrom f (i + 1) (L.set i (f (L.getD i 0))) = mapFrom f i L := by
  unfold mapFrom
  rw [List.take_succ_eq_append_getElem (by simpa using h), List.take_set_of_le (Nat.le_refl _), List.getElem_set_self, List.drop_set_of_lt (by omega), List.drop_eq_getElem_cons h, List.map_cons, getD_lt L i h, List.append_assoc]
  rfl
theorem mapFrom_skip (f : Nat → Nat) (i : Nat) (L : List Nat) (h : i < L.length) (hf : f (L.getD i 0) = L.getD i 0) : mapFrom f (i + 1) L = mapFrom f i L := by
  have := mapFrom_step f i L h
  rw [hf] at this
  have e : L.set i (L.getD i 0) = L := by rw [getD_lt L i h, List.set_getElem_self]
  rwa [e] at this
theorem mapFrom_end (f : Nat → Nat) (L : List Nat) : mapFrom f L.length L = L := by unfold mapFrom; simp
theorem mapFrom_zero (f : Nat → Nat) (L : List Nat) : mapFrom f 0 L = L.map f := by unfold mapFrom; simp
theorem getD_small {L : List Nat} (h : ∀ x ∈ L, x < 1024) (i : Nat) : L.getD i 0 < 1024 := by
  by_cases hi : i < L.length
  · rw [getD_lt L i hi]; exact h _ (List.getElem_mem hi)
  · rw [List.getD_eq_getElem?_getD, List.getElem?_eq_none (by omega)]; simp
theorem set_small {L : List Nat} (h : ∀ x ∈ L, x < 1024) (i y : Nat) (hy : y < 1024) : ∀ x ∈ L.set i y, x < 1024 := by
  intro x hx
  rcases List.mem_or_eq_of_mem_set hx with hx | rfl
  · exact h x hx
  · exact hy
theorem fB_lt {k l w : Nat} (hl : l < 1024) (hw : w < 1024) : fB k l w < 1024 := fB_small (c := 10) hl hw
theorem mapFrom_set (f : Nat → Nat) (R : List Nat) (i j y : Nat) (h : i < j) (hj : j ≤ R.length) : mapFrom f j (R.set i y) = (mapFrom f j R).set i y := by
  unfold mapFrom
  rw [List.take_set, List.drop_set_of_lt h, List.set_append_left _ _ (by rw [List.length_take]; omega)]
theorem mapFrom_over (f : Nat → Nat) (R : List Nat) (d l : Nat) (h : d < R.length) : (mapFrom f (d + 1) R).set d l = (mapFrom f d R).set d l := by
  rw [← mapFrom_step f d R h, mapFrom_set f R d (d + 1) _ (by omega) (by omega), List.set_set]
theorem lead_T {x k : Nat} (hx : x < 1024) (hk : k ≤ 62) : impl_echelon_1.f (x : Int) (k : Int) = some (x.testBit k) := by
  unfold impl_echelon_1.f
  rw [if_pos (by omega), bit_T hx hk]
  cases x.testBit k <;> rfl
theorem idx_T {k : Nat} (hk : k ≤ 62) : ∀ (D : List Nat) (i : Int), (∀ x ∈ D, x < 1024) →
    ((∀ x ∈ D, x.testBit k = false) ∧ idxF (fun x_ => impl_echelon_1.f x_ (k : Int)) (T D) i = some (-1)) ∨
    ∃ a, a < D.length ∧ (D.getD a 0).testBit k = true ∧ idxF (fun x_ => impl_echelon_1.f x_ (k : Int)) (T D) i = some (i + (a : Int)) := by
  intro D
  induction D with
  | nil => intro i _; exact Or.inl ⟨by simp, rfl⟩
  | cons x D ih =>
    intro i hs
    have hx := hs x List.mem_cons_self
    have e : T (x :: D) = (x : Int) :: T D := rfl
    by_cases hb : x.testBit k = true
    · refine Or.inr ⟨0, by simp, by simpa using hb, ?_⟩
      rw [e, idxF, lead_T hx hk, Option.bind_some, if_pos hb]; simp
    · have hb' := Bool.eq_false_iff.2 hb
      rcases ih (i + 1) (fun y hy => hs y (List.mem_cons_of_mem _ hy)) with ⟨h1, h2⟩ | ⟨a, h1, h2, h3⟩
      · refine Or.inl ⟨fun y hy => ?_, ?_⟩
        · rcases List.mem_cons.1 hy with rfl | hy
          · exact hb'
          · exact h1 y hy
        · rw [e, idxF, lead_T hx hk, Option.bind_some, if_neg hb, h2]
      · refine Or.inr ⟨a + 1, by simpa using h1, by simpa using h2, ?_⟩
        rw [e, idxF, lead_T hx hk, Option.bind_some, if_neg hb, h3]
        congr 1; omega
theorem impl_l1 {k l d : Nat} (hk : k ≤ 61) (hl : l < 1024) : ∀ (n i : Nat) (R : List Nat), i + n = R.length → R.length ≤ 1000 → (∀ x ∈ R, x < 1024) → d < R.length → R.getD d 0 = l → ∀ K,
    impl_echelon.l1 (K + n + 1) (T R) (d : Int) (R.length : Int) (i : Int) (k : Int) = impl_echelon.l0 K (T ((mapFrom (fB k l) i R).set d l)) ((d + 1 : Nat) : Int) ((k + 1 : Nat) : Int) := by
  intro n
  induction n with
  | zero =>
    intro i R hn hR hs hd hdl K
    have e : R.set d l = R := by rw [← hdl, getD_lt R d hd, List.set_getElem_self]
    rw [show K + 0 + 1 = K + 1 from rfl, impl_echelon.l1, if_neg (by omega), show i = R.length by omega, mapFrom_end, e, w64 (x := (d : Int) + 1) (by omega) (by omega), w64 (x := (k : Int) + 1) (by omega) (by omega),
      show (d : Int) + 1 = ((d + 1 : Nat) : Int) by omega, show (k : Int) + 1 = ((k + 1 : Nat) : Int) by omega]
  | succ n ih =>
    intro i R hn hR hs hd hdl K
    rw [show K + (n + 1) + 1 = (K + n + 1) + 1 by omega, impl_echelon.l1, if_pos (by omega), w64 (x := (i : Int) + 1) (by omega) (by omega), show (i : Int) + 1 = ((i + 1 : Nat) : Int) by omega]
    by_cases hid : i = d
    · subst hid
      rw [if_pos rfl, ih (i + 1) R (by omega) hR hs hd hdl, mapFrom_over _ R i l hd]
    · have hx := getD_small hs i
      rw [if_neg (by omega), if_pos (by omega), len_T, if_pos (by omega), if_pos (by omega), rd_T, rd_T, hdl, bit_T hx (by omega)]
      by_cases hb : (R.getD i 0).testBit k = true
      · have e : R.getD i 0 ^^^ l = fB k l (R.getD i 0) := by unfold fB; rw [if_pos hb]
        have hg : (R.set i (R.getD i 0 ^^^ l)).getD d 0 = l := by
          rw [List.getD_eq_getElem?_getD, List.getElem?_set_ne hid, ← List.getD_eq_getElem?_getD]; exact hdl
        have := ih (i + 1) (R.set i (R.getD i 0 ^^^ l)) (by simp; omega) (by simpa using hR) (set_small hs i _ (Nat.xor_lt_two_pow (n := 10) hx hl)) (by simpa using hd) hg K
        rw [List.length_set] at this
        rw [if_pos hb, if_pos rfl, if_pos (by omega), if_pos (by omega), xor_T hx hl, set_T, this, e, mapFrom_step _ i R (by omega)]
      · rw [if_neg hb, if_neg (by decide), ih (i + 1) R (by omega) hR hs hd hdl, mapFrom_skip _ i R (by omega) (by unfold fB; rw [if_neg hb])]
theorem set_T' (L : List Nat) (i n : Nat) : (T L).set i (n : Int) = T (L.set i n) := by
  unfold T; rw [List.map_set]
theorem T_append (A B : List Nat) : T (A ++ B) = T A ++ T B := by simp [T]
theorem T_drop (A : List Nat) (n : Nat) : (T A).drop n = T (A.drop n) := by simp [T, List.map_drop]
theorem T_take (A : List Nat) (n : Nat) : (T A).take n = T (A.take n) := by simp [T, List.map_take]
/-- the swap: what stands behind the lead, of the rows that were left -/
theorem swap_rest (rest : List Nat) (a : Nat) (ha : a < rest.length) : ∃ rest2, (rest.set 0 (rest.getD a 0)).set a (rest.getD 0 0) = rest.getD a 0 :: rest2 ∧ rest2.length + 1 = rest.length ∧ (∀ x ∈ rest2, x ∈ rest) ∧ ∀ x ∈ rest, x = rest.getD a 0 ∨ x ∈ rest2 := by
  cases rest with
  | nil => simp at ha
  | cons r t =>
    cases a with
    | zero => exact ⟨t, by simp, by simp, fun x hx => List.mem_cons_of_mem _ hx, fun x hx => by simpa using hx⟩
    | succ a =>
      have ha' : a < t.length := by simpa using ha
      have hl : (r :: t).getD (a + 1) 0 = t[a] := by rw [List.getD_cons_succ, getD_lt t a ha']
      refine ⟨t.set a r, by simp [hl], by simp, fun x hx => ?_, fun x hx => ?_⟩
      · rcases List.mem_or_eq_of_mem_set hx with hx | rfl
        · exact List.mem_cons_of_mem _ hx
        · exact List.mem_cons_self
      · rw [hl]
        rcases List.mem_cons.1 hx with rfl | hx
        · exact Or.inr (List.mem_set ha' x)
        · obtain ⟨j, hj, rfl⟩ := List.getElem_of_mem hx
          by_cases e : j = a
          · subst e; exact Or.inl rfl
          · refine Or.inr ?_
            have : (t.set a r)[j]'(by simpa using hj) = t[j] := by rw [List.getElem_set_ne (by omega)]
            rw [← this]; exact List.getElem_mem _
theorem impl_stop (R : List Nat) (d k K : Nat) (hd : d ≤ R.length) (h : k < 62 → ¬ d < R.length) : impl_echelon.l0 (K + 2) (T R) (d : Int) (k : Int) = some (T (R.take d)) := by
  have e : impl_echelon.j1 (K + 1) (T R) (d : Int) false (k : Int) = some (T (R.take d)) := by
    rw [impl_echelon.j1, if_neg (by decide), if_pos (by omega), len_T, if_pos (by omega), Int.toNat_natCast, T_take]
  rw [show K + 2 = (K + 1) + 1 from rfl, impl_echelon.l0, len_T]
  by_cases hk : (k : Int) < 62
  · rw [if_pos hk, decide_eq_false (by have := h (by omega); omega), e]
  · rw [if_neg hk, e]
theorem impl_none (out rest : List Nat) (k K : Nat) (hk : k < 62) (hl : out.length + rest.length ≤ 1000) (hne : 0 < rest.length) (hs : ∀ x ∈ rest, x < 1024) (hz : ∀ x ∈ rest, x.testBit k = false) :
    impl_echelon.l0 (K + 2) (T (out ++ rest)) (out.length : Int) (k : Int) = impl_echelon.l0 K (T (out ++ rest)) (out.length : Int) ((k + 1 : Nat) : Int) := by
  rw [show K + 2 = (K + 1) + 1 from rfl, impl_echelon.l0, if_pos (by omega), decide_eq_true (by rw [len_T, List.length_append]; omega), impl_echelon.j1, if_pos rfl, if_pos (by omega), len_T, if_pos (by rw [List.length_append]; omega), Int.toNat_natCast, T_drop, List.drop_left]
  rcases idx_T (k := k) (by omega) rest 0 hs with ⟨_, h2⟩ | ⟨a, h1, h2, _⟩
  · unfold idxO
    rw [h2, Option.bind_some, if_pos (by decide), w64 (x := (k : Int) + 1) (by omega) (by omega), show (k : Int) + 1 = ((k + 1 : Nat) : Int) by omega]
  · rw [getD_lt rest a h1, hz _ (List.getElem_mem h1)] at h2; cases h2
theorem impl_lead (out rest : List Nat) (k : Nat) (hk : k ≤ 20) (hl : out.length + rest.length ≤ 1000) (hso : ∀ x ∈ out, x < 1024) (hs : ∀ x ∈ rest, x < 1024) (hb : ¬ ∀ x ∈ rest, x.testBit k = false) :
    ∃ (l : Nat) (rest2 : List Nat), l ∈ rest ∧ l.testBit k = true ∧ rest2.length + 1 = rest.length ∧ (∀ x ∈ rest2, x ∈ rest) ∧ (∀ x ∈ rest, x = l ∨ x ∈ rest2) ∧
      ∀ K, impl_echelon.l0 (K + (out.length + rest.length) + 3) (T (out ++ rest)) (out.length : Int) (k : Int) = impl_echelon.l0 K (T ((out.map (fB k l) ++ [l]) ++ rest2.map (fB k l))) ((out.length + 1 : Nat) : Int) ((k + 1 : Nat) : Int) := by
  rcases idx_T (k := k) (by omega) rest 0 hs with ⟨h1, _⟩ | ⟨a, h1, h2, h3⟩
  · exact absurd h1 hb
  · obtain ⟨rest2, s1, s2, s3, s4⟩ := swap_rest rest a h1
    have hlm : rest.getD a 0 ∈ rest := by rw [getD_lt rest a h1]; exact List.getElem_mem h1
    refine ⟨rest.getD a 0, rest2, hlm, h2, s2, s3, s4, fun K => ?_⟩
    have hdl : (out ++ rest).getD (out.length + a) 0 = rest.getD a 0 := by rw [List.getD_eq_getElem?_getD, List.getElem?_append_right (by omega), Nat.add_sub_cancel_left, ← List.getD_eq_getElem?_getD]
    have hd0 : (out ++ rest).getD out.length 0 = rest.getD 0 0 := by rw [List.getD_eq_getElem?_getD, List.getElem?_append_right (by omega), Nat.sub_self, ← List.getD_eq_getElem?_getD]
    have hQ : ((out ++ rest).set out.length (rest.getD a 0)).set (out.length + a) (rest.getD 0 0) = out ++ rest.getD a 0 :: rest2 := by
      rw [List.set_append_right _ _ (by omega), Nat.sub_self, List.set_append_right _ _ (by omega), Nat.add_sub_cancel_left, s1]
    have hlen : (out ++ rest.getD a 0 :: rest2).length = out.length + rest.length := by simp; omega
    have hm := impl_l1 (k := k) (l := rest.getD a 0) (d := out.length) (by omega) (hs _ hlm) (out.length + rest.length) 0 (out ++ rest.getD a 0 :: rest2) (by rw [hlen]; omega) (by rw [hlen]; omega)
      (fun x hx => by
        rcases List.mem_append.1 hx with hx | hx
        · exact hso x hx
        · rcases List.mem_cons.1 hx with rfl | hx
          · exact hs _ hlm
          · exact hs x (s3 x hx)) (by rw [hlen]; omega) (by rw [List.getD_eq_getElem?_getD, List.getElem?_append_right (by omega), Nat.sub_self]; rfl) K
    rw [hlen, mapFrom_zero, List.map_append, List.set_append_right _ _ (by simp), List.length_map, Nat.sub_self, List.map_cons, List.set_cons_zero] at hm
    rw [show K + (out.length + rest.length) + 3 = (K + (out.length + rest.length) + 1 + 1) + 1 by omega, impl_echelon.l0, if_pos (by omega), decide_eq_true (by rw [len_T, List.length_append]; omega), impl_echelon.j1, if_pos rfl, if_pos (by omega), len_T, if_pos (by rw [List.length_append]; omega), Int.toNat_natCast, T_drop, List.drop_left]
    unfold idxO
    rw [h3, Option.bind_some, Int.zero_add, if_neg (by omega), w64 (x := (out.length : Int) + (a : Int)) (by omega) (by omega), show (out.length : Int) + (a : Int) = ((out.length + a : Nat) : Int) by omega, if_pos (by omega), if_pos (by rw [List.length_append]; omega), if_pos (by rw [List.length_append]; omega), rd_T, rd_T, hdl, hd0, set_T', set_T, hQ, List.length_append]
    rw [show ((out.length + rest.length : Nat) : Int) = ((out.length + rest.length : Nat) : Int) from rfl]
    have := hm
    simp only [List.append_assoc, List.singleton_append] at this ⊢
    exact this
theorem impl_tail (c : Nat) (out rest : List Nat) (hl : out.length + rest.length ≤ 1000) (hs : ∀ x ∈ rest, x < 1024) (hz : ∀ x ∈ rest, ∀ b, c ≤ b → x.testBit b = false) : ∀ m k, k + m = 62 → c ≤ k → ∃ N, ∀ K, N ≤ K → impl_echelon.l0 K (T (out ++ rest)) (out.length : Int) (k : Int) = some (T out) := by
  intro m
  induction m with
  | zero =>
    intro k hk hc
    refine ⟨2, fun K hK => ?_⟩
    obtain ⟨K, rfl⟩ : ∃ j, K = j + 2 := ⟨K - 2, by omega⟩
    rw [impl_stop _ _ _ _ (by simp) (by omega), List.take_left]
  | succ m ih =>
    intro k hk hc
    by_cases hr : rest = []
    · subst hr
      refine ⟨2, fun K hK => ?_⟩
      obtain ⟨K, rfl⟩ : ∃ j, K = j + 2 := ⟨K - 2, by omega⟩
      rw [impl_stop _ _ _ _ (by simp) (by simp), List.take_left]
    · obtain ⟨N, hN⟩ := ih (k + 1) (by omega) (by omega)
      refine ⟨N + 2, fun K hK => ?_⟩
      obtain ⟨K, rfl⟩ : ∃ j, K = j + 2 := ⟨K - 2, by omega⟩
      rw [impl_none out rest k K (by omega) hl (List.length_pos_iff.2 hr) hs (fun x hx => hz x hx k hc)]
      exact hN K (by omega)
theorem of_T (l : List Int) (h : ∀ x ∈ l, 0 ≤ x) : T (l.map Int.toNat) = l := by
  unfold T
  rw [List.map_map]
  conv => rhs; rw [← List.map_id l]
  refine List.map_congr_left fun x hx => ?_
  have := h x hx
  simp; omega
/-- the sum of the rows that a number's bits tell -/
def cmb : List Nat → Nat → Nat → Nat
  | [], _, _ => 0
  | x :: L, i, h => (if h.testBit i = true then x else 0) ^^^ cmb L (i + 1) h
theorem cmb_xor : ∀ (L : List Nat) (i a b : Nat), cmb L i (a ^^^ b) = cmb L i a ^^^ cmb L i b
  | [], _, _, _ => by simp [cmb]
  | x :: L, i, a, b => by
    simp only [cmb]
    rw [cmb_xor L (i + 1) a b, Nat.testBit_xor]
    cases ha : a.testBit i <;> cases hb : b.testBit i <;> simp
    · ac_rfl
    · ac_rfl
    · rw [show x ^^^ cmb L (i + 1) a ^^^ (x ^^^ cmb L (i + 1) b) = (x ^^^ x) ^^^ (cmb L (i + 1) a ^^^ cmb L (i + 1) b) by ac_rfl, Nat.xor_self, Nat.zero_xor]
theorem cmb_zero : ∀ (L : List Nat) (i : Nat), cmb L i 0 = 0
  | [], _ => rfl
  | x :: L, i => by simp only [cmb]; rw [cmb_zero L]; simp
theorem cmb_small {c : Nat} : ∀ (L : List Nat) (i h : Nat), (∀ x ∈ L, x < 2 ^ c) → cmb L i h < 2 ^ c
  | [], _, _, _ => Nat.two_pow_pos c
  | x :: L, i, h, hs => by
    refine Nat.xor_lt_two_pow ?_ (cmb_small L (i + 1) h fun y hy => hs y (List.mem_cons_of_mem _ hy))
    split
    · exact hs x List.mem_cons_self
    · exact Nat.two_pow_pos c
theorem cmb_low : ∀ (L : List Nat) (i j : Nat), j < i → cmb L i (2 ^ j) = 0
  | [], _, _, _ => rfl
  | x :: L, i, j, h => by
    simp only [cmb]
    rw [cmb_low L (i + 1) j (by omega), Nat.testBit_two_pow, if_neg (by simp; omega)]; rfl
theorem cmb_pow : ∀ (L : List Nat) (i j : Nat), cmb L i (2 ^ (i + j)) = L.getD j 0
  | [], _, _ => by simp [cmb]
  | x :: L, i, 0 => by
    simp only [cmb]
    rw [cmb_low L (i + 1) (i + 0) (by omega), Nat.testBit_two_pow, if_pos (by simp)]; simp
  | x :: L, i, j + 1 => by
    simp only [cmb]
    rw [show i + (j + 1) = i + 1 + j by omega, cmb_pow L (i + 1) j, Nat.testBit_two_pow, if_neg (by simp; omega)]; simp
theorem cmb_pow0 (L : List Nat) (j : Nat) : cmb L 0 (2 ^ j) = L.getD j 0 := by
  have := cmb_pow L 0 j
  rwa [Nat.zero_add] at this
theorem sp_cmb : ∀ (L : List Nat) (i h : Nat), Sp L (cmb L i h)
  | [], _, _ => rfl
  | x :: L, i, h => by
    simp only [cmb]
    by_cases hb : h.testBit i = true
    · rw [if_pos hb]
      exact Or.inr (by rw [Nat.xor_comm, ← Nat.xor_assoc, Nat.xor_self, Nat.zero_xor]; exact sp_cmb L (i + 1) h)
    · rw [if_neg hb, Nat.zero_xor]
      exact Or.inl (sp_cmb L (i + 1) h)
theorem cmb_high (L : List Nat) : ∀ (i h h' : Nat), (∀ b, i ≤ b → h.testBit b = h'.testBit b) → cmb L i h = cmb L i h' := by
  induction L with
  | nil => intro i h h' _; rfl
  | cons x L ih =>
    intro i h h' e
    simp only [cmb]
    rw [e i (Nat.le_refl _), ih (i + 1) h h' fun b hb => e b (by omega)]
theorem sp_is : ∀ (L : List Nat) (i w : Nat), Sp L w → ∃ h, (∀ b, b < i → h.testBit b = false) ∧ w = cmb L i h
  | [], i, w, h => ⟨0, fun b _ => by simp, h⟩
  | x :: L, i, w, h => by
    rcases h with h | h
    · obtain ⟨u, h1, h2⟩ := sp_is L (i + 1) w h
      refine ⟨u, fun b hb => h1 b (by omega), ?_⟩
      simp only [cmb]
      rw [h1 i (by omega), h2]; simp
    · obtain ⟨u, h1, h2⟩ := sp_is L (i + 1) _ h
      refine ⟨u ^^^ 2 ^ i, fun b hb => ?_, ?_⟩
      · rw [Nat.testBit_xor, h1 b (by omega), Nat.testBit_two_pow]; simp; omega
      · have e : cmb L (i + 1) (u ^^^ 2 ^ i) = cmb L (i + 1) u := by rw [cmb_xor, cmb_low L (i + 1) i (by omega), Nat.xor_zero]
        simp only [cmb]
        rw [e, ← h2, Nat.testBit_xor, h1 i (by omega), Nat.testBit_two_pow, if_pos (by simp), Nat.xor_comm x, xx]
theorem cmb_map (g : Nat → Nat) (g0 : g 0 = 0) (gx : ∀ a b, g (a ^^^ b) = g a ^^^ g b) : ∀ (L : List Nat) (i h : Nat), g (cmb L i h) = cmb (L.map g) i h
  | [], _, _ => g0
  | x :: L, i, h => by
    simp only [cmb, List.map_cons]
    rw [gx, cmb_map g g0 gx L (i + 1) h]
    by_cases hb : h.testBit i = true
    · rw [if_pos hb, if_pos hb]
    · rw [if_neg hb, if_neg hb, g0]
/-- rows of which each has a column of its own: the bits of a sum -/
theorem cmb_bit : ∀ (L : List Nat) (i j h : Nat), (∀ a, a < L.length → (L.getD a 0).testBit j = decide (i + a = j)) → (cmb L i h).testBit j = (decide (i ≤ j ∧ j < i + L.length) && h.testBit j)
  | [], i, j, h, _ => by
    simp only [cmb, List.length_nil, Nat.zero_testBit]
    rw [decide_eq_false (by omega)]; rfl
  | x :: L, i, j, h, hs => by
    have h0 := hs 0 (by simp)
    have ih := cmb_bit L (i + 1) j h fun a ha => by
      have := hs (a + 1) (by simpa using ha)
      rw [List.getD_cons_succ] at this
      rw [this]; congr 1; exact propext ⟨fun _ => by omega, fun _ => by omega⟩
    simp only [cmb]
    rw [Nat.testBit_xor, ih, List.length_cons]
    have h0' : x.testBit j = decide (i = j) := by simpa using h0
    by_cases e : i = j
    · subst e
      rw [decide_eq_false (show ¬ (i + 1 ≤ i ∧ i < i + 1 + L.length) by omega), decide_eq_true (show i ≤ i ∧ i < i + (L.length + 1) by omega)]
      cases hb : h.testBit i <;> simp [h0']
    · have hx : (if h.testBit i = true then x else 0).testBit j = false := by
        split
        · rw [h0', decide_eq_false e]
        · simp
      rw [hx, Bool.false_xor]
      congr 1
      exact decide_eq_decide.2 ⟨fun _ => by omega, fun _ => by omega⟩
def pows : Nat → Nat → List Nat
  | _, 0 => []
  | i, n + 1 => 2 ^ i :: pows (i + 1) n
theorem len_pows : ∀ (n i : Nat), (pows i n).length = n
  | 0, _ => rfl
  | n + 1, i => by rw [pows, List.length_cons, len_pows n]
theorem pows_at : ∀ (n i a : Nat), a < n → (pows i n).getD a 0 = 2 ^ (i + a)
  | 0, _, _, h => by omega
  | n + 1, i, 0, _ => by simp [pows]
  | n + 1, i, a + 1, h => by
    rw [pows, List.getD_cons_succ, pows_at n (i + 1) a (by omega)]
    congr 1; omega
theorem list_eq {A B : List Nat} (hl : A.length = B.length) (h : ∀ a, a < A.length → A.getD a 0 = B.getD a 0) : A = B := by
  refine List.ext_getElem hl fun i h1 h2 => ?_
  have := h i h1
  rwa [getD_lt A i h1, getD_lt B i h2] at this
theorem cmb_pows (n h : Nat) (hh : h < 2 ^ n) : cmb (pows 0 n) 0 h = h := by
  refine Nat.eq_of_testBit_eq fun j => ?_
  by_cases hj : j < n
  · rw [cmb_bit (pows 0 n) 0 j h fun a ha => by
      rw [len_pows] at ha
      rw [pows_at n 0 a ha, Nat.zero_add, Nat.testBit_two_pow], len_pows, decide_eq_true (by omega)]; rfl
  · have h1 : cmb (pows 0 n) 0 h < 2 ^ n := cmb_small _ _ _ fun x hx => by
      obtain ⟨a, ha, rfl⟩ := List.getElem_of_mem hx
      rw [len_pows] at ha
      rw [← getD_lt _ a (by rw [len_pows]; exact ha), pows_at n 0 a ha]
      exact Nat.pow_lt_pow_right (by omega) (by omega)
    rw [Nat.testBit_lt_two_pow (Nat.lt_of_lt_of_le h1 (Nat.pow_le_pow_right (by omega) (by omega))), Nat.testBit_lt_two_pow (Nat.lt_of_lt_of_le hh (Nat.pow_le_pow_right (by omega) (by omega)))]
theorem map_at (f : Nat → Nat) (f0 : f 0 = 0) (L : List Nat) (a : Nat) : (L.map f).getD a 0 = f (L.getD a 0) := by
  rw [List.getD_eq_getElem?_getD, List.getD_eq_getElem?_getD, List.getElem?_map]
  cases L[a]? <;> simp [f0]
/-- what spans n columns has n rows -/
theorem dims : ∀ (n : Nat) (M : List Nat), (∀ j, j < n → Sp M (2 ^ j)) → n ≤ M.length
  | 0, _, _ => Nat.zero_le _
  | n + 1, M, h => by
    have hn := h n (by omega)
    by_cases hz : ∀ x ∈ M, x.testBit n = false
    · have := sp_low hz hn
      rw [Nat.testBit_two_pow] at this; simp at this
    · obtain ⟨l, hl, hb⟩ : ∃ l, l ∈ M ∧ l.testBit n = true := by
        refine Classical.byContradiction fun hc => hz fun x hx => ?_
        exact Bool.eq_false_iff.2 fun hb => hc ⟨x, hx, hb⟩
      obtain ⟨A, B, rfl⟩ := List.append_of_mem hl
      have s := sp_lead (L := A ++ l :: B) (M := (A ++ B).map (fB n l)) hb (fun y hy => by
        obtain ⟨x, hx, rfl⟩ := List.mem_map.1 hy
        refine ⟨fB_sp (sp_mem _ hl) (sp_mem _ ?_), fB_bit hb x⟩
        rcases List.mem_append.1 hx with hx | hx
        · exact List.mem_append_left _ hx
        · exact List.mem_append_right _ (List.mem_cons_of_mem _ hx)) (fun x hx => by
        have hc : x = l ∨ x ∈ A ++ B := by
          rcases List.mem_append.1 hx with hx | hx
          · exact Or.inr (List.mem_append_left _ hx)
          · rcases List.mem_cons.1 hx with hx | hx
            · exact Or.inl hx
            · exact Or.inr (List.mem_append_right _ hx)
        rcases hc with rfl | hc
        · have : fB n x x = 0 := by unfold fB; rw [if_pos hb, Nat.xor_self]
          rw [this]; exact sp_zero _
        · exact sp_mem _ (List.mem_map.2 ⟨x, hc, rfl⟩))
      have := dims n _ fun j hj => (s (2 ^ j)).2 ⟨h j (by omega), by rw [Nat.testBit_two_pow]; simp; omega⟩
      simp at this ⊢
      omega
theorem sp_append {A B : List Nat} {w : Nat} (h : Sp (A ++ B) w) : ∃ u v, Sp A u ∧ Sp B v ∧ w = u ^^^ v :=
  sp_min (V := fun w => ∃ u v, Sp A u ∧ Sp B v ∧ w = u ^^^ v) ⟨0, 0, sp_zero A, sp_zero B, rfl⟩
    (fun a b ⟨u, v, h1, h2, e⟩ ⟨u', v', h1', h2', e'⟩ => ⟨u ^^^ u', v ^^^ v', sp_xor A h1 h1', sp_xor B h2 h2', by rw [e, e']; ac_rfl⟩) (A ++ B)
    (fun x hx => by
      rcases List.mem_append.1 hx with hx | hx
      · exact ⟨x, 0, sp_mem A hx, sp_zero B, by simp⟩
      · exact ⟨0, x, sp_zero A, sp_mem B hx, by simp⟩) h
theorem sp_sub {A B : List Nat} (h : ∀ x ∈ A, Sp B x) {w : Nat} (hw : Sp A w) : Sp B w :=
  sp_min (V := fun w => Sp B w) (sp_zero B) (fun a b => sp_xor B) A h hw
def Full (k : Nat) (out : List Nat) : Prop := ∀ i < k, ∀ j < k, (out.getD i 0).testBit j = decide (i = j)
theorem full_zero {k : Nat} {out : List Nat} (hl : out.length = k) (hF : Full k out) {u : Nat} (hu : Sp out u) (hb : ∀ j < k, u.testBit j = false) : u = 0 := by
  obtain ⟨h, _, rfl⟩ := sp_is out 0 u hu
  have : cmb out 0 h = cmb out 0 0 := by
    refine Eq.symm ?_
    have hh : ∀ j < k, h.testBit j = false := fun j hj => by
      have h1 := hb j hj
      rw [cmb_bit out 0 j h fun a ha => by rw [hF a (by omega) j hj, Nat.zero_add], decide_eq_true (by omega)] at h1
      simpa using h1
    clear hb hu
    have key : ∀ (L : List Nat) (i : Nat), i + L.length = k → cmb L i 0 = cmb L i h := by
      intro L
      induction L with
      | nil => intro i _; rfl
      | cons x L ih =>
        intro i hi
        simp only [cmb]
        rw [List.length_cons] at hi
        rw [hh i (by omega), ih (i + 1) (by omega)]; simp
    exact key out 0 (by omega)
  rw [this, cmb_zero]
theorem sp_zeros {A B : List Nat} (hz : ∀ x ∈ B, x = 0) (w : Nat) : Sp (A ++ B) w ↔ Sp A w := by
  constructor
  · exact sp_sub fun x hx => by
      rcases List.mem_append.1 hx with hx | hx
      · exact sp_mem A hx
      · rw [hz x hx]; exact sp_zero A
  · exact sp_sub fun x hx => sp_mem _ (List.mem_append_left _ hx)
theorem full_step {k l : Nat} {out : List Nat} (hl : out.length = k) (hF : Full k out) (hb : l.testBit k = true) (hz : ∀ b < k, l.testBit b = false) : Full (k + 1) (out.map (fB k l) ++ [l]) := by
  intro i hi j hj
  rw [getD_map_append _ (fB_zero k l), hl]
  by_cases e : i = k
  · rw [if_pos e, e]
    by_cases e2 : j = k
    · rw [e2, hb]; simp
    · rw [hz j (by omega), decide_eq_false (by omega)]
  · rw [if_neg e]
    by_cases e2 : j = k
    · rw [e2, fB_bit hb, decide_eq_false (by omega)]
    · have := hF i (by omega) j (by omega)
      unfold fB
      split
      · rw [Nat.testBit_xor, hz j (by omega), Bool.xor_false]; exact this
      · exact this
structure St (W : List Nat) (c n k : Nat) (out rest : List Nat) : Prop where
  same : ∀ w, Sp (out ++ rest) w ↔ Sp W w
  low : ∀ x ∈ rest, ∀ b < k, x.testBit b = false
  so : ∀ x ∈ out, x < 2 ^ c
  sr : ∀ x ∈ rest, x < 2 ^ c
  len : out.length + rest.length = W.length
  few : out.length ≤ k
  full : out.length = k → Full k out
  all : (∀ j < n, ∃ w, Sp W w ∧ w % 2 ^ n = 2 ^ j) → n = W.length → k ≤ n ∧ out.length = k
structure Rs (W : List Nat) (c n : Nat) (R : List Nat) : Prop where
  same : ∀ w, Sp R w ↔ Sp W w
  len : R.length ≤ W.length
  so : ∀ x ∈ R, x < 2 ^ c
  full : R.length = c → Full c R
  all : (∀ j < n, ∃ w, Sp W w ∧ w % 2 ^ n = 2 ^ j) → n = W.length → R.length = n ∧ Full n R
theorem St.skip {W : List Nat} {c n k : Nat} {out rest : List Nat} (h : St W c n k out rest) (hr : rest ≠ []) (hz : ∀ x ∈ rest, x.testBit k = false) : St W c n (k + 1) out rest := by
  have hp := List.length_pos_iff.2 hr
  refine ⟨h.same, fun x hx b hb => ?_, h.so, h.sr, h.len, by have := h.few; omega, fun e => ?_, fun hn e => ?_⟩
  · by_cases e : b = k
    · rw [e]; exact hz x hx
    · exact h.low x hx b (by omega)
  · have := h.few; omega
  · exfalso
    obtain ⟨h1, h2⟩ := h.all hn e
    have hl := h.len
    have hk : k < n := by omega
    obtain ⟨w, w1, w2⟩ := hn k hk
    obtain ⟨u, v, hu, hv, rfl⟩ := sp_append ((h.same w).2 w1)
    have hvz : ∀ j ≤ k, v.testBit j = false := fun j hj => by
      by_cases e : j = k
      · rw [e]; exact sp_low hz hv
      · exact sp_low (fun x hx => h.low x hx j (by omega)) hv
    have hbit : ∀ j ≤ k, u.testBit j = decide (k = j) := fun j hj => by
      have e2 : ((u ^^^ v) % 2 ^ n).testBit j = (2 ^ k).testBit j := by rw [w2]
      rw [Nat.testBit_mod_two_pow, decide_eq_true (by omega), Bool.true_and, Nat.testBit_xor, hvz j hj, Bool.xor_false, Nat.testBit_two_pow] at e2
      exact e2
    have := full_zero h2 (h.full h2) hu fun j hj => by rw [hbit j (by omega), decide_eq_false (by omega)]
    have h3 := hbit k (by omega)
    rw [this] at h3; simp at h3
theorem St.lead {W : List Nat} {c n k l : Nat} {out rest rest2 : List Nat} (h : St W c n k out rest) (hl : l ∈ rest) (hb : l.testBit k = true) (h2 : rest2.length + 1 = rest.length) (hr : ∀ x ∈ rest2, x ∈ rest) (hr2 : ∀ x ∈ rest, x = l ∨ x ∈ rest2) :
    St W c n (k + 1) (out.map (fB k l) ++ [l]) (rest2.map (fB k l)) := by
  have hlen := h.len
  have hlc := h.sr l hl
  have sl : Sp (out ++ rest) l := sp_mem _ (List.mem_append_right _ hl)
  have sl' : Sp (out.map (fB k l) ++ [l] ++ rest2.map (fB k l)) l := sp_mem _ (List.mem_append_left _ (List.mem_append_right _ List.mem_cons_self))
  have back : ∀ x, Sp (out.map (fB k l) ++ [l] ++ rest2.map (fB k l)) (fB k l x) → Sp (out.map (fB k l) ++ [l] ++ rest2.map (fB k l)) x := fun x hx => by
    unfold fB at hx
    split at hx
    · have := sp_xor _ hx sl'
      rwa [xx] at this
    · exact hx
  refine ⟨fun w => (Iff.intro ?_ ?_).trans (h.same w), ?_, ?_, ?_, by simp; omega, by simp; exact h.few, fun e => ?_, fun hn e => ?_⟩
  · refine sp_sub fun x hx => ?_
    rcases List.mem_append.1 hx with hx | hx
    · rcases List.mem_append.1 hx with hx | hx
      · obtain ⟨y, hy, rfl⟩ := List.mem_map.1 hx
        exact fB_sp sl (sp_mem _ (List.mem_append_left _ hy))
      · rw [List.mem_singleton.1 hx]; exact sl
    · obtain ⟨y, hy, rfl⟩ := List.mem_map.1 hx
      exact fB_sp sl (sp_mem _ (List.mem_append_right _ (hr y hy)))
  · refine sp_sub fun x hx => ?_
    rcases List.mem_append.1 hx with hx | hx
    · exact back x (sp_mem _ (List.mem_append_left _ (List.mem_append_left _ (List.mem_map.2 ⟨x, hx, rfl⟩))))
    · rcases hr2 x hx with rfl | hx
      · exact sl'
      · exact back x (sp_mem _ (List.mem_append_right _ (List.mem_map.2 ⟨x, hx, rfl⟩)))
  · intro x hx b hbk
    obtain ⟨y, hy, rfl⟩ := List.mem_map.1 hx
    by_cases e : b = k
    · rw [e]; exact fB_bit hb y
    · have hy' := h.low y (hr y hy) b (by omega)
      have hl' := h.low l hl b (by omega)
      unfold fB
      split
      · rw [Nat.testBit_xor, hy', hl']; rfl
      · exact hy'
  · intro x hx
    rcases List.mem_append.1 hx with hx | hx
    · obtain ⟨y, hy, rfl⟩ := List.mem_map.1 hx
      exact fB_small hlc (h.so y hy)
    · rw [List.mem_singleton.1 hx]; exact hlc
  · intro x hx
    obtain ⟨y, hy, rfl⟩ := List.mem_map.1 hx
    exact fB_small hlc (h.sr y (hr y hy))
  · have e' : out.length = k := by simpa using e
    exact full_step e' (h.full e') hb (h.low l hl)
  · obtain ⟨h3, h4⟩ := h.all hn e
    exact ⟨by omega, by simp; omega⟩
theorem St.ends {W : List Nat} {c n k : Nat} {out rest : List Nat} (h : St W c n k out rest) (hnc : n ≤ c) (hz : rest = [] ∨ (k = c ∧ ∀ x ∈ rest, x = 0)) (hk : k ≤ c) : Rs W c n out := by
  have hl := h.len
  have hf := h.few
  refine ⟨fun w => Iff.trans (sp_zeros (fun x hx => ?_) w).symm (h.same w), by omega, h.so, fun e => ?_, fun hn e => ?_⟩
  · rcases hz with rfl | ⟨_, hz⟩
    · cases hx
    · exact hz x hx
  · have : out.length = k := by omega
    have e2 : k = c := by omega
    have := h.full this
    rwa [e2] at this
  · obtain ⟨h1, h2⟩ := h.all hn e
    have hnk : n = k := by
      rcases hz with rfl | ⟨hz, _⟩
      · simp at hl; omega
      · omega
    exact ⟨by omega, by rw [hnk]; exact h.full h2⟩
theorem ech_run {W : List Nat} {c n : Nat} (hc : c ≤ 10) (hnc : n ≤ c) (hW : W.length ≤ 10) : ∀ (d k : Nat) (out rest : List Nat), k + d = c → St W c n k out rest →
    ∃ (R : List Nat) (N : Nat), Rs W c n R ∧ ∀ K, N ≤ K → impl_echelon.l0 K (T (out ++ rest)) (out.length : Int) (k : Int) = some (T R) := by
  have h1024 : 2 ^ c ≤ 1024 := Nat.pow_le_pow_right (n := 2) (by omega) hc
  have small : ∀ L : List Nat, (∀ x ∈ L, x < 2 ^ c) → ∀ x ∈ L, x < 1024 := fun L h x hx => Nat.lt_of_lt_of_le (h x hx) h1024
  intro d
  induction d with
  | zero =>
    intro k out rest hk h
    have hl := h.len
    have hz : ∀ x ∈ rest, ∀ b, k ≤ b → x.testBit b = false := fun x hx b hb => Nat.testBit_lt_two_pow (Nat.lt_of_lt_of_le (h.sr x hx) (Nat.pow_le_pow_right (by omega) (by omega)))
    obtain ⟨N, hN⟩ := impl_tail k out rest (by omega) (small _ h.sr) hz (62 - k) k (by omega) (by omega)
    refine ⟨out, N, h.ends hnc (Or.inr ⟨by omega, fun x hx => Nat.eq_of_testBit_eq fun b => ?_⟩) (by omega), hN⟩
    rw [Nat.zero_testBit]
    by_cases hb : b < k
    · exact h.low x hx b hb
    · exact hz x hx b (by omega)
  | succ d ih =>
    intro k out rest hk h
    have hl := h.len
    by_cases hr : rest = []
    · subst hr
      refine ⟨out, 2, h.ends hnc (Or.inl rfl) (by omega), fun K hK => ?_⟩
      obtain ⟨K, rfl⟩ : ∃ j, K = j + 2 := ⟨K - 2, by omega⟩
      rw [impl_stop _ _ _ _ (by simp) (by simp), List.take_left]
    · by_cases hb : ∀ x ∈ rest, x.testBit k = false
      · obtain ⟨R, N, h1, h2⟩ := ih (k + 1) out rest (by omega) (h.skip hr hb)
        refine ⟨R, N + 2, h1, fun K hK => ?_⟩
        obtain ⟨K, rfl⟩ : ∃ j, K = j + 2 := ⟨K - 2, by omega⟩
        rw [impl_none out rest k K (by omega) (by omega) (List.length_pos_iff.2 hr) (small _ h.sr) hb]
        exact h2 K (by omega)
      · obtain ⟨l, rest2, m1, m2, m3, m4, m5, m6⟩ := impl_lead out rest k (by omega) (by omega) (small _ h.so) (small _ h.sr) hb
        obtain ⟨R, N, h1, h2⟩ := ih (k + 1) _ _ (by omega) (h.lead m1 m2 m3 m4 m5)
        refine ⟨R, N + 100, h1, fun K hK => ?_⟩
        obtain ⟨K', rfl⟩ : ∃ j, K = j + (out.length + rest.length) + 3 := ⟨K - (out.length + rest.length) - 3, by omega⟩
        rw [m6]
        have := h2 K' (by omega)
        rw [List.length_append, List.length_map, List.length_singleton] at this
        exact this
theorem ech_tells {W : List Nat} {c n : Nat} (hc : c ≤ 10) (hnc : n ≤ c) (hW : W.length ≤ 10) (hs : ∀ x ∈ W, x < 2 ^ c) :
    ∃ (R : List Nat) (N : Nat), Rs W c n R ∧ ∀ K, N ≤ K → impl_echelon.f K (T W) = some (T R) := by
  have h : St W c n 0 [] W := ⟨fun w => Iff.rfl, fun x _ b hb => by omega, by simp, hs, by simp, by simp, fun _ i hi => by omega, fun _ _ => ⟨by omega, rfl⟩⟩
  obtain ⟨R, N, h1, h2⟩ := ech_run hc hnc hW c 0 [] W (by omega) h
  refine ⟨R, N, h1, fun K hK => ?_⟩
  unfold impl_echelon.f slices_Clone_int64_int64.f
  simp only [Option.bind_some, List.length_nil, List.nil_append, len_T]
  rw [if_pos (by omega)]
  exact h2 K hK
def aug (n : Nat) : Nat → List Nat → List Nat
  | _, [] => []
  | i, x :: L => (x + 2 ^ (n + i)) :: aug n (i + 1) L
theorem len_aug (n : Nat) : ∀ (L : List Nat) (i : Nat), (aug n i L).length = L.length
  | [], _ => rfl
  | x :: L, i => by simp [aug, len_aug n L (i + 1)]
theorem aug_at (n : Nat) : ∀ (L : List Nat) (i a : Nat), a < L.length → (aug n i L).getD a 0 = L.getD a 0 + 2 ^ (n + (i + a))
  | [], _, _, h => by simp at h
  | x :: L, i, 0, _ => by simp [aug]
  | x :: L, i, a + 1, h => by
    rw [aug, List.getD_cons_succ, List.getD_cons_succ, aug_at n L (i + 1) a (by simpa using h), show i + 1 + a = i + (a + 1) by omega]
theorem aug_lo {n x i : Nat} (hx : x < 2 ^ n) : (x + 2 ^ (n + i)) % 2 ^ n = x := by
  rw [Nat.pow_add, Nat.add_mul_mod_self_left, Nat.mod_eq_of_lt hx]
theorem aug_hi {n x i : Nat} (hx : x < 2 ^ n) : (x + 2 ^ (n + i)) / 2 ^ n = 2 ^ i := by
  rw [Nat.pow_add, Nat.add_mul_div_left _ _ (Nat.two_pow_pos n), Nat.div_eq_of_lt hx, Nat.zero_add]
theorem aug_lt {n x i : Nat} (hx : x < 2 ^ n) (hi : i < n) : x + 2 ^ (n + i) < 2 ^ (2 * n) := by
  have h1 : 2 ^ i + 2 ^ i ≤ 2 ^ n := by
    have := Nat.pow_le_pow_right (n := 2) (by omega) (show i + 1 ≤ n by omega)
    rw [Nat.pow_succ] at this; omega
  have h2 : 1 ≤ 2 ^ i := Nat.one_le_two_pow
  rw [Nat.pow_add, show 2 * n = n + n by omega, Nat.pow_add]
  have h3 : 2 ^ n * (1 + 2 ^ i) ≤ 2 ^ n * 2 ^ n := Nat.mul_le_mul_left _ (by omega)
  rw [Nat.mul_add, Nat.mul_one] at h3
  omega
theorem mem_at {L : List Nat} {x : Nat} (h : x ∈ L) : ∃ a, a < L.length ∧ L.getD a 0 = x := by
  obtain ⟨a, ha, rfl⟩ := List.getElem_of_mem h
  exact ⟨a, ha, getD_lt L a ha⟩
theorem at_mem {L : List Nat} {a : Nat} (h : a < L.length) : L.getD a 0 ∈ L := by rw [getD_lt L a h]; exact List.getElem_mem h
def H (L : List Nat) (n : Nat) : Prop := ∀ j < n, ∃ w, Sp L w ∧ w % 2 ^ n = 2 ^ j
theorem sp_map (g : Nat → Nat) (g0 : g 0 = 0) (gx : ∀ a b, g (a ^^^ b) = g a ^^^ g b) (L : List Nat) {w : Nat} (h : Sp L w) : Sp (L.map g) (g w) :=
  sp_min (V := fun w => Sp (L.map g) (g w)) (by show Sp _ (g 0); rw [g0]; exact sp_zero _) (fun a b h1 h2 => by show Sp _ (g (a ^^^ b)); rw [gx]; exact sp_xor _ h1 h2) L
    (fun x hx => sp_mem _ (List.mem_map.2 ⟨x, hx, rfl⟩)) h
theorem lo_xor (n a b : Nat) : (a ^^^ b) % 2 ^ n = a % 2 ^ n ^^^ b % 2 ^ n := Nat.xor_mod_two_pow
theorem hi_xor (n a b : Nat) : (a ^^^ b) / 2 ^ n = a / 2 ^ n ^^^ b / 2 ^ n := Nat.xor_div_two_pow
theorem aug_small {n : Nat} {L : List Nat} (hn : L.length = n) (hs : ∀ x ∈ L, x < 2 ^ n) : ∀ y ∈ aug n 0 L, y < 2 ^ (2 * n) := fun y hy => by
  obtain ⟨a, ha, rfl⟩ := mem_at hy
  rw [len_aug] at ha
  rw [aug_at n L 0 a ha]
  exact aug_lt (hs _ (at_mem ha)) (by omega)
theorem lo_to {n : Nat} {L : List Nat} (hn : L.length = n) (hs : ∀ x ∈ L, x < 2 ^ n) {w : Nat} (h : Sp (aug n 0 L) w) : Sp L (w % 2 ^ n) :=
  sp_min (V := fun w => Sp L (w % 2 ^ n)) (by show Sp _ (0 % 2 ^ n); rw [Nat.zero_mod]; exact sp_zero _) (fun a b h1 h2 => by show Sp _ ((a ^^^ b) % 2 ^ n); rw [lo_xor]; exact sp_xor _ h1 h2) _ (fun y hy => by
    obtain ⟨a, ha, rfl⟩ := mem_at hy
    rw [len_aug] at ha
    show Sp _ (_ % 2 ^ n)
    rw [aug_at n L 0 a ha, aug_lo (hs _ (at_mem ha))]
    exact sp_mem _ (at_mem ha)) h
theorem lo_of {n : Nat} {L : List Nat} (hn : L.length = n) (hs : ∀ x ∈ L, x < 2 ^ n) {w : Nat} (h : Sp L w) : ∃ u, Sp (aug n 0 L) u ∧ u % 2 ^ n = w :=
  sp_min (V := fun w => ∃ u, Sp (aug n 0 L) u ∧ u % 2 ^ n = w) ⟨0, sp_zero _, Nat.zero_mod _⟩ (fun a b ⟨u, h1, h2⟩ ⟨v, h3, h4⟩ => ⟨u ^^^ v, sp_xor _ h1 h3, by rw [lo_xor, h2, h4]⟩) L (fun x hx => by
    obtain ⟨a, ha, rfl⟩ := mem_at hx
    have := at_mem (L := aug n 0 L) (a := a) (by rw [len_aug]; exact ha)
    rw [aug_at n L 0 a ha] at this
    exact ⟨_, sp_mem _ this, aug_lo (hs _ (at_mem ha))⟩) h
theorem graph {n : Nat} {L : List Nat} (hn : L.length = n) (hs : ∀ x ∈ L, x < 2 ^ n) {w : Nat} (h : Sp (aug n 0 L) w) : w % 2 ^ n = cmb L 0 (w / 2 ^ n) :=
  sp_min (V := fun w => w % 2 ^ n = cmb L 0 (w / 2 ^ n)) (by show 0 % _ = cmb L 0 (0 / _); rw [Nat.zero_mod, Nat.zero_div, cmb_zero]) (fun a b h1 h2 => by show (a ^^^ b) % _ = cmb L 0 ((a ^^^ b) / _); rw [lo_xor, hi_xor, cmb_xor, h1, h2]) _ (fun y hy => by
    obtain ⟨a, ha, rfl⟩ := mem_at hy
    rw [len_aug] at ha
    show _ % _ = cmb L 0 (_ / _)
    rw [aug_at n L 0 a ha, aug_lo (hs _ (at_mem ha)), aug_hi (hs _ (at_mem ha)), Nat.zero_add, cmb_pow0]) h
theorem h_aug {n : Nat} {L : List Nat} (hn : L.length = n) (hs : ∀ x ∈ L, x < 2 ^ n) (h : H L n) : H (aug n 0 L) n := fun j hj => by
  obtain ⟨w, h1, h2⟩ := h j hj
  obtain ⟨u, h3, h4⟩ := lo_of hn hs h1
  exact ⟨u, h3, by rw [h4, ← h2, Nat.mod_eq_of_lt]; exact sp_small hs h1⟩
theorem full_at {n : Nat} {L : List Nat} (hn : L.length = n) (hs : ∀ x ∈ L, x < 2 ^ n) {c : Nat} {R : List Nat} {W : List Nat} (hR : Rs W c n R) (hF : Full n R) (i : Nat) (hi : i < n) : R.getD i 0 % 2 ^ n = 2 ^ i := by
  refine Nat.eq_of_testBit_eq fun j => ?_
  rw [Nat.testBit_mod_two_pow, Nat.testBit_two_pow]
  by_cases hj : j < n
  · rw [decide_eq_true hj, hF i hi j hj]; rfl
  · rw [decide_eq_false hj, decide_eq_false (by omega)]; rfl
/-- the rank is full just where the rows span all -/
theorem rank_full {n : Nat} {L : List Nat} (hn : L.length = n) (hs : ∀ x ∈ L, x < 2 ^ n) {R : List Nat} (hR : Rs L n n R) : R.length = n ↔ H L n := by
  constructor
  · intro h j hj
    have hF := hR.full h
    have := full_at hn hs hR hF j hj
    exact ⟨R.getD j 0, (hR.same _).1 (sp_mem _ (at_mem (by omega))), this⟩
  · intro h; exact (hR.all h hn.symm).1
/-- the rows that the reduction leaves give the inverse -/
theorem inv_facts {n : Nat} {L : List Nat} (hn : L.length = n) (hs : ∀ x ∈ L, x < 2 ^ n) {R : List Nat} (hR : Rs (aug n 0 L) (2 * n) n R) (h : H L n) :
    R.length = n ∧ (∀ i < n, R.getD i 0 % 2 ^ n = 2 ^ i) ∧ (∀ x ∈ R.map (fun w => w / 2 ^ n), x < 2 ^ n) ∧ (∀ i < n, cmb L 0 ((R.map (fun w => w / 2 ^ n)).getD i 0) = 2 ^ i) ∧ ∀ i < n, cmb (R.map (fun w => w / 2 ^ n)) 0 (L.getD i 0) = 2 ^ i := by
  obtain ⟨h1, h2⟩ := hR.all (h_aug hn hs h) (by rw [len_aug, hn])
  have h3 : ∀ i < n, R.getD i 0 % 2 ^ n = 2 ^ i := fun i hi => full_at hn hs hR h2 i hi
  have h0 : (fun w : Nat => w / 2 ^ n) 0 = 0 := Nat.zero_div _
  refine ⟨h1, h3, fun x hx => ?_, fun i hi => ?_, fun i hi => ?_⟩
  · obtain ⟨y, hy, rfl⟩ := List.mem_map.1 hx
    have := hR.so y hy
    rw [show 2 * n = n + n by omega, Nat.pow_add] at this
    exact Nat.div_lt_of_lt_mul this
  · rw [map_at _ h0, ← graph hn hs ((hR.same _).1 (sp_mem _ (at_mem (by omega))))]
    exact h3 i hi
  · have hg : ∀ {w : Nat}, Sp R w → w / 2 ^ n = cmb (R.map (fun w => w / 2 ^ n)) 0 (w % 2 ^ n) := fun {w} hw =>
      sp_min (V := fun w => w / 2 ^ n = cmb (R.map (fun w => w / 2 ^ n)) 0 (w % 2 ^ n)) (by show 0 / _ = cmb _ 0 (0 % _); rw [Nat.zero_mod, Nat.zero_div, cmb_zero]) (fun a b e1 e2 => by show (a ^^^ b) / _ = cmb _ 0 ((a ^^^ b) % _); rw [lo_xor, hi_xor, cmb_xor, e1, e2]) R (fun y hy => by
        obtain ⟨a, ha, rfl⟩ := mem_at hy
        show _ / _ = cmb _ 0 (_ % _)
        rw [h3 a (by omega), cmb_pow0, map_at _ h0]) hw
    have hm := at_mem (L := aug n 0 L) (a := i) (by rw [len_aug]; omega)
    have := hg ((hR.same _).2 (sp_mem _ hm))
    rw [aug_at n L 0 i (by omega), aug_hi (hs _ (at_mem (by omega))), aug_lo (hs _ (at_mem (by omega))), Nat.zero_add] at this
    exact this.symm
theorem not_inv {n : Nat} {L : List Nat} (hn : L.length = n) (hs : ∀ x ∈ L, x < 2 ^ n) {R : List Nat} (hR : Rs (aug n 0 L) (2 * n) n R) (h : ¬ H L n) : ∃ i, i < R.length ∧ R.getD i 0 % 2 ^ n ≠ 2 ^ i := by
  refine Classical.byContradiction fun hc => h ?_
  have ha : ∀ i, i < R.length → R.getD i 0 % 2 ^ n = 2 ^ i := fun i hi => Classical.byContradiction fun e => hc ⟨i, hi, e⟩
  have h0 : (fun w : Nat => w / 2 ^ n) 0 = 0 := Nat.zero_div _
  have hd := dims n (R.map (fun w => w / 2 ^ n)) fun j hj => by
    have hm := at_mem (L := aug n 0 L) (a := j) (by rw [len_aug]; omega)
    have := sp_map (fun w => w / 2 ^ n) h0 (hi_xor n) R ((hR.same _).2 (sp_mem _ hm))
    rwa [aug_at n L 0 j (by omega), aug_hi (hs _ (at_mem (by omega))), Nat.zero_add] at this
  rw [List.length_map] at hd
  intro j hj
  have := lo_to hn hs ((hR.same _).1 (sp_mem _ (at_mem (show j < R.length by omega))))
  rw [ha j (by omega)] at this
  exact ⟨2 ^ j, this, Nat.mod_eq_of_lt (Nat.pow_lt_pow_right (by omega) hj)⟩
theorem pows_of {n : Nat} {A : List Nat} {f : Nat → Nat} (f0 : f 0 = 0) (hA : A.length = n) (h : ∀ i < n, f (A.getD i 0) = 2 ^ i) : A.map f = pows 0 n :=
  list_eq (by rw [List.length_map, len_pows, hA]) fun a ha => by
    rw [List.length_map, hA] at ha
    rw [map_at f f0, pows_at n 0 a ha, h a ha, Nat.zero_add]
/-- an inverse's inverse is the matrix -/
theorem inv_back {n : Nat} {A B C : List Nat} (hA : A.length = n) (hB : B.length = n) (hC : C.length = n) (sA : ∀ x ∈ A, x < 2 ^ n) (sC : ∀ x ∈ C, x < 2 ^ n)
    (h1 : ∀ i < n, cmb B 0 (A.getD i 0) = 2 ^ i) (h2 : ∀ i < n, cmb B 0 (C.getD i 0) = 2 ^ i) (h3 : ∀ i < n, cmb C 0 (B.getD i 0) = 2 ^ i) : C = A := by
  have hid : ∀ h, h < 2 ^ n → cmb C 0 (cmb B 0 h) = h := fun h hh => by
    rw [cmb_map (cmb C 0) (cmb_zero C 0) (cmb_xor C 0), pows_of (cmb_zero C 0) hB h3, cmb_pows n h hh]
  refine list_eq (by omega) fun a ha => ?_
  rw [← hid _ (sC _ (at_mem ha)), ← hid _ (sA _ (at_mem (show a < A.length by omega))), h1 a (by omega), h2 a (by omega)]
theorem next_tells (l : List Int) (hb : ∀ x ∈ l, (Lit.int .u8 x).wf = true) (a u : Int) (h0 : 0 ≤ a) (h1 : a ≤ 1000) : ∃ v u' : Int, spec_l00Src_next.f l a u = some (v, a + 1, u') ∧ 0 ≤ v ∧ v ≤ 255 := by
  have and255 : ∀ Y : Int, 0 ≤ Y → Y < 18446744073709551616 → 0 ≤ wrap64 (Go.bits .and .u64 (Y / 1099511627776) 255) ∧ wrap64 (Go.bits .and .u64 (Y / 1099511627776) 255) ≤ 255 := by
    intro Y hY hY2
    obtain ⟨y, hy⟩ : ∃ y : Nat, (y : Int) = Y / 1099511627776 := ⟨(Y / 1099511627776).toNat, by omega⟩
    have hu : ∀ n : Int, 0 ≤ n → n < 2 ^ 24 → IntKind.u64.wrap n = n := fun n e0 e1 => by simp only [IntKind.wrap, IntKind.bits, IntKind.signed]; simp; omega
    have := (bits_nat .u64 24 (by decide) hu y 255 (by omega) (by decide)).1
    rw [← hy, show (255 : Int) = ((255 : Nat) : Int) from rfl, this]
    have hle : y &&& 255 ≤ 255 := Nat.and_le_right
    rw [w64 (by omega) (by omega)]
    omega
  have ub : ∀ n : Int, 0 ≤ IntKind.u64.wrap n ∧ IntKind.u64.wrap n < 18446744073709551616 := fun n => by simp only [IntKind.wrap, IntKind.bits, IntKind.signed]; simp; omega
  unfold spec_l00Src_next.f
  rw [w64 (x := a + 1) (by omega) (by omega)]
  by_cases h : a < (l.length : Int)
  · rw [if_pos h, if_pos h0, if_pos (by omega)]
    refine ⟨_, _, rfl, ?_⟩
    have hm : rd l a ∈ l := by
      have hl : a.toNat < l.length := by omega
      unfold rd
      rw [List.getD_eq_getElem?_getD, List.getElem?_eq_getElem hl]; exact List.getElem_mem hl
    have hw := hb _ hm
    simp [Lit.wf, IntKind.min, IntKind.max, IntKind.signed, IntKind.bits] at hw
    rw [w64 (by omega) (by omega)]
    omega
  · rw [if_neg h, if_neg (by omega)]
    exact ⟨_, _, rfl, and255 _ (ub _).1 (ub _).2⟩
theorem pick_tells (l : List Int) (hb : ∀ x ∈ l, (Lit.int .u8 x).wf = true) (a u n : Int) (h0 : 0 ≤ a) (h1 : a ≤ 1000) (hn : 1 ≤ n) (hn2 : n ≤ 200) : ∃ v a' u' : Int, spec_l00Src_pick.f l a u n = some (v, a', u') ∧ 0 ≤ v ∧ v < n ∧ 0 ≤ a' ∧ a' ≤ a + 1 := by
  unfold spec_l00Src_pick.f
  by_cases h : n ≤ 1
  · rw [if_pos h]
    exact ⟨0, a, u, rfl, by omega, by omega, h0, by omega⟩
  · obtain ⟨v, u', e, v0, v1⟩ := next_tells l hb a u h0 h1
    rw [if_neg h, e]
    simp only [Option.bind_some]
    rw [if_neg (by omega), if_neg (by omega)]
    refine ⟨_, _, _, rfl, ?_⟩
    rw [Int.tmod_eq_emod_of_nonneg v0]
    have := Int.emod_nonneg v (show n ≠ 0 by omega)
    have := Int.emod_lt_of_pos v (show 0 < n by omega)
    omega
theorem one_tells (l : List Int) (hb : ∀ x ∈ l, (Lit.int .u8 x).wf = true) (a u : Int) (h0 : 0 ≤ a) (h1 : a ≤ 1000) : ∃ (q : Bool) (a' u' : Int), spec_l00Src_one.f l a u 12 = some (q, a', u') ∧ 0 ≤ a' ∧ a' ≤ a + 1 := by
  obtain ⟨v, a', u', e, _, _, h2, h3⟩ := pick_tells l hb a u 12 h0 h1 (by omega) (by omega)
  unfold spec_l00Src_one.f
  rw [e]
  exact ⟨_, _, _, rfl, h2, h3⟩
theorem shl_T {k : Nat} (hk : k ≤ 20) : shl .i64 1 (k : Int) = ((2 ^ k : Nat) : Int) := by
  have h : ∀ i : Fin 21, shl .i64 1 (i.val : Int) = ((2 ^ i.val : Nat) : Int) := by decide +kernel
  exact h ⟨k, by omega⟩
theorem or_T {a b : Nat} (ha : a < 1024) (hb : b < 1024) : Go.bits .or .i64 (a : Int) (b : Int) = ((a ||| b : Nat) : Int) := (bits_nat .i64 10 (by decide) i64_small a b ha hb).2
theorem and_T {a b : Nat} (ha : a < 1024) (hb : b < 1024) : Go.bits .and .i64 (a : Int) (b : Int) = ((a &&& b : Nat) : Int) := (bits_nat .i64 10 (by decide) i64_small a b ha hb).1
theorem p1024 {n : Nat} (h : n ≤ 10) : 2 ^ n ≤ 1024 := Nat.pow_le_pow_right (n := 2) (by omega) h
theorem square_l (l : List Int) (hb : ∀ x ∈ l, (Lit.int .u8 x).wf = true) (n : Nat) (hn : n ≤ 5) : ∀ (d : Nat) (M : List Nat) (a u : Int), M.length + d = n → (∀ x ∈ M, x < 2 ^ n) → 0 ≤ a → a ≤ 1 + 3 * (M.length : Int) →
    ∃ (L : List Nat) (s t : Int), L.length = n ∧ (∀ x ∈ L, x < 2 ^ n) ∧ ∀ K, spec_l02Square.l0 (K + d + 1) (n : Int) (M.length : Int) l a u (n : Int) (T M) = some ((n : Int), T L, s, t) := by
  have hp : 2 ^ n ≤ 32 := Nat.pow_le_pow_right (n := 2) (j := 5) (by omega) hn
  have hp1 : 1 ≤ 2 ^ n := Nat.one_le_two_pow
  intro d
  induction d with
  | zero =>
    intro M a u hd hM _ _
    refine ⟨M, a, u, by omega, hM, fun K => ?_⟩
    rw [spec_l02Square.l0, if_neg (by omega)]
  | succ d ih =>
    intro M a u hd hM h0 h1
    obtain ⟨v, a1, u1, e1, v0, v1, q0, q1⟩ := pick_tells l hb a u ((2 ^ n : Nat) : Int) h0 (by omega) (by omega) (by omega)
    obtain ⟨o, a2, u2, e2, r0, r1⟩ := one_tells l hb a1 u1 q0 (by omega)
    obtain ⟨v3, a3, u3, e3, w0, w1, s0, s1⟩ := pick_tells l hb a2 u2 ((2 ^ n : Nat) : Int) r0 (by omega) (by omega) (by omega)
    have hmem : ∀ y : Nat, y < 2 ^ n → ∀ x ∈ M ++ [y], x < 2 ^ n := fun y hy x hx => by
      rcases List.mem_append.1 hx with hx | hx
      · exact hM x hx
      · rw [List.mem_singleton.1 hx]; exact hy
    have hT : ∀ y : Nat, T M ++ [(y : Int)] = T (M ++ [y]) := fun y => by rw [T_append]; rfl
    have step : ∀ (y : Nat) (a' u' : Int), y < 2 ^ n → 0 ≤ a' → a' ≤ a + 3 → ∃ (L : List Nat) (s t : Int), L.length = n ∧ (∀ x ∈ L, x < 2 ^ n) ∧ ∀ K, spec_l02Square.l0 (K + d + 1) (n : Int) ((M.length : Int) + 1) l a' u' (n : Int) (T M ++ [(y : Int)]) = some ((n : Int), T L, s, t) := fun y a' u' hy p0 p1 => by
      obtain ⟨L, s, t, b1, b2, b3⟩ := ih (M ++ [y]) a' u' (by simp; omega) (hmem y hy) p0 (by simp; omega)
      refine ⟨L, s, t, b1, b2, fun K => ?_⟩
      have := b3 K
      rw [List.length_append, List.length_singleton] at this
      rw [hT, show (M.length : Int) + 1 = ((M.length + 1 : Nat) : Int) by omega]
      exact this
    have uM : IntKind.u64.wrap (M.length : Int) = (M.length : Int) := uw (by omega) (by omega)
    have uN : IntKind.u64.wrap (n : Int) = (n : Int) := uw (by omega) (by omega)
    cases o with
    | true =>
      obtain ⟨y, hy⟩ : ∃ y : Nat, (y : Int) = v3 := ⟨v3.toNat, by omega⟩
      obtain ⟨L, s, t, b1, b2, b3⟩ := step y a3 u3 (by omega) s0 (by omega)
      refine ⟨L, s, t, b1, b2, fun K => ?_⟩
      rw [show K + (d + 1) + 1 = (K + d + 1) + 1 by omega, spec_l02Square.l0, if_pos (by omega), uM, uN, if_pos (by omega), if_pos (by omega), shl_T (by omega), e1]
      simp only [Option.bind_some]
      rw [e2]
      simp only [Option.bind_some, if_true]
      rw [e3]
      simp only [Option.bind_some]
      rw [if_pos (by rw [len_T]; omega), w64 (x := (M.length : Int) + 1) (by omega) (by omega), ← hy]
      exact b3 K
    | false =>
      obtain ⟨y, hy⟩ : ∃ y : Nat, (y : Int) = v := ⟨v.toNat, by omega⟩
      have hpm : 2 ^ M.length < 2 ^ n := Nat.pow_lt_pow_right (by omega) (by omega)
      obtain ⟨L, s, t, b1, b2, b3⟩ := step (2 ^ M.length ||| y) a2 u2 (Nat.or_lt_two_pow hpm (by omega)) r0 (by omega)
      refine ⟨L, s, t, b1, b2, fun K => ?_⟩
      rw [show K + (d + 1) + 1 = (K + d + 1) + 1 by omega, spec_l02Square.l0, if_pos (by omega), uM, uN, if_pos (by omega), if_pos (by omega), shl_T (by omega), e1]
      simp only [Option.bind_some]
      rw [e2]
      simp only [Option.bind_some]
      rw [if_neg (by decide), if_pos (by rw [len_T]; omega), w64 (x := (M.length : Int) + 1) (by omega) (by omega), shl_T (by omega), ← hy, or_T (by omega) (by omega)]
      exact b3 K
theorem square_tells (l : List Int) (hb : ∀ x ∈ l, (Lit.int .u8 x).wf = true) : ∃ (n : Nat) (L : List Nat), 1 ≤ n ∧ n ≤ 5 ∧ L.length = n ∧ (∀ x ∈ L, x < 2 ^ n) ∧ ∀ K, 10 ≤ K → spec_A2Square.f K l = some ((n : Int), T L) := by
  obtain ⟨v, a, u, e, v0, v1, a0, a1⟩ := pick_tells l hb 0 0 5 (by omega) (by omega) (by omega) (by omega)
  obtain ⟨n, hn⟩ : ∃ n : Nat, (n : Int) = 1 + v := ⟨(1 + v).toNat, by omega⟩
  obtain ⟨L, s, t, h1, h2, h3⟩ := square_l l hb n (by omega) n [] a u (by simp) (by simp) a0 (by simpa using a1)
  refine ⟨n, L, by omega, by omega, h1, h2, fun K hK => ?_⟩
  obtain ⟨K', rfl⟩ : ∃ j, K = j + n + 1 := ⟨K - n - 1, by omega⟩
  unfold spec_A2Square.f spec_l00From.f spec_l02Square.f
  simp only [Option.bind_some]
  rw [e]
  simp only [Option.bind_some]
  rw [w64 (x := 1 + v) (by omega) (by omega), ← hn]
  have := h3 K'
  simp only [List.length_nil] at this
  rw [show ((0 : Nat) : Int) = 0 from rfl, show T [] = [] from rfl] at this
  rw [this]; rfl
theorem okM_T {n : Nat} {L : List Nat} (h1 : 1 ≤ n) (h5 : n ≤ 5) (hl : L.length = n) (hs : ∀ x ∈ L, x < 2 ^ n) : okM (n : Int) (T L) = true := by
  simp only [okM, Bool.and_eq_true, decide_eq_true_eq, List.all_eq_true]
  refine ⟨⟨⟨by omega, by omega⟩, by rw [len_T]; omega⟩, fun x hx => ?_⟩
  obtain ⟨y, hy, rfl⟩ := List.mem_map.1 hx
  refine inM_iff.2 ⟨by omega, ?_⟩
  unfold S
  rw [Int.toNat_natCast]
  have := hs y hy
  exact_mod_cast this
theorem codes_one {r : Bool} {n : Nat} {L : List Nat} (h : okM (n : Int) (T L) = true) : codesO (some r) [(⟨(n : Int), T L⟩ : S33)] = some (if r = true then 0 else 2) := by
  unfold codesO
  have e3 := anyO_some (fun x : S33 => impl_matricesCode_1.f x.f0 x.f1) (fun x => !okM x.f0 x.f1) [(⟨(n : Int), T L⟩ : S33)] (fun x _ => by unfold impl_matricesCode_1.f; rw [validM_tells]; rfl)
  rw [e3]
  simp [h]
theorem codes_two {r : Bool} {n : Nat} {L M : List Nat} (h : okM (n : Int) (T L) = true) (h2 : okM (n : Int) (T M) = true) : codesO (some r) [(⟨(n : Int), T L⟩ : S33), (⟨(n : Int), T M⟩ : S33)] = some (if r = true then 0 else 2) := by
  unfold codesO
  have e3 := anyO_some (fun x : S33 => impl_matricesCode_1.f x.f0 x.f1) (fun x => !okM x.f0 x.f1) [(⟨(n : Int), T L⟩ : S33), (⟨(n : Int), T M⟩ : S33)] (fun x _ => by unfold impl_matricesCode_1.f; rw [validM_tells]; rfl)
  rw [e3]
  simp [h, h2]
theorem sum_l (L : List Nat) (hL : L.length ≤ 10) (hs : ∀ x ∈ L, x < 1024) (x : Nat) (hx : x < 1024) : ∀ (M : List Nat) (i acc : Nat), i + M.length = L.length → L.drop i = M → acc < 1024 → ∀ K,
    impl_sumOf.l0 (K + M.length + 1) (x : Int) (acc : Int) (T L) (L.length : Int) (i : Int) = some ((acc ^^^ cmb M i x : Nat) : Int) := by
  intro M
  induction M with
  | nil =>
    intro i acc hd _ ha K
    simp only [List.length_nil] at hd
    rw [impl_sumOf.l0, if_neg (by omega), cmb, Nat.xor_zero]
  | cons y M ih =>
    intro i acc hd hD ha K
    rw [List.length_cons] at hd
    have hy : L.getD i 0 = y := by
      have h1 := List.drop_eq_getElem_cons (l := L) (i := i) (by omega)
      rw [hD] at h1
      rw [getD_lt L i (by omega)]
      exact (List.cons.inj h1).1.symm
    have hD' : L.drop (i + 1) = M := by
      have h1 := List.drop_eq_getElem_cons (l := L) (i := i) (by omega)
      rw [hD] at h1
      exact (List.cons.inj h1).2.symm
    have hys : y < 1024 := by rw [← hy]; exact getD_small hs i
    rw [List.length_cons, show K + (M.length + 1) + 1 = (K + M.length + 1) + 1 by omega, impl_sumOf.l0, if_pos (by omega), if_pos (by omega), len_T, if_pos (by omega), bit_T hx (by omega), rd_T, hy, w64 (x := (i : Int) + 1) (by omega) (by omega), show (i : Int) + 1 = ((i + 1 : Nat) : Int) by omega]
    by_cases hb : x.testBit i = true
    · rw [if_pos hb, if_pos rfl, xor_T ha hys, ih (i + 1) _ (by omega) hD' (Nat.xor_lt_two_pow (n := 10) ha hys), cmb, if_pos hb, Nat.xor_assoc]
    · rw [if_neg hb, if_neg (by decide), ih (i + 1) _ (by omega) hD' ha, cmb, if_neg hb, Nat.zero_xor]
theorem sum_tells {L : List Nat} (hL : L.length ≤ 10) (hs : ∀ x ∈ L, x < 1024) {x : Nat} (hx : x < 1024) {K : Nat} (hK : 12 ≤ K) : impl_sumOf.f K (T L) (x : Int) = some ((cmb L 0 x : Nat) : Int) := by
  obtain ⟨K', rfl⟩ : ∃ j, K = j + L.length + 1 := ⟨K - L.length - 1, by omega⟩
  unfold impl_sumOf.f
  rw [len_T]
  have := sum_l L hL hs x hx L 0 0 (by omega) (by simp) (by decide) K'
  rw [Nat.zero_xor] at this
  exact this
theorem mul_l {n : Nat} (A B : List Nat) (hA : A.length ≤ 10) (hB : B.length ≤ 10) (sA : ∀ x ∈ A, x < 1024) (sB : ∀ x ∈ B, x < 1024) : ∀ (d : Nat) (M : List Nat), M.length + d = A.length → ∀ K,
    impl_Matrix_mul.l0 (K + d + 20) (T A) (A.length : Int) (M.length : Int) (n : Int) (T B) (n : Int) (T M) = some ((n : Int), T (M ++ (A.drop M.length).map (cmb B 0))) := by
  intro d
  induction d with
  | zero =>
    intro M hd K
    rw [show K + 0 + 20 = (K + 19) + 1 from rfl, impl_Matrix_mul.l0, if_neg (by omega), List.drop_eq_nil_of_le (by omega)]; simp
  | succ d ih =>
    intro M hd K
    have hx := getD_small sA M.length
    rw [show K + (d + 1) + 20 = (K + d + 20) + 1 by omega, impl_Matrix_mul.l0, if_pos (by omega), if_pos (by omega), len_T, if_pos (by omega), rd_T, sum_tells hB sB hx (by omega)]
    simp only [Option.bind_some]
    rw [if_pos (by rw [len_T]; omega), w64 (x := (M.length : Int) + 1) (by omega) (by omega)]
    have := ih (M ++ [cmb B 0 (A.getD M.length 0)]) (by simp; omega) K
    rw [List.length_append, List.length_singleton, T_append] at this
    rw [show (M.length : Int) + 1 = ((M.length + 1 : Nat) : Int) by omega]
    rw [show [((cmb B 0 (A.getD M.length 0) : Nat) : Int)] = T [cmb B 0 (A.getD M.length 0)] from rfl, this, List.drop_eq_getElem_cons (l := A) (i := M.length) (by omega), List.map_cons, ← getD_lt A M.length (by omega), List.append_assoc]; rfl
theorem mul_tells {n : Nat} {A B : List Nat} (h1 : 1 ≤ n) (h5 : n ≤ 5) (hA : A.length = n) (hB : B.length = n) (sA : ∀ x ∈ A, x < 2 ^ n) (sB : ∀ x ∈ B, x < 2 ^ n) {K : Nat} (hK : 40 ≤ K) :
    impl_MulMatrices.f K (n : Int) (T A) (n : Int) (T B) = some ((n : Int), T (A.map (cmb B 0)), 0) := by
  have hp := p1024 (show n ≤ 10 by omega)
  unfold impl_MulMatrices.f impl_MulMatrices_1.f impl_size_int64.f impl_Matrix_mul.f
  simp only [Option.bind_some]
  rw [codes_two (okM_T h1 h5 hA sA) (okM_T h1 h5 hB sB), len_T, hB]
  simp only [Option.bind_some, beq_self_eq_true, if_true]
  obtain ⟨K', rfl⟩ : ∃ j, K = j + A.length + 20 := ⟨K - A.length - 20, by omega⟩
  have := mul_l (n := n) A B (by omega) (by omega) (fun x hx => by have := sA x hx; omega) (fun x hx => by have := sB x hx; omega) A.length [] (by simp) K'
  rw [show T [] = [] from rfl] at this
  rw [len_T]
  simp only [List.length_nil, List.drop_zero, List.nil_append] at this
  rw [show ((0 : Nat) : Int) = 0 from rfl] at this
  rw [this]; rfl
theorem same_l (l : List Int) (hl : l.length ≤ 10) : ∀ (d : Nat) (i : Int), 0 ≤ i → i + d = (l.length : Int) → ∀ K, spec_l00Same.l0 (K + d + 1) l l i = some true := by
  intro d
  induction d with
  | zero =>
    intro i h0 hd K
    rw [spec_l00Same.l0, if_neg (by omega)]
  | succ d ih =>
    intro i h0 hd K
    rw [show K + (d + 1) + 1 = (K + d + 1) + 1 by omega, spec_l00Same.l0, if_pos (by omega), if_pos h0, if_pos (by omega), if_pos rfl, w64 (x := i + 1) (by omega) (by omega)]
    exact ih (i + 1) (by omega) (by omega) K
theorem same_tells (c : Int) (l : List Int) (hl : l.length ≤ 10) {K : Nat} (hK : 12 ≤ K) : spec_SameMatrix.f K c l c l = some true := by
  obtain ⟨K', rfl⟩ : ∃ j, K = j + l.length + 1 := ⟨K - l.length - 1, by omega⟩
  unfold spec_SameMatrix.f spec_l00Same.f
  rw [if_pos rfl, if_pos rfl, same_l l hl l.length 0 (by omega) (by omega)]; rfl
theorem or_add {n i x : Nat} (hx : x < 2 ^ n) : x ||| 2 ^ (n + i) = x + 2 ^ (n + i) := by
  rw [Nat.or_comm, Nat.pow_add]
  have := Nat.two_pow_add_eq_or_of_lt hx (2 ^ i)
  rw [← this, Nat.add_comm]
theorem inv_l0 {n : Nat} (L : List Nat) (h5 : n ≤ 5) (hL : L.length = n) (hs : ∀ x ∈ L, x < 2 ^ n) : ∀ (d : Nat) (M : List Nat), M.length + d = n → ∀ K,
    impl_InverseMatrix.l0 (K + d + 1) (T M) (T L) (n : Int) (M.length : Int) (n : Int) = (impl_echelon.f K (T (M ++ aug n M.length (L.drop M.length)))).bind fun t => impl_InverseMatrix.l1 K t (t.length : Int) 0 (n : Int) (n : Int) [] := by
  have hp := p1024 (show n ≤ 10 by omega)
  intro d
  induction d with
  | zero =>
    intro M hd K
    rw [show K + 0 + 1 = K + 1 from rfl, impl_InverseMatrix.l0, if_neg (by omega), List.drop_eq_nil_of_le (by omega), aug, List.append_nil]
  | succ d ih =>
    intro M hd K
    have hx : L.getD M.length 0 < 2 ^ n := hs _ (at_mem (by omega))
    have hp2 : 2 ^ (n + M.length) < 1024 := Nat.pow_lt_pow_right (a := 2) (n := 10) (by omega) (by omega)
    rw [show K + (d + 1) + 1 = (K + d + 1) + 1 by omega, impl_InverseMatrix.l0, if_pos (by omega), if_pos (by omega), len_T, if_pos (by omega), w64 (x := (n : Int) + (M.length : Int)) (by omega) (by omega), if_pos (by omega), if_pos (by rw [len_T]; omega), w64 (x := (M.length : Int) + 1) (by omega) (by omega), rd_T, show (n : Int) + (M.length : Int) = ((n + M.length : Nat) : Int) by omega, shl_T (by omega), or_T (by omega) hp2, or_add hx]
    have := ih (M ++ [L.getD M.length 0 + 2 ^ (n + M.length)]) (by simp; omega) K
    rw [List.length_append, List.length_singleton, T_append] at this
    rw [show (M.length : Int) + 1 = ((M.length + 1 : Nat) : Int) by omega]
    rw [show [((L.getD M.length 0 + 2 ^ (n + M.length) : Nat) : Int)] = T [L.getD M.length 0 + 2 ^ (n + M.length)] from rfl, this, List.drop_eq_getElem_cons (l := L) (i := M.length) (by omega), aug, ← getD_lt L M.length (by omega), List.append_assoc]; rfl
theorem inv_l1 {n : Nat} (R : List Nat) (h1 : 1 ≤ n) (h5 : n ≤ 5) (hR : R.length ≤ n) (hs : ∀ x ∈ R, x < 2 ^ (2 * n)) : ∀ (d : Nat) (M : List Nat), M.length + d = R.length → (∀ i < M.length, R.getD i 0 % 2 ^ n = 2 ^ i) → M = (R.map (fun w => w / 2 ^ n)).take M.length → ∀ K,
    impl_InverseMatrix.l1 (K + d + 1) (T R) (R.length : Int) (M.length : Int) (n : Int) (n : Int) (T M) = if ∀ i < R.length, R.getD i 0 % 2 ^ n = 2 ^ i then some ((n : Int), T (R.map (fun w => w / 2 ^ n)), 0) else some (0, [], 4) := by
  have hp := p1024 (show n ≤ 10 by omega)
  have hp1 : 1 ≤ 2 ^ n := Nat.one_le_two_pow
  have h2p := p1024 (show 2 * n ≤ 10 by omega)
  intro d
  induction d with
  | zero =>
    intro M hd hok hM K
    rw [show K + 0 + 1 = K + 1 from rfl, impl_InverseMatrix.l1, if_neg (by omega), if_pos (fun i hi => hok i (by omega)), hM, List.take_of_length_le (by simp; omega)]
  | succ d ih =>
    intro M hd hok hM K
    have hx : R.getD M.length 0 < 2 ^ (2 * n) := hs _ (at_mem (by omega))
    have hand : Go.bits .and .i64 (rd (T R) (M.length : Int)) (wrap64 (shl .i64 1 (n : Int) - 1)) = ((R.getD M.length 0 % 2 ^ n : Nat) : Int) := by
      rw [rd_T, shl_T (by omega), w64 (by omega) (by omega), show ((2 ^ n : Nat) : Int) - 1 = ((2 ^ n - 1 : Nat) : Int) by omega, and_T (by omega) (by omega), Nat.and_two_pow_sub_one_eq_mod]
    have hshr : shr .i64 (rd (T R) (M.length : Int)) (n : Int) = ((R.getD M.length 0 / 2 ^ n : Nat) : Int) := by
      rw [rd_T]
      unfold shr
      rw [Int.toNat_natCast, show min n IntKind.i64.bits = n by simp [IntKind.bits]; omega]
      simp
    rw [show K + (d + 1) + 1 = (K + d + 1) + 1 by omega, impl_InverseMatrix.l1, if_pos (by omega), if_pos (by omega), len_T, if_pos (by omega), if_pos (by omega), hand, hshr, shl_T (by omega), w64 (x := (M.length : Int) + 1) (by omega) (by omega)]
    by_cases hb : R.getD M.length 0 % 2 ^ n = 2 ^ M.length
    · rw [if_pos (by exact_mod_cast hb), if_pos (by rw [len_T]; omega)]
      have := ih (M ++ [R.getD M.length 0 / 2 ^ n]) (by simp; omega) (fun i hi => by
        rw [List.length_append, List.length_singleton] at hi
        by_cases e : i = M.length
        · rw [e]; exact hb
        · exact hok i (by omega)) (by
        have ht : M.length < (R.map (fun w => w / 2 ^ n)).length := by simp; omega
        rw [List.length_append, List.length_singleton, List.take_succ_eq_append_getElem ht, ← hM, List.getElem_map, ← getD_lt R M.length (by omega)]) K
      rw [List.length_append, List.length_singleton, T_append] at this
      rw [show (M.length : Int) + 1 = ((M.length + 1 : Nat) : Int) by omega]
      exact this
    · rw [if_neg (fun e => hb (by exact_mod_cast e)), if_neg (fun h => hb (h M.length (by omega)))]
theorem inv_tells {n : Nat} {L : List Nat} (h1 : 1 ≤ n) (h5 : n ≤ 5) (hn : L.length = n) (hs : ∀ x ∈ L, x < 2 ^ n) : ∃ (B : List Nat) (N : Nat),
    (H L n → B.length = n ∧ (∀ x ∈ B, x < 2 ^ n) ∧ (∀ i < n, cmb L 0 (B.getD i 0) = 2 ^ i) ∧ (∀ i < n, cmb B 0 (L.getD i 0) = 2 ^ i) ∧ ∀ K, N ≤ K → impl_InverseMatrix.f K (n : Int) (T L) = some ((n : Int), T B, 0)) ∧
    (¬ H L n → ∀ K, N ≤ K → impl_InverseMatrix.f K (n : Int) (T L) = some (0, [], 4)) := by
  obtain ⟨R, N, hR, hN⟩ := ech_tells (W := aug n 0 L) (c := 2 * n) (n := n) (by omega) (by omega) (by rw [len_aug]; omega) (aug_small hn hs)
  have hRl : R.length ≤ n := by have := hR.len; rw [len_aug] at this; omega
  have run : ∀ K, N + 20 ≤ K → impl_InverseMatrix.f K (n : Int) (T L) = if ∀ i < R.length, R.getD i 0 % 2 ^ n = 2 ^ i then some ((n : Int), T (R.map (fun w => w / 2 ^ n)), 0) else some (0, [], 4) := fun K hK => by
    unfold impl_InverseMatrix.f impl_size_int64.f impl_InverseMatrix_1.f
    simp only [Option.bind_some]
    rw [codes_one (okM_T h1 h5 hn hs), len_T, hn]
    simp only [Option.bind_some, beq_self_eq_true, if_true]
    obtain ⟨K', rfl⟩ : ∃ j, K = (j + R.length + 1) + n + 1 := ⟨K - n - 1 - R.length - 1, by omega⟩
    have e0 := inv_l0 L h5 hn hs n [] (by simp) (K' + R.length + 1)
    simp only [List.length_nil, List.drop_zero, List.nil_append] at e0
    rw [show T [] = [] from rfl, show ((0 : Nat) : Int) = 0 from rfl] at e0
    rw [e0, hN _ (by omega)]
    simp only [Option.bind_some]
    rw [len_T]
    exact inv_l1 R h1 h5 hRl hR.so R.length [] (by simp) (fun i hi => by simp at hi) (by simp) K'
  refine ⟨R.map (fun w => w / 2 ^ n), N + 20, fun h => ?_, fun h K hK => ?_⟩
  · obtain ⟨f1, f2, f3, f4, f5⟩ := inv_facts hn hs hR h
    refine ⟨by rw [List.length_map, f1], f3, f4, f5, fun K hK => ?_⟩
    rw [run K hK, if_pos (fun i hi => f2 i (by omega))]
  · obtain ⟨i, hi, hb⟩ := not_inv hn hs hR h
    rw [run K hK, if_neg (fun e => hb (e i hi))]
theorem rank_tells {n : Nat} {L : List Nat} (h1 : 1 ≤ n) (h5 : n ≤ 5) (hn : L.length = n) (hs : ∀ x ∈ L, x < 2 ^ n) : ∃ (r N : Nat), (r = n ↔ H L n) ∧ ∀ K, N ≤ K → impl_RankOf.f K (n : Int) (T L) = some ((r : Int), 0) := by
  obtain ⟨R, N, hR, hN⟩ := ech_tells (W := L) (c := n) (n := n) (by omega) (by omega) (by omega) hs
  refine ⟨R.length, N, rank_full hn hs hR, fun K hK => ?_⟩
  unfold impl_RankOf.f impl_size_int64.f
  rw [validM_tells, okM_T h1 h5 hn hs]
  simp only [Option.bind_some, if_true]
  rw [hN K hK]
  simp only [Option.bind_some]
  rw [len_T]
theorem ones_l {n : Nat} (h5 : n ≤ 5) (A B : List Nat) (c : Int) (z : Option Bool) (N : Nat) (hz : ∀ K, N ≤ K → ((impl_InverseMatrix.f K (n : Int) (T B)).bind fun bt263 => (if bt263.2.2 = 0 then ((spec_SameMatrix.f K bt263.1 bt263.2.1 (n : Int) (T A)).bind fun t269 => (some t269)) else (some false))) = z) :
    ∀ (d i : Nat), i + d = n → ∀ K, N ≤ K → laws_FnInverses.l0 (K + d + 1) (i : Int) (n : Int) (T A) (n : Int) (T B) c (T (pows 0 n)) = z := by
  intro d
  induction d with
  | zero =>
    intro i hi K hK
    rw [show K + 0 + 1 = K + 1 from rfl, laws_FnInverses.l0, len_T, len_pows, if_neg (by omega)]
    exact hz K hK
  | succ d ih =>
    intro i hi K hK
    rw [show K + (d + 1) + 1 = (K + d + 1) + 1 by omega, laws_FnInverses.l0, len_T, len_pows, if_pos (by omega), if_pos (by omega), uw (by omega) (by omega), if_pos (by omega), rd_T, pows_at n 0 i (by omega), Nat.zero_add, shl_T (by omega), if_pos rfl, w64 (x := (i : Int) + 1) (by omega) (by omega), show (i : Int) + 1 = ((i + 1 : Nat) : Int) by omega]
    exact ih (i + 1) (by omega) K hK
theorem main : laws_FnInverses.Pure := by
  intro l0 l1 hl _ hb _ _ _
  rw [maxLen_eq] at hl
  by_cases hlong : laws_a2Long.f l0 l1 = some true
  · refine ⟨0, ?_⟩
    unfold laws_FnInverses.f
    rw [hlong]; rfl
  have hlf : laws_a2Long.f l0 l1 = some false := by
    have : ∃ q, laws_a2Long.f l0 l1 = some q := by
      unfold laws_a2Long.f
      split <;> exact ⟨_, rfl⟩
    obtain ⟨q, hq⟩ := this
    cases q with
    | true => exact absurd hq hlong
    | false => exact hq
  obtain ⟨n, A, h1, h5, hA, sA, hsq⟩ := square_tells l0 hb
  obtain ⟨r, N1, hr, hrank⟩ := rank_tells h1 h5 hA sA
  obtain ⟨B, N2, hinv, hno⟩ := inv_tells h1 h5 hA sA
  by_cases hH : H A n
  · obtain ⟨hB, sB, g1, g2, e2⟩ := hinv hH
    have hBH : H B n := fun j hj => ⟨2 ^ j, by rw [← g2 j hj]; exact sp_cmb B 0 _, Nat.mod_eq_of_lt (Nat.pow_lt_pow_right (by omega) hj)⟩
    obtain ⟨C, N3, hinv3, _⟩ := inv_tells h1 h5 hB sB
    obtain ⟨hC, sC, k1, k2, e3⟩ := hinv3 hBH
    have hCA : C = A := inv_back hA hB hC sA sC g2 k1 k2
    subst hCA
    have hx : C.map (cmb B 0) = pows 0 n := pows_of (cmb_zero B 0) hC g2
    have hy : B.map (cmb C 0) = pows 0 n := pows_of (cmb_zero C 0) hB g1
    refine ⟨(N1 + N2 + N3 + 100) + n + 1 + 1 + 1, ?_⟩
    obtain ⟨M, hM⟩ : ∃ M, M = N1 + N2 + N3 + 100 := ⟨_, rfl⟩
    rw [← hM]
    unfold laws_FnInverses.f
    rw [hlf, hsq _ (by omega)]
    simp only [Option.bind_some]
    rw [if_neg (by decide), hrank _ (by omega), e2 _ (by omega), hr.2 hH]
    simp only [Option.bind_some, beq_self_eq_true, if_true]
    rw [show ((true != true) : Bool) = false from rfl, laws_FnInverses.j0, if_neg (by decide), if_pos rfl, mul_tells h1 h5 hC hB sC sB (by omega), mul_tells h1 h5 hB hC sB sC (by omega), hx, hy]
    simp only [Option.bind_some, if_true]
    rw [len_T, len_pows, if_pos rfl, same_tells _ _ (by rw [len_T, len_pows]; omega) (by omega)]
    simp only [Option.bind_some]
    rw [show (!true) = false from rfl, laws_FnInverses.j1, if_neg (by decide)]
    have := ones_l h5 C B (n : Int) (some true) M (fun K hK => by
      rw [e3 K (by omega)]
      simp only [Option.bind_some, if_true]
      rw [same_tells _ _ (by rw [len_T]; omega) (by omega)]; rfl) n 0 (by omega) M (by omega)
    exact this
  · have e2 := hno hH
    have hrn : ¬ r = n := fun e => hH (hr.1 e)
    refine ⟨N1 + N2 + 100 + 1, ?_⟩
    unfold laws_FnInverses.f
    rw [hlf, hsq _ (by omega)]
    simp only [Option.bind_some]
    rw [if_neg (by decide), hrank _ (by omega), e2 _ (by omega)]
    simp only [Option.bind_some, if_true]
    have q1 : (((4 : Int) == 0) != ((r : Int) == (n : Int))) = false := by
      have : ((r : Int) == (n : Int)) = false := by
        rw [beq_eq_false_iff_ne]; omega
      rw [this]; rfl
    rw [q1, laws_FnInverses.j0, if_neg (by decide), if_neg (by decide)]
    rfl
end Go.Proofs.Ytddaiejpdiibkaa.PureFnInverses
namespace Go.Proofs.Ytddaiejpdiibkaa.Pure
open Go.Proofs.Ytddaiejpdiibkaa.PFnInverses
theorem FnInverses : laws_FnInverses.Pure := PureFnInverses.main
end Go.Proofs.Ytddaiejpdiibkaa.Pure
