/- IsBasis of the program and of the reference agree for every field and every list, valid or not, and leave the list alone (beyond 2^20 elements the law itself asks nothing). -/
import Derived.Test.YtaopplbahakpgaaPFnExactIsBasisx4
namespace Go.Proofs.Ytaopplbahakpgaa.PureFnExactIsBasis
open Go.RowKit Go.Proofs.Ytaopplbahakpgaa.PFnExactIsBasis Go.Proofs.YtaopplbahakpgaaW.PrintWords Go.Proofs.YtaopplbahakpgaaW.PrintLast Go.Proofs.YtaopplbahakpgaaW.PrintMore
set_option linter.unusedVariables false
set_option linter.unusedSimpArgs false
theorem w64 {x : Int} (h0 : -9223372036854775808 ≤ x) (h1 : x ≤ 9223372036854775807) : wrap64 x = x := by unfold wrap64; omega
theorem rd_drop (l : List Int) (i : Int) (h0 : 0 ≤ i) (h1 : i < (l.length : Int)) : l.drop i.toNat = rd l i :: l.drop (i + 1).toNat := by
  have hl : i.toNat < l.length := by omega
  rw [List.drop_eq_getElem_cons hl]
  have e : (i + 1).toNat = i.toNat + 1 := by omega
  rw [e]
  congr 1
  unfold rd
  rw [List.getD_eq_getElem?_getD, List.getElem?_eq_getElem hl]; rfl
theorem wf64 {x : Int} (h : (Lit.int .i64 x).wf = true) : -9223372036854775808 ≤ x ∧ x ≤ 9223372036854775807 := by
  simp [Lit.wf, IntKind.min, IntKind.max, IntKind.signed, IntKind.bits] at h; omega
theorem maxLen_eq : maxLen = 9223372036854775807 := by unfold maxLen; rfl
def flds : List (Nat × Nat) := [(1, 2), (1, 3), (2, 7), (3, 11), (3, 13), (4, 19), (4, 25), (4, 31), (5, 37), (5, 41), (5, 47), (5, 55), (5, 59), (5, 61)]
def okF (d q : Int) : Bool := decide (1 ≤ d) && decide (d ≤ 5) && decide (0 ≤ q) && decide (q < 64) && flds.contains (d.toNat, q.toNat)
theorem okF_small : ∀ d : Fin 6, ∀ q : Fin 64, impl_ValidField.f 60 (d.val : Int) (q.val : Int) = some (okF (d.val : Int) (q.val : Int)) ∧ spec_l01Ok.f 60 (d.val : Int) (q.val : Int) = some (okF (d.val : Int) (q.val : Int)) := by decide +kernel
theorem okF_off (d q : Int) (h : ¬ ((0 ≤ d ∧ d < 6) ∧ (0 ≤ q ∧ q < 64))) : okF d q = false := by
  unfold okF
  by_cases h0 : 1 ≤ d <;> by_cases h1 : d ≤ 5 <;> by_cases h2 : 0 ≤ q <;> by_cases h3 : q < 64 <;> first | omega | simp [h0, h1, h2, h3]
theorem okF_impl (d q : Int) (k : Nat) (hk : 60 ≤ k) : impl_ValidField.f k d q = some (okF d q) := by
  refine at_rounds (fun k => impl_ValidField.mono d q k) hk ?_
  by_cases h : (0 ≤ d ∧ d < 6) ∧ (0 ≤ q ∧ q < 64)
  · have := (okF_small ⟨d.toNat, by omega⟩ ⟨q.toNat, by omega⟩).1
    have e : ((d.toNat : Nat) : Int) = d := by omega
    have e1 : ((q.toNat : Nat) : Int) = q := by omega
    simp only [e, e1] at this
    exact this
  · rw [okF_off d q h]
    unfold impl_ValidField.f impl_within.f impl_IsIrreducible.f
    by_cases h0 : d ≥ 1
    · by_cases h1 : d ≤ 5
      · by_cases h2 : q < 2
        · simp [h0, h1, h2, impl_IsIrreducible.j0]
        · have h3 : q ≥ 64 := by omega
          simp [h0, h1, h2, h3, impl_IsIrreducible.j0]
      · simp [h0, h1]
    · simp [h0]
theorem okF_spec (d q : Int) (k : Nat) (hk : 60 ≤ k) : spec_l01Ok.f k d q = some (okF d q) := by
  refine at_rounds (fun k => spec_l01Ok.mono d q k) hk ?_
  by_cases h : (0 ≤ d ∧ d < 6) ∧ (0 ≤ q ∧ q < 64)
  · have := (okF_small ⟨d.toNat, by omega⟩ ⟨q.toNat, by omega⟩).2
    have e : ((d.toNat : Nat) : Int) = d := by omega
    have e1 : ((q.toNat : Nat) : Int) = q := by omega
    simp only [e, e1] at this
    exact this
  · rw [okF_off d q h]
    unfold spec_l01Ok.f spec_l00In.f spec_IsIrreducible.f
    by_cases h0 : d ≥ 1
    · by_cases h1 : d ≤ 5
      · by_cases h2 : q > 0
        · have h3 : ¬ q < 64 := by omega
          simp [h0, h1, h2, h3]
        · simp [h0, h1, h2]
      · simp [h0, h1]
    · simp [h0]
def S (d : Int) : Int := 2 ^ d.toNat
theorem okF_range {d q : Int} (h : okF d q = true) : 1 ≤ d ∧ d ≤ 5 ∧ 0 ≤ q ∧ q < 64 ∧ (d.toNat, q.toNat) ∈ flds := by
  simp only [okF, Bool.and_eq_true, decide_eq_true_eq, List.contains_iff_mem] at h
  exact ⟨h.1.1.1.1, h.1.1.1.2, h.1.1.2, h.1.2, h.2⟩
theorem sizes {d : Int} (h1 : 1 ≤ d) (h5 : d ≤ 5) : 0 ≤ IntKind.u64.wrap d ∧ IntKind.u64.wrap d = d ∧ shl .i64 1 d = S d ∧ wrap64 (S d - 1) = S d - 1 ∧ 2 ≤ S d ∧ S d ≤ 32 ∧ wrap64 (S d) = S d := by
  have : d = 1 ∨ d = 2 ∨ d = 3 ∨ d = 4 ∨ d = 5 := by omega
  rcases this with rfl | rfl | rfl | rfl | rfl <;> decide +kernel
def inF (d x : Int) : Bool := decide (0 ≤ x) && decide (x < S d)
theorem inF_iff {d x : Int} : inF d x = true ↔ 0 ≤ x ∧ x < S d := by unfold inF; simp
theorem S_nat (d : Int) : ((2 ^ d.toNat : Nat) : Int) = S d := by unfold S; simp
theorem any_not_inF (d : Int) (l : List Int) : (!l.any fun x => !inF d x) = l.all (inF d) := by
  induction l with
  | nil => rfl
  | cons x l ih => simp only [List.any_cons, List.all_cons, ← ih]; cases inF d x <;> simp
theorem within_inF {d : Int} (h1 : 1 ≤ d) (h5 : d ≤ 5) (x : Int) : impl_within.f x 0 (S d - 1) = some (inF d x) := by
  unfold impl_within.f inF
  by_cases h : x ≥ 0
  · have h0 : 0 ≤ x := h
    rw [if_pos h]
    by_cases h2 : x < S d
    · simp [h0, h2, show x ≤ S d - 1 by omega]
    · simp [h2, show ¬ x ≤ S d - 1 by omega]
  · have h0 : ¬ 0 ≤ x := h
    rw [if_neg h]; simp [h0]
theorem has_tells {d q : Int} (h : okF d q = true) (l : List Int) : impl_Field_has.f d q l = some (l.all (inF d)) := by
  obtain ⟨h1, h5, _⟩ := okF_range h
  obtain ⟨_, _, e, e2, _⟩ := sizes h1 h5
  have e3 := anyO_some (fun x_ => impl_Field_has_1.f x_ d q) (fun x => !inF d x) l (fun x _ => by
    unfold impl_Field_has_1.f impl_Field_count.f
    rw [if_pos (by omega), e]
    simp only [Option.bind_some]
    rw [e2, within_inF h1 h5]; rfl)
  unfold impl_Field_has.f
  rw [e3, ← any_not_inF]; rfl
def codeF (d q : Int) (right : Bool) (l : List Int) : Int := if okF d q = true then (if l.all (inF d) = true then (if right = true then 0 else 2) else 2) else 1
theorem code_tells (d q : Int) (right : Bool) (l : List Int) (k : Nat) (hk : 60 ≤ k) : impl_Field_code.f k d q right l = some (codeF d q right l) := by
  unfold impl_Field_code.f codeF
  rw [okF_impl d q k hk]
  simp only [Option.bind_some]
  by_cases h : okF d q = true
  · rw [if_pos h, if_pos h, has_tells h]
    simp only [Option.bind_some]
    by_cases h2 : l.all (inF d) = true
    · rw [if_pos h2, if_pos h2]
      by_cases h3 : right = true
      · rw [if_pos h3, if_pos h3]
      · rw [if_neg h3, if_neg h3]
    · rw [if_neg h2, if_neg h2]
  · rw [if_neg h, if_neg h]
theorem laws_eqInt64S.tells_l (a b : List Int) (hl : a.length = b.length) (hb : (a.length : Int) ≤ 9223372036854775807) : ∀ (d : Nat) (i : Int) (k : Nat), 0 ≤ i → i ≤ (a.length : Int) → (a.length : Int) - i = d → d < k →
    laws_eqInt64S.l0 k a b i = some (decide (a.drop i.toNat = b.drop i.toNat)) := by
  intro d
  induction d with
  | zero =>
    intro k' k h0 h1 hd hk
    obtain ⟨k, rfl⟩ : ∃ m, k = m + 1 := ⟨k - 1, by omega⟩
    simp only [laws_eqInt64S.l0]
    rw [if_neg (by omega), List.drop_eq_nil_of_le (by omega), List.drop_eq_nil_of_le (by omega)]; simp
  | succ d ih =>
    intro i k h0 h1 hd hk
    obtain ⟨k, rfl⟩ : ∃ m, k = m + 1 := ⟨k - 1, by omega⟩
    simp only [laws_eqInt64S.l0]
    rw [if_pos (by omega), if_pos h0, if_pos (by omega), w64 (by omega) (by omega), rd_drop a i h0 (by omega), rd_drop b i h0 (by omega)]
    by_cases e : rd a i = rd b i
    · rw [if_pos e, ih (i + 1) k (by omega) (by omega) (by omega) (by omega)]
      simp [e]
    · rw [if_neg e]; simp [e]
theorem laws_eqInt64S.tells (a b : List Int) (hb : a.length ≤ 9223372036854775807) (k : Nat) (hk : a.length < k) : laws_eqInt64S.f k a b = some (decide (a = b)) := by
  unfold laws_eqInt64S.f
  by_cases h : (a.length : Int) = (b.length : Int)
  · rw [if_pos h, laws_eqInt64S.tells_l a b (by omega) (by omega) a.length 0 k (by omega) (by omega) (by omega) hk]
    simp
  · rw [if_neg h]
    have : a ≠ b := fun e => h (by rw [e])
    simp [this]
theorem set_rd (l o : List Int) (i : Int) (h0 : 0 ≤ i) (h1 : i < (l.length : Int)) (ho : o.length = l.length) (he : o.take i.toNat = l.take i.toNat) : (o.set i.toNat (rd l i)).take (i + 1).toNat = l.take (i + 1).toNat := by
  have e : (i + 1).toNat = i.toNat + 1 := by omega
  have hl : i.toNat < l.length := by omega
  have ho' : i.toNat < o.length := by omega
  rw [e, List.take_succ_eq_append_getElem (by simpa using ho'), List.take_succ_eq_append_getElem hl, List.take_set_of_le (Nat.le_refl _), he, List.getElem_set_self]
  congr 2
  unfold rd
  rw [List.getD_eq_getElem?_getD, List.getElem?_eq_getElem hl]; rfl
theorem laws_toInt64S.tells_l (l : List Int) (hb : (l.length : Int) ≤ 9223372036854775807) : ∀ (d : Nat) (i : Int) (o : List Int) (k : Nat), 0 ≤ i → i ≤ (l.length : Int) → (l.length : Int) - i = d → d < k → o.length = l.length → o.take i.toNat = l.take i.toNat →
    laws_toInt64S.l0 k l o i = some l := by
  intro d
  induction d with
  | zero =>
    intro i o k h0 h1 hd hk ho he
    obtain ⟨k, rfl⟩ : ∃ m, k = m + 1 := ⟨k - 1, by omega⟩
    simp only [laws_toInt64S.l0]
    rw [if_neg (by omega)]
    have e : i.toNat = l.length := by omega
    rw [e, List.take_of_length_le (by omega), List.take_of_length_le (by omega)] at he
    rw [he]
  | succ d ih =>
    intro i o k h0 h1 hd hk ho he
    obtain ⟨k, rfl⟩ : ∃ m, k = m + 1 := ⟨k - 1, by omega⟩
    simp only [laws_toInt64S.l0]
    rw [if_pos (by omega), if_pos h0, if_pos (by omega), w64 (by omega) (by omega)]
    exact ih (i + 1) _ k (by omega) (by omega) (by omega) (by omega) (by simpa using ho) (set_rd l o i h0 (by omega) ho he)
theorem laws_toInt64S.tells (l : List Int) (hl : l.length ≤ 1048576) (k : Nat) (hk : l.length < k) : laws_toInt64S.f k l = some l := by
  unfold laws_toInt64S.f
  rw [if_pos (by omega), if_pos (by omega)]
  exact laws_toInt64S.tells_l l (by omega) l.length 0 _ k (by omega) (by omega) (by omega) hk (by simp) (by simp)
def T (L : List Nat) : List Int := L.map (fun n : Nat => (n : Int))
theorem len_T (L : List Nat) : (T L).length = L.length := by simp [T]
theorem rd_T (L : List Nat) (i : Nat) : rd (T L) (i : Int) = ((L.getD i 0 : Nat) : Int) := by
  unfold rd T
  rw [List.getD_eq_getElem?_getD, List.getD_eq_getElem?_getD, List.getElem?_map, Int.toNat_natCast]
  cases L[i]? <;> rfl
theorem set_T (L : List Nat) (i n : Nat) : (T L).set (i : Int).toNat (n : Int) = T (L.set i n) := by
  unfold T; rw [Int.toNat_natCast, List.map_set]
theorem i64_small (n : Int) (h0 : 0 ≤ n) (h1 : n < 2 ^ 10) : IntKind.i64.wrap n = n := by rw [IntKind.wrap_i64]; omega
theorem xor_T {a b : Nat} (ha : a < 1024) (hb : b < 1024) : Go.bits .xor .i64 (a : Int) (b : Int) = ((a ^^^ b : Nat) : Int) := by
  have ha' : a % 2 ^ IntKind.i64.bits = a := Nat.mod_eq_of_lt (by simp [IntKind.bits]; omega)
  have hb' : b % 2 ^ IntKind.i64.bits = b := Nat.mod_eq_of_lt (by simp [IntKind.bits]; omega)
  have hx : a ^^^ b < 2 ^ 10 := Nat.xor_lt_two_pow (n := 10) ha hb
  simp only [bits, BitVec.ofInt_natCast, BitVec.toNat_xor, BitVec.toNat_ofNat, ha', hb']
  exact i64_small _ (Int.natCast_nonneg _) (by exact_mod_cast hx)
theorem bit_T {x k : Nat} (hx : x < 1024) (hk : k ≤ 62) : Go.bits .and .i64 (shr .i64 (x : Int) (k : Int)) 1 = if x.testBit k = true then 1 else 0 := by
  have e : shr .i64 (x : Int) (k : Int) = ((x / 2 ^ k : Nat) : Int) := by
    unfold shr
    rw [Int.toNat_natCast, show min k IntKind.i64.bits = k by simp [IntKind.bits]; omega]
    simp
  have h2 : x / 2 ^ k < 1024 := Nat.lt_of_le_of_lt (Nat.div_le_self _ _) hx
  rw [e]
  have := (bits_nat .i64 10 (by decide) i64_small (x / 2 ^ k) 1 h2 (by decide)).1
  rw [show (1 : Int) = ((1 : Nat) : Int) from rfl, this, Nat.and_one_is_mod, Nat.testBit_eq_decide_div_mod_eq]
  by_cases h : x / 2 ^ k % 2 = 1
  · simp [h]
  · have : x / 2 ^ k % 2 = 0 := by omega
    simp [this]
theorem uw {x : Int} (h0 : 0 ≤ x) (h1 : x ≤ 20) : IntKind.u64.wrap x = x := by
  have h : ∀ i : Fin 21, IntKind.u64.wrap (i.val : Int) = (i.val : Int) := by decide +kernel
  have := h ⟨x.toNat, by omega⟩
  simp only [show ((x.toNat : Nat) : Int) = x by omega] at this
  exact this
def Sp : List Nat → Nat → Prop
  | [], w => w = 0
  | x :: L, w => Sp L w ∨ Sp L (w ^^^ x)
theorem sp_zero : ∀ L : List Nat, Sp L 0
  | [] => rfl
  | _ :: L => Or.inl (sp_zero L)
theorem xx (a b : Nat) : a ^^^ b ^^^ b = a := by rw [Nat.xor_assoc, Nat.xor_self, Nat.xor_zero]
theorem sp_xor : ∀ (L : List Nat) {a b : Nat}, Sp L a → Sp L b → Sp L (a ^^^ b)
  | [], a, b, ha, hb => by
    have h1 : a = 0 := ha
    have h2 : b = 0 := hb
    subst h1 h2; rfl
  | x :: L, a, b, ha, hb => by
    rcases ha with ha | ha <;> rcases hb with hb | hb
    · exact Or.inl (sp_xor L ha hb)
    · refine Or.inr ?_
      have := sp_xor L ha hb
      rwa [← Nat.xor_assoc] at this
    · refine Or.inr ?_
      have := sp_xor L ha hb
      rwa [show a ^^^ x ^^^ b = a ^^^ b ^^^ x by rw [Nat.xor_assoc, Nat.xor_comm x b, ← Nat.xor_assoc]] at this
    · refine Or.inl ?_
      have := sp_xor L ha hb
      rwa [show a ^^^ x ^^^ (b ^^^ x) = a ^^^ b by rw [Nat.xor_comm b x, ← Nat.xor_assoc, xx]] at this
theorem sp_mem : ∀ (L : List Nat) {x : Nat}, x ∈ L → Sp L x
  | y :: L, x, h => by
    rcases List.mem_cons.1 h with rfl | h
    · exact Or.inr (by rw [Nat.xor_self]; exact sp_zero L)
    · exact Or.inl (sp_mem L h)
theorem sp_min {V : Nat → Prop} (h0 : V 0) (hx : ∀ a b, V a → V b → V (a ^^^ b)) : ∀ (L : List Nat) {w : Nat}, (∀ x ∈ L, V x) → Sp L w → V w
  | [], w, _, h => by have : w = 0 := h; rw [this]; exact h0
  | x :: L, w, hm, h => by
    rcases h with h | h
    · exact sp_min h0 hx L (fun y hy => hm y (List.mem_cons_of_mem _ hy)) h
    · have h1 := sp_min h0 hx L (fun y hy => hm y (List.mem_cons_of_mem _ hy)) h
      have := hx _ _ h1 (hm x List.mem_cons_self)
      rwa [xx] at this
def fB (k l w : Nat) : Nat := if w.testBit k = true then w ^^^ l else w
theorem fB_bit {k l : Nat} (hl : l.testBit k = true) (w : Nat) : (fB k l w).testBit k = false := by
  unfold fB
  cases h : w.testBit k with
  | true => rw [if_pos rfl, Nat.testBit_xor, h, hl]; rfl
  | false => rw [if_neg (by decide), h]
theorem fB_xor {k l : Nat} (hl : l.testBit k = true) (a b : Nat) : fB k l (a ^^^ b) = fB k l a ^^^ fB k l b := by
  unfold fB
  rw [Nat.testBit_xor]
  cases ha : a.testBit k <;> cases hb : b.testBit k <;> simp
  · rw [Nat.xor_assoc]
  · rw [Nat.xor_assoc, Nat.xor_comm b l, ← Nat.xor_assoc]
  · rw [Nat.xor_comm b l, ← Nat.xor_assoc, xx]
theorem fB_sp {k l : Nat} {L : List Nat} (hl : Sp L l) {w : Nat} (hw : Sp L w) : Sp L (fB k l w) := by
  unfold fB
  split
  · exact sp_xor L hw hl
  · exact hw
/-- the span of what is left, behind a column with a lead -/
theorem sp_lead {k l : Nat} {L M : List Nat} (hl : l.testBit k = true) (ha : ∀ y ∈ M, Sp L y ∧ y.testBit k = false) (hb : ∀ x ∈ L, Sp M (fB k l x)) (w : Nat) : Sp M w ↔ Sp L w ∧ w.testBit k = false := by
  constructor
  · exact sp_min (V := fun w => Sp L w ∧ w.testBit k = false) ⟨sp_zero L, by simp⟩ (fun a b h1 h2 => ⟨sp_xor L h1.1 h2.1, by rw [Nat.testBit_xor, h1.2, h2.2]; rfl⟩) M ha
  · rintro ⟨h1, h2⟩
    have := sp_min (V := fun w => Sp M (fB k l w)) (by show Sp M (fB k l 0); have : fB k l 0 = 0 := by unfold fB; simp
                                                       rw [this]; exact sp_zero M) (fun a b h1 h2 => by show Sp M (fB k l (a ^^^ b)); rw [fB_xor hl]; exact sp_xor M h1 h2) L hb h1
    have e : fB k l w = w := by unfold fB; rw [h2]; rfl
    rwa [e] at this
theorem sp_low {L : List Nat} {k : Nat} (h : ∀ x ∈ L, x.testBit k = false) {w : Nat} (hw : Sp L w) : w.testBit k = false :=
  sp_min (V := fun w => w.testBit k = false) (by simp) (fun a b h1 h2 => by rw [Nat.testBit_xor, h1, h2]; rfl) L h hw
theorem sp_small {L : List Nat} {c : Nat} (h : ∀ x ∈ L, x < 2 ^ c) {w : Nat} (hw : Sp L w) : w < 2 ^ c :=
  sp_min (V := fun w => w < 2 ^ c) (Nat.two_pow_pos c) (fun a b h1 h2 => Nat.xor_lt_two_pow h1 h2) L h hw
theorem getD_map_append (f : Nat → Nat) (hf : f 0 = 0) (L : List Nat) (l j : Nat) : (L.map f ++ [l]).getD j 0 = if j = L.length then l else f (L.getD j 0) := by
  rw [List.getD_eq_getElem?_getD, List.getD_eq_getElem?_getD]
  by_cases h : j < L.length
  · rw [if_neg (by omega), List.getElem?_append_left (by simpa using h), List.getElem?_map]
    rw [List.getElem?_eq_getElem h]; rfl
  · by_cases e : j = L.length
    · rw [if_pos e, List.getElem?_append_right (by simp; omega)]
      simp [e]
    · rw [if_neg e, List.getElem?_eq_none (by simp; omega), List.getElem?_eq_none (by omega)]
      simp [hf]
theorem fB_small {c k l w : Nat} (hl : l < 2 ^ c) (hw : w < 2 ^ c) : fB k l w < 2 ^ c := by
  unfold fB
  split
  · exact Nat.xor_lt_two_pow hw hl
  · exact hw
theorem fB_zero (k l : Nat) : fB k l 0 = 0 := by unfold fB; simp
theorem getD_lt (L : List Nat) (i : Nat) (h : i < L.length) : L.getD i 0 = L[i] := by
  rw [List.getD_eq_getElem?_getD, List.getElem?_eq_getElem h]; rfl
theorem getD_small {L : List Nat} (h : ∀ x ∈ L, x < 1024) (i : Nat) : L.getD i 0 < 1024 := by
  by_cases hi : i < L.length
  · rw [getD_lt L i hi]; exact h _ (List.getElem_mem hi)
  · rw [List.getD_eq_getElem?_getD, List.getElem?_eq_none (by omega)]; simp
theorem of_T (l : List Int) (h : ∀ x ∈ l, 0 ≤ x) : T (l.map Int.toNat) = l := by
  unfold T
  rw [List.map_map]
  conv => rhs; rw [← List.map_id l]
  refine List.map_congr_left fun x hx => ?_
  have := h x hx
  simp; omega
/-- the sum of the rows that a number's bits tell -/
def cmb : List Nat → Nat → Nat → Nat
  | [], _, _ => 0
  | x :: L, i, h => (if h.testBit i = true then x else 0) ^^^ cmb L (i + 1) h
theorem cmb_xor : ∀ (L : List Nat) (i a b : Nat), cmb L i (a ^^^ b) = cmb L i a ^^^ cmb L i b
  | [], _, _, _ => by simp [cmb]
  | x :: L, i, a, b => by
    simp only [cmb]
    rw [cmb_xor L (i + 1) a b, Nat.testBit_xor]
    cases ha : a.testBit i <;> cases hb : b.testBit i <;> simp
    · ac_rfl
    · ac_rfl
    · rw [show x ^^^ cmb L (i + 1) a ^^^ (x ^^^ cmb L (i + 1) b) = (x ^^^ x) ^^^ (cmb L (i + 1) a ^^^ cmb L (i + 1) b) by ac_rfl, Nat.xor_self, Nat.zero_xor]
theorem cmb_zero : ∀ (L : List Nat) (i : Nat), cmb L i 0 = 0
  | [], _ => rfl
  | x :: L, i => by simp only [cmb]; rw [cmb_zero L]; simp
theorem cmb_small {c : Nat} : ∀ (L : List Nat) (i h : Nat), (∀ x ∈ L, x < 2 ^ c) → cmb L i h < 2 ^ c
  | [], _, _, _ => Nat.two_pow_pos c
  | x :: L, i, h, hs => by
    refine Nat.xor_lt_two_pow ?_ (cmb_small L (i + 1) h fun y hy => hs y (List.mem_cons_of_mem _ hy))
    split
    · exact hs x List.mem_cons_self
    · exact Nat.two_pow_pos c
theorem cmb_low : ∀ (L : List Nat) (i j : Nat), j < i → cmb L i (2 ^ j) = 0
  | [], _, _, _ => rfl
  | x :: L, i, j, h => by
    simp only [cmb]
    rw [cmb_low L (i + 1) j (by omega), Nat.testBit_two_pow, if_neg (by simp; omega)]; rfl
theorem cmb_pow : ∀ (L : List Nat) (i j : Nat), cmb L i (2 ^ (i + j)) = L.getD j 0
  | [], _, _ => by simp [cmb]
  | x :: L, i, 0 => by
    simp only [cmb]
    rw [cmb_low L (i + 1) (i + 0) (by omega), Nat.testBit_two_pow, if_pos (by simp)]; simp
  | x :: L, i, j + 1 => by
    simp only [cmb]
    rw [show i + (j + 1) = i + 1 + j by omega, cmb_pow L (i + 1) j, Nat.testBit_two_pow, if_neg (by simp; omega)]; simp
theorem cmb_pow0 (L : List Nat) (j : Nat) : cmb L 0 (2 ^ j) = L.getD j 0 := by
  have := cmb_pow L 0 j
  rwa [Nat.zero_add] at this
theorem sp_cmb : ∀ (L : List Nat) (i h : Nat), Sp L (cmb L i h)
  | [], _, _ => rfl
  | x :: L, i, h => by
    simp only [cmb]
    by_cases hb : h.testBit i = true
    · rw [if_pos hb]
      exact Or.inr (by rw [Nat.xor_comm, ← Nat.xor_assoc, Nat.xor_self, Nat.zero_xor]; exact sp_cmb L (i + 1) h)
    · rw [if_neg hb, Nat.zero_xor]
      exact Or.inl (sp_cmb L (i + 1) h)
theorem cmb_high (L : List Nat) : ∀ (i h h' : Nat), (∀ b, i ≤ b → h.testBit b = h'.testBit b) → cmb L i h = cmb L i h' := by
  induction L with
  | nil => intro i h h' _; rfl
  | cons x L ih =>
    intro i h h' e
    simp only [cmb]
    rw [e i (Nat.le_refl _), ih (i + 1) h h' fun b hb => e b (by omega)]
theorem sp_is : ∀ (L : List Nat) (i w : Nat), Sp L w → ∃ h, (∀ b, b < i → h.testBit b = false) ∧ w = cmb L i h
  | [], i, w, h => ⟨0, fun b _ => by simp, h⟩
  | x :: L, i, w, h => by
    rcases h with h | h
    · obtain ⟨u, h1, h2⟩ := sp_is L (i + 1) w h
      refine ⟨u, fun b hb => h1 b (by omega), ?_⟩
      simp only [cmb]
      rw [h1 i (by omega), h2]; simp
    · obtain ⟨u, h1, h2⟩ := sp_is L (i + 1) _ h
      refine ⟨u ^^^ 2 ^ i, fun b hb => ?_, ?_⟩
      · rw [Nat.testBit_xor, h1 b (by omega), Nat.testBit_two_pow]; simp; omega
      · have e : cmb L (i + 1) (u ^^^ 2 ^ i) = cmb L (i + 1) u := by rw [cmb_xor, cmb_low L (i + 1) i (by omega), Nat.xor_zero]
        simp only [cmb]
        rw [e, ← h2, Nat.testBit_xor, h1 i (by omega), Nat.testBit_two_pow, if_pos (by simp), Nat.xor_comm x, xx]
theorem cmb_map (g : Nat → Nat) (g0 : g 0 = 0) (gx : ∀ a b, g (a ^^^ b) = g a ^^^ g b) : ∀ (L : List Nat) (i h : Nat), g (cmb L i h) = cmb (L.map g) i h
  | [], _, _ => g0
  | x :: L, i, h => by
    simp only [cmb, List.map_cons]
    rw [gx, cmb_map g g0 gx L (i + 1) h]
    by_cases hb : h.testBit i = true
    · rw [if_pos hb, if_pos hb]
    · rw [if_neg hb, if_neg hb, g0]
theorem sum_l (L : List Nat) (hL : L.length ≤ 10) (hs : ∀ x ∈ L, x < 1024) (x : Nat) (hx : x < 1024) : ∀ (M : List Nat) (i acc : Nat), i + M.length = L.length → L.drop i = M → acc < 1024 → ∀ K,
    impl_sumOf.l0 (K + M.length + 1) (x : Int) (acc : Int) (T L) (L.length : Int) (i : Int) = some ((acc ^^^ cmb M i x : Nat) : Int) := by
  intro M
  induction M with
  | nil =>
    intro i acc hd _ ha K
    simp only [List.length_nil] at hd
    rw [impl_sumOf.l0, if_neg (by omega), cmb, Nat.xor_zero]
  | cons y M ih =>
    intro i acc hd hD ha K
    rw [List.length_cons] at hd
    have hy : L.getD i 0 = y := by
      have h1 := List.drop_eq_getElem_cons (l := L) (i := i) (by omega)
      rw [hD] at h1
      rw [getD_lt L i (by omega)]
      exact (List.cons.inj h1).1.symm
    have hD' : L.drop (i + 1) = M := by
      have h1 := List.drop_eq_getElem_cons (l := L) (i := i) (by omega)
      rw [hD] at h1
      exact (List.cons.inj h1).2.symm
    have hys : y < 1024 := by rw [← hy]; exact getD_small hs i
    rw [List.length_cons, show K + (M.length + 1) + 1 = (K + M.length + 1) + 1 by omega, impl_sumOf.l0, if_pos (by omega), if_pos (by omega), len_T, if_pos (by omega), bit_T hx (by omega), rd_T, hy, w64 (x := (i : Int) + 1) (by omega) (by omega), show (i : Int) + 1 = ((i + 1 : Nat) : Int) by omega]
    by_cases hb : x.testBit i = true
    · rw [if_pos hb, if_pos rfl, xor_T ha hys, ih (i + 1) _ (by omega) hD' (Nat.xor_lt_two_pow (n := 10) ha hys), cmb, if_pos hb, Nat.xor_assoc]
    · rw [if_neg hb, if_neg (by decide), ih (i + 1) _ (by omega) hD' ha, cmb, if_neg hb, Nat.zero_xor]
theorem sum_tells {L : List Nat} (hL : L.length ≤ 10) (hs : ∀ x ∈ L, x < 1024) {x : Nat} (hx : x < 1024) {K : Nat} (hK : 12 ≤ K) : impl_sumOf.f K (T L) (x : Int) = some ((cmb L 0 x : Nat) : Int) := by
  obtain ⟨K', rfl⟩ : ∃ j, K = j + L.length + 1 := ⟨K - L.length - 1, by omega⟩
  unfold impl_sumOf.f
  rw [len_T]
  have := sum_l L hL hs x hx L 0 0 (by omega) (by simp) (by decide) K'
  rw [Nat.zero_xor] at this
  exact this
theorem shl_T {k : Nat} (hk : k ≤ 20) : shl .i64 1 (k : Int) = ((2 ^ k : Nat) : Int) := by
  have h : ∀ i : Fin 21, shl .i64 1 (i.val : Int) = ((2 ^ i.val : Nat) : Int) := by decide +kernel
  exact h ⟨k, by omega⟩
theorem in_spec {d : Int} (h1 : 1 ≤ d) (h5 : d ≤ 5) (x : Int) : spec_l00In.f x 0 (S d - 1) = some (inF d x) := by
  unfold spec_l00In.f inF
  by_cases h : x ≥ 0
  · have h0 : 0 ≤ x := h
    rw [if_pos h]
    by_cases h2 : x < S d
    · simp [h0, h2, show x ≤ S d - 1 by omega]
    · simp [h2, show ¬ x ≤ S d - 1 by omega]
  · have h0 : ¬ 0 ≤ x := h
    rw [if_neg h]; simp [h0]
theorem list_l {d q : Int} (h : okF d q = true) (l : List Int) (hl : l.length ≤ 1048576) : ∀ (n : Nat) (i : Int), 0 ≤ i → i + n = (l.length : Int) → ∀ K, spec_l01List.l0 (K + n + 1) l i d q = some (if (l.drop i.toNat).all (inF d) = true then 0 else 2) := by
  obtain ⟨h1, h5, _⟩ := okF_range h
  obtain ⟨e0, e1, e2, e3, _⟩ := sizes h1 h5
  intro n
  induction n with
  | zero =>
    intro i hi hd K
    rw [show K + 0 + 1 = K + 1 from rfl, spec_l01List.l0, if_neg (by omega), List.drop_eq_nil_of_le (by omega)]; rfl
  | succ n ih =>
    intro i hi hd K
    rw [show K + (n + 1) + 1 = (K + n + 1) + 1 by omega, spec_l01List.l0, if_pos (by omega), if_pos hi]
    unfold spec_l01Size.f
    rw [if_pos e0, e1, e2]
    simp only [Option.bind_some]
    rw [e3, in_spec h1 h5, rd_drop l i hi (by omega), List.all_cons]
    simp only [Option.bind_some]
    by_cases hx : inF d (rd l i) = true
    · rw [if_pos hx, w64 (x := i + 1) (by omega) (by omega), ih (i + 1) (by omega) (by omega) K, hx, Bool.true_and]
    · rw [if_neg hx, Bool.eq_false_iff.2 hx, Bool.false_and, if_neg (by decide)]
theorem list_tells (d q : Int) (l : List Int) (hl : l.length ≤ 1048576) (K : Nat) (hK : l.length + 100 ≤ K) : spec_l01List.f K d q l = some (codeF d q true l) := by
  unfold spec_l01List.f codeF
  rw [okF_spec d q K (by omega)]
  simp only [Option.bind_some]
  by_cases h : okF d q = true
  · rw [if_pos h, if_pos h]
    obtain ⟨j, rfl⟩ : ∃ j, K = j + l.length + 1 := ⟨K - l.length - 1, by omega⟩
    rw [list_l h l hl l.length 0 (by omega) (by omega) j]
    simp
  · rw [if_neg h, if_neg h]
theorem ssum_l (L : List Nat) (hL : L.length ≤ 10) (hs : ∀ x ∈ L, x < 1024) (x : Nat) (hx : x < 1024) : ∀ (M : List Nat) (i acc : Nat), i + M.length = L.length → L.drop i = M → acc < 1024 → ∀ K,
    spec_l01Sum.l0 (K + M.length + 1) (T L) (x : Int) (acc : Int) (i : Int) = some ((acc ^^^ cmb M i x : Nat) : Int) := by
  intro M
  induction M with
  | nil =>
    intro i acc hd _ ha K
    simp only [List.length_nil] at hd
    rw [spec_l01Sum.l0, len_T, if_neg (by omega), cmb, Nat.xor_zero]
  | cons y M ih =>
    intro i acc hd hD ha K
    rw [List.length_cons] at hd
    have hy : L.getD i 0 = y := by
      have h1 := List.drop_eq_getElem_cons (l := L) (i := i) (by omega)
      rw [hD] at h1
      rw [getD_lt L i (by omega)]
      exact (List.cons.inj h1).1.symm
    have hD' : L.drop (i + 1) = M := by
      have h1 := List.drop_eq_getElem_cons (l := L) (i := i) (by omega)
      rw [hD] at h1
      exact (List.cons.inj h1).2.symm
    have hys : y < 1024 := by rw [← hy]; exact getD_small hs i
    rw [List.length_cons, show K + (M.length + 1) + 1 = (K + M.length + 1) + 1 by omega, spec_l01Sum.l0, len_T, if_pos (by omega), uw (by omega) (by omega), if_pos (by omega), bit_T hx (by omega), if_pos (show (0 : Int) ≤ (i : Int) by omega), rd_T, hy, w64 (x := (i : Int) + 1) (by omega) (by omega), show (i : Int) + 1 = ((i + 1 : Nat) : Int) by omega]
    by_cases hb : x.testBit i = true
    · rw [if_pos hb, if_pos rfl, xor_T ha hys, ih (i + 1) _ (by omega) hD' (Nat.xor_lt_two_pow (n := 10) ha hys), cmb, if_pos hb, Nat.xor_assoc]
    · rw [if_neg hb, if_neg (by decide), ih (i + 1) _ (by omega) hD' ha, cmb, if_neg hb, Nat.zero_xor]
theorem ssum_tells {L : List Nat} (hL : L.length ≤ 10) (hs : ∀ x ∈ L, x < 1024) {x : Nat} (hx : x < 1024) {K : Nat} (hK : 12 ≤ K) : spec_l01Sum.f K (T L) (x : Int) = some ((cmb L 0 x : Nat) : Int) := by
  obtain ⟨K', rfl⟩ : ∃ j, K = j + L.length + 1 := ⟨K - L.length - 1, by omega⟩
  unfold spec_l01Sum.f
  have := ssum_l L hL hs x hx L 0 0 (by omega) (by simp) (by decide) K'
  rw [Nat.zero_xor] at this
  exact this
theorem spec_l {d : Nat} {q : Int} (h1 : 1 ≤ d) (h5 : d ≤ 5) (L : List Nat) (hL : L.length = d) (hs : ∀ x ∈ L, x < 1024) : ∀ (n i : Nat), i + n = 2 ^ d →
    ∃ b : Bool, (b = true ↔ ∀ x, i ≤ x → x < 2 ^ d → cmb L 0 x ≠ 0) ∧ ∀ K, spec_l01Basis.l0 (K + n + 20) (T L) (i : Int) (d : Int) q = some b := by
  have hp : 2 ^ d ≤ 32 := Nat.pow_le_pow_right (n := 2) (j := 5) (by omega) h5
  have hsz : spec_l01Size.f (d : Int) q = some ((2 ^ d : Nat) : Int) := by
    unfold spec_l01Size.f
    rw [uw (by omega) (by omega), if_pos (by omega), shl_T (by omega)]
  intro n
  induction n with
  | zero =>
    intro i hi
    refine ⟨true, ⟨fun _ x h0 h1 => by omega, fun _ => rfl⟩, fun K => ?_⟩
    rw [show K + 0 + 20 = (K + 19) + 1 from rfl, spec_l01Basis.l0, hsz]
    simp only [Option.bind_some]
    rw [if_neg (by omega)]
  | succ n ih =>
    intro i hi
    by_cases hc : cmb L 0 i = 0
    · refine ⟨false, ⟨fun h => (by cases h), fun h => absurd hc (h i (Nat.le_refl _) (by omega))⟩, fun K => ?_⟩
      rw [show K + (n + 1) + 20 = (K + n + 20) + 1 by omega, spec_l01Basis.l0, hsz]
      simp only [Option.bind_some]
      rw [if_pos (by omega), ssum_tells (by omega) hs (by omega) (by omega)]
      simp only [Option.bind_some]
      rw [if_pos (by omega)]
    · obtain ⟨b, hb, h⟩ := ih (i + 1) (by omega)
      refine ⟨b, ⟨fun e x h0 h2 => ?_, fun e => hb.2 fun x h0 h2 => e x (by omega) h2⟩, fun K => ?_⟩
      · by_cases hx : x = i
        · rw [hx]; exact hc
        · exact hb.1 e x (by omega) h2
      · rw [show K + (n + 1) + 20 = (K + n + 20) + 1 by omega, spec_l01Basis.l0, hsz]
        simp only [Option.bind_some]
        rw [if_pos (by omega), ssum_tells (by omega) hs (by omega) (by omega)]
        simp only [Option.bind_some]
        rw [if_neg (by omega), w64 (x := (i : Int) + 1) (by omega) (by omega), show (i : Int) + 1 = ((i + 1 : Nat) : Int) by omega]
        exact h K
theorem impl_l {d : Nat} (h1 : 1 ≤ d) (h5 : d ≤ 5) (L : List Nat) (hL : L.length = d) (hs : ∀ x ∈ L, x < 2 ^ d) : ∀ (n i : Nat) (out met : List Int), i + n = 2 ^ d → out.length = 2 ^ d → met.length = i → (∀ v : Int, met.contains v = true ↔ ∃ y : Nat, y < i ∧ v = (cmb L 0 y : Nat)) →
    ∃ R : List Int, (R.isEmpty = true ↔ ∃ x, i ≤ x ∧ x < 2 ^ d ∧ ∃ y, y < x ∧ cmb L 0 y = cmb L 0 x) ∧ ∀ K, impl_Field_coordinates.l0 (K + n + 20) (T L) out met ((2 ^ d : Nat) : Int) (i : Int) = some R := by
  have hp : 2 ^ d ≤ 32 := Nat.pow_le_pow_right (n := 2) (j := 5) (by omega) h5
  have hp1 : 1 ≤ 2 ^ d := Nat.one_le_two_pow
  have hs' : ∀ x ∈ L, x < 1024 := fun x hx => by have := hs x hx; omega
  intro n
  induction n with
  | zero =>
    intro i out met hi ho _ _
    refine ⟨out, ⟨fun h => ?_, fun ⟨x, h0, h2, _⟩ => by omega⟩, fun K => ?_⟩
    · rw [List.isEmpty_iff] at h
      rw [h] at ho; simp at ho; omega
    · rw [show K + 0 + 20 = (K + 19) + 1 from rfl, impl_Field_coordinates.l0, if_neg (by omega), if_pos (by omega)]
  | succ n ih =>
    intro i out met hi ho hm hc
    have hcl : cmb L 0 i < 2 ^ d := cmb_small L 0 i hs
    by_cases hx : met.contains ((cmb L 0 i : Nat) : Int) = true
    · obtain ⟨y, hy, hv⟩ := (hc _).1 hx
      refine ⟨[], ⟨fun _ => ⟨i, Nat.le_refl _, by omega, y, hy, by omega⟩, fun _ => rfl⟩, fun K => ?_⟩
      rw [show K + (n + 1) + 20 = (K + n + 20) + 1 by omega, impl_Field_coordinates.l0, if_pos (by omega), sum_tells (by omega) hs' (by omega) (by omega)]
      simp only [Option.bind_some]
      rw [if_pos (by omega), if_pos (by omega), if_pos (by omega), if_pos hx]
    · obtain ⟨R, hR, h⟩ := ih (i + 1) (out.set (((cmb L 0 i : Nat) : Int)).toNat (i : Int)) (((cmb L 0 i : Nat) : Int) :: met) (by omega) (by simpa using ho) (by simp [hm]) (fun v => by
        rw [List.contains_cons, Bool.or_eq_true, hc v, beq_iff_eq]
        constructor
        · rintro (h | ⟨y, hy, hv⟩)
          · exact ⟨i, by omega, h⟩
          · exact ⟨y, by omega, hv⟩
        · rintro ⟨y, hy, hv⟩
          by_cases e : y = i
          · exact Or.inl (by rw [hv, e])
          · exact Or.inr ⟨y, by omega, hv⟩)
      refine ⟨R, hR.trans ⟨fun ⟨x, h0, h2, h3⟩ => ⟨x, by omega, h2, h3⟩, fun ⟨x, h0, h2, y, hy, hv⟩ => ?_⟩, fun K => ?_⟩
      · by_cases e : x = i
        · subst e
          exact absurd ((hc _).2 ⟨y, hy, by rw [hv]⟩) hx
        · exact ⟨x, by omega, h2, y, hy, hv⟩
      · rw [show K + (n + 1) + 20 = (K + n + 20) + 1 by omega, impl_Field_coordinates.l0, if_pos (by omega), sum_tells (by omega) hs' (by omega) (by omega)]
        simp only [Option.bind_some]
        rw [if_pos (by omega), if_pos (by omega), if_pos (by omega), if_neg hx, if_pos (by omega), w64 (x := (i : Int) + 1) (by omega) (by omega), show (i : Int) + 1 = ((i + 1 : Nat) : Int) by omega]
        exact h K
theorem basis_both {d q : Int} (h : okF d q = true) (l : List Int) (hl : ∀ x ∈ l, 0 ≤ x ∧ x < S d) : ∃ b : Bool, ∀ K, 200 ≤ K → spec_l01Basis.f K d q l = some b ∧ ∃ R : List Int, impl_Field_coordinates.f K d q l = some R ∧ (!R.isEmpty) = b := by
  obtain ⟨h1, h5, _⟩ := okF_range h
  by_cases hlen : (l.length : Int) = d
  · obtain ⟨D, hD⟩ : ∃ D : Nat, (D : Int) = d := ⟨d.toNat, by omega⟩
    obtain ⟨L, hL⟩ : ∃ L : List Nat, T L = l := ⟨l.map Int.toNat, of_T l fun x hx => (hl x hx).1⟩
    subst hD hL
    rw [len_T] at hlen
    have hs : ∀ x ∈ L, x < 2 ^ D := fun x hx => by
      have h := (hl (x : Int) (List.mem_map.2 ⟨x, hx, rfl⟩)).2
      unfold S at h
      rw [Int.toNat_natCast] at h
      exact_mod_cast h
    have hp : 2 ^ D ≤ 32 := Nat.pow_le_pow_right (n := 2) (j := 5) (by omega) (by omega)
    have hp1 : 1 ≤ 2 ^ D := Nat.one_le_two_pow
    have hs' : ∀ x ∈ L, x < 1024 := fun x hx => by have := hs x hx; omega
    obtain ⟨b, hb, e1⟩ := spec_l (d := D) (q := q) (by omega) (by omega) L (by omega) hs' (2 ^ D - 1) 1 (by omega)
    obtain ⟨R, hR, e2⟩ := impl_l (d := D) (by omega) (by omega) L (by omega) hs (2 ^ D) 0 (List.replicate (2 ^ D) 0) [] (by omega) (by simp) rfl (fun v => by simp)
    have hZ : b = true ↔ ¬ (R.isEmpty = true) := by
      rw [hb, hR]
      constructor
      · rintro hz ⟨x, _, hx, y, hy, hv⟩
        have hxy : x ^^^ y ≠ 0 := fun e => by
          have : x = y := by
            have h := xx x y
            rw [e, Nat.zero_xor] at h
            exact h.symm
          omega
        refine hz (x ^^^ y) (by omega) (Nat.xor_lt_two_pow hx (by omega)) ?_
        rw [cmb_xor, hv, Nat.xor_self]
      · intro hz x h0 hx hv
        exact hz ⟨x, by omega, hx, 0, by omega, by rw [cmb_zero, hv]⟩
    refine ⟨b, fun K hK => ⟨?_, R, ?_, ?_⟩⟩
    · unfold spec_l01Basis.f
      rw [len_T, if_pos (by omega)]
      obtain ⟨j, rfl⟩ : ∃ j, K = j + (2 ^ D - 1) + 20 := ⟨K - 20 - (2 ^ D - 1), by omega⟩
      exact e1 j
    · have hcn : impl_Field_count.f (D : Int) q = some ((2 ^ D : Nat) : Int) := by
        unfold impl_Field_count.f
        rw [if_pos (by omega), shl_T (by omega)]
      unfold impl_Field_coordinates.f impl_size_int64.f
      simp only [Option.bind_some]
      rw [len_T, if_pos (by omega), hcn]
      simp only [Option.bind_some]
      rw [if_pos (by omega), if_pos (by omega), Int.toNat_natCast]
      obtain ⟨j, rfl⟩ : ∃ j, K = j + 2 ^ D + 20 := ⟨K - 20 - 2 ^ D, by omega⟩
      exact e2 j
    · cases b with
      | true => rw [Bool.eq_false_iff.2 (hZ.1 rfl)]; rfl
      | false =>
        have : R.isEmpty = true := Classical.byContradiction fun e => by have := hZ.2 e; cases this
        rw [this]; rfl
  · refine ⟨false, fun K hK => ⟨?_, [], ?_, rfl⟩⟩
    · unfold spec_l01Basis.f
      rw [if_neg hlen]
    · unfold impl_Field_coordinates.f impl_size_int64.f
      simp only [Option.bind_some]
      rw [if_neg hlen]
theorem both (d q : Int) (l : List Int) (hl : l.length ≤ 1048576) : ∃ (b : Bool) (e : Int), ∀ K, l.length + 300 ≤ K → spec_IsBasis.f K d q l = some (b, e) ∧ impl_IsBasis.f K d q l = some (b, e) := by
  by_cases hc : codeF d q true l = 0
  · have hok : okF d q = true ∧ l.all (inF d) = true := by
      unfold codeF at hc
      by_cases h1 : okF d q = true
      · rw [if_pos h1] at hc
        by_cases h2 : l.all (inF d) = true
        · exact ⟨h1, h2⟩
        · rw [if_neg h2] at hc; cases hc
      · rw [if_neg h1] at hc; cases hc
    obtain ⟨b, hb⟩ := basis_both hok.1 l (fun x hx => inF_iff.1 (List.all_eq_true.1 hok.2 x hx))
    refine ⟨b, 0, fun K hK => ?_⟩
    obtain ⟨e1, R, e2, e3⟩ := hb K (by omega)
    constructor
    · unfold spec_IsBasis.f
      rw [list_tells d q l hl K (by omega), hc]
      simp only [Option.bind_some, if_true]
      rw [e1]; rfl
    · unfold impl_IsBasis.f
      rw [code_tells d q true l K (by omega), hc]
      simp only [Option.bind_some, if_true]
      rw [e2]
      simp only [Option.bind_some]
      rw [e3]
  · refine ⟨false, codeF d q true l, fun K hK => ?_⟩
    constructor
    · unfold spec_IsBasis.f
      rw [list_tells d q l hl K (by omega)]
      simp only [Option.bind_some]
      rw [if_neg hc]
    · unfold impl_IsBasis.f
      rw [code_tells d q true l K (by omega)]
      simp only [Option.bind_some]
      rw [if_neg hc]
theorem main : laws_FnExactIsBasis.Pure := by
  intro d q l _ _ hl _
  by_cases h1 : (l.length : Int) > 1048576
  · exact ⟨0, by unfold laws_FnExactIsBasis.f; rw [if_pos h1]⟩
  · obtain ⟨b, e, hb⟩ := both d q l (by omega)
    refine ⟨l.length + 4000, ?_⟩
    generalize hK : l.length + 4000 = K
    unfold laws_FnExactIsBasis.f
    rw [if_neg h1]
    simp only [Option.bind_some, laws_toField.f]
    rw [laws_toInt64S.tells l (by omega) _ (by omega)]
    simp only [Option.bind_some]
    rw [(hb K (by omega)).1]
    simp only [Option.bind_some]
    rw [(hb K (by omega)).2]
    simp only [Option.bind_some]
    rw [bne_self_eq_false, bne_self_eq_false, if_neg (by decide)]
    obtain ⟨K, rfl⟩ : ∃ m, K = m + 1 := ⟨K - 1, by omega⟩
    simp only [laws_FnExactIsBasis.j0]
    rw [if_neg (by decide), laws_toInt64S.tells l (by omega) _ (by omega)]
    simp only [Option.bind_some]
    rw [laws_eqInt64S.tells l l (by omega) _ (by omega)]
    simp
end Go.Proofs.Ytaopplbahakpgaa.PureFnExactIsBasis
namespace Go.Proofs.Ytaopplbahakpgaa.Pure
open Go.Proofs.Ytaopplbahakpgaa.PFnExactIsBasis
theorem FnExactIsBasis : laws_FnExactIsBasis.Pure := PureFnExactIsBasis.main
end Go.Proofs.Ytaopplbahakpgaa.Pure
