/- In every drawn field products do not depend on the order, are those of sums and associate; 1 is neutral; all elements but 0 have inverses; and the fields of a degree are valid, irreducible, and led by the least (beyond 3000 bytes the law itself asks nothing). -/
import Derived.Test.YtkebapmicgkcdaaPFnFieldsx10
namespace Go.Proofs.Ytkebapmicgkcdaa.PureFnFields
open Go.RowKit Go.Proofs.Ytkebapmicgkcdaa.PFnFields Go.Proofs.YtkebapmicgkcdaaW.PrintWords Go.Proofs.YtkebapmicgkcdaaW.PrintLast Go.Proofs.YtkebapmicgkcdaaW.PrintMore
set_option linter.unusedVariables false
set_option linter.unusedSimpArgs false
theorem w64 {x : Int} (h0 : -9223372036854775808 ≤ x) (h1 : x ≤ 9223372036854775807) : wrap64 x = x := by unfold wrap64; omega
theorem rd_drop (l : List Int) (i : Int) (h0 : 0 ≤ i) (h1 : i < (l.length : Int)) : l.drop i.toNat = rd l i :: l.drop (i + 1).toNat := by
  have hl : i.toNat < l.length := by omega
  rw [List.drop_eq_getElem_cons hl]
  have e : (i + 1).toNat = i.toNat + 1 := by omega
  rw [e]
  congr 1
  unfold rd
  rw [List.getD_eq_getElem?_getD, List.getElem?_eq_getElem hl]; rfl
theorem wf64 {x : Int} (h : (Lit.int .i64 x).wf = true) : -9223372036854775808 ≤ x ∧ x ≤ 9223372036854775807 := by
  simp [Lit.wf, IntKind.min, IntKind.max, IntKind.signed, IntKind.bits] at h; omega
theorem maxLen_eq : maxLen = 9223372036854775807 := by unfold maxLen; rfl
def T (L : List Nat) : List Int := L.map (fun n : Nat => (n : Int))
theorem len_T (L : List Nat) : (T L).length = L.length := by simp [T]
theorem rd_T (L : List Nat) (i : Nat) : rd (T L) (i : Int) = ((L.getD i 0 : Nat) : Int) := by
  unfold rd T
  rw [List.getD_eq_getElem?_getD, List.getD_eq_getElem?_getD, List.getElem?_map, Int.toNat_natCast]
  cases L[i]? <;> rfl
theorem set_T (L : List Nat) (i n : Nat) : (T L).set (i : Int).toNat (n : Int) = T (L.set i n) := by
  unfold T; rw [Int.toNat_natCast, List.map_set]
theorem i64_small (n : Int) (h0 : 0 ≤ n) (h1 : n < 2 ^ 10) : IntKind.i64.wrap n = n := by rw [IntKind.wrap_i64]; omega
theorem xor_T {a b : Nat} (ha : a < 1024) (hb : b < 1024) : Go.bits .xor .i64 (a : Int) (b : Int) = ((a ^^^ b : Nat) : Int) := by
  have ha' : a % 2 ^ IntKind.i64.bits = a := Nat.mod_eq_of_lt (by simp [IntKind.bits]; omega)
  have hb' : b % 2 ^ IntKind.i64.bits = b := Nat.mod_eq_of_lt (by simp [IntKind.bits]; omega)
  have hx : a ^^^ b < 2 ^ 10 := Nat.xor_lt_two_pow (n := 10) ha hb
  simp only [bits, BitVec.ofInt_natCast, BitVec.toNat_xor, BitVec.toNat_ofNat, ha', hb']
  exact i64_small _ (Int.natCast_nonneg _) (by exact_mod_cast hx)
theorem uw {x : Int} (h0 : 0 ≤ x) (h1 : x ≤ 20) : IntKind.u64.wrap x = x := by
  have h : ∀ i : Fin 21, IntKind.u64.wrap (i.val : Int) = (i.val : Int) := by decide +kernel
  have := h ⟨x.toNat, by omega⟩
  simp only [show ((x.toNat : Nat) : Int) = x by omega] at this
  exact this
def Sp : List Nat → Nat → Prop
  | [], w => w = 0
  | x :: L, w => Sp L w ∨ Sp L (w ^^^ x)
theorem sp_zero : ∀ L : List Nat, Sp L 0
  | [] => rfl
  | _ :: L => Or.inl (sp_zero L)
theorem xx (a b : Nat) : a ^^^ b ^^^ b = a := by rw [Nat.xor_assoc, Nat.xor_self, Nat.xor_zero]
theorem sp_xor : ∀ (L : List Nat) {a b : Nat}, Sp L a → Sp L b → Sp L (a ^^^ b)
  | [], a, b, ha, hb => by
    have h1 : a = 0 := ha
    have h2 : b = 0 := hb
    subst h1 h2; rfl
  | x :: L, a, b, ha, hb => by
    rcases ha with ha | ha <;> rcases hb with hb | hb
    · exact Or.inl (sp_xor L ha hb)
    · refine Or.inr ?_
      have := sp_xor L ha hb
      rwa [← Nat.xor_assoc] at this
    · refine Or.inr ?_
      have := sp_xor L ha hb
      rwa [show a ^^^ x ^^^ b = a ^^^ b ^^^ x by rw [Nat.xor_assoc, Nat.xor_comm x b, ← Nat.xor_assoc]] at this
    · refine Or.inl ?_
      have := sp_xor L ha hb
      rwa [show a ^^^ x ^^^ (b ^^^ x) = a ^^^ b by rw [Nat.xor_comm b x, ← Nat.xor_assoc, xx]] at this
theorem sp_mem : ∀ (L : List Nat) {x : Nat}, x ∈ L → Sp L x
  | y :: L, x, h => by
    rcases List.mem_cons.1 h with rfl | h
    · exact Or.inr (by rw [Nat.xor_self]; exact sp_zero L)
    · exact Or.inl (sp_mem L h)
theorem sp_min {V : Nat → Prop} (h0 : V 0) (hx : ∀ a b, V a → V b → V (a ^^^ b)) : ∀ (L : List Nat) {w : Nat}, (∀ x ∈ L, V x) → Sp L w → V w
  | [], w, _, h => by have : w = 0 := h; rw [this]; exact h0
  | x :: L, w, hm, h => by
    rcases h with h | h
    · exact sp_min h0 hx L (fun y hy => hm y (List.mem_cons_of_mem _ hy)) h
    · have h1 := sp_min h0 hx L (fun y hy => hm y (List.mem_cons_of_mem _ hy)) h
      have := hx _ _ h1 (hm x List.mem_cons_self)
      rwa [xx] at this
def fB (k l w : Nat) : Nat := if w.testBit k = true then w ^^^ l else w
theorem fB_bit {k l : Nat} (hl : l.testBit k = true) (w : Nat) : (fB k l w).testBit k = false := by
  unfold fB
  cases h : w.testBit k with
  | true => rw [if_pos rfl, Nat.testBit_xor, h, hl]; rfl
  | false => rw [if_neg (by decide), h]
theorem fB_xor {k l : Nat} (hl : l.testBit k = true) (a b : Nat) : fB k l (a ^^^ b) = fB k l a ^^^ fB k l b := by
  unfold fB
  rw [Nat.testBit_xor]
  cases ha : a.testBit k <;> cases hb : b.testBit k <;> simp
  · rw [Nat.xor_assoc]
  · rw [Nat.xor_assoc, Nat.xor_comm b l, ← Nat.xor_assoc]
  · rw [Nat.xor_comm b l, ← Nat.xor_assoc, xx]
theorem fB_sp {k l : Nat} {L : List Nat} (hl : Sp L l) {w : Nat} (hw : Sp L w) : Sp L (fB k l w) := by
  unfold fB
  split
  · exact sp_xor L hw hl
  · exact hw
/-- the span of what is left, behind a column with a lead -/
theorem sp_lead {k l : Nat} {L M : List Nat} (hl : l.testBit k = true) (ha : ∀ y ∈ M, Sp L y ∧ y.testBit k = false) (hb : ∀ x ∈ L, Sp M (fB k l x)) (w : Nat) : Sp M w ↔ Sp L w ∧ w.testBit k = false := by
  constructor
  · exact sp_min (V := fun w => Sp L w ∧ w.testBit k = false) ⟨sp_zero L, by simp⟩ (fun a b h1 h2 => ⟨sp_xor L h1.1 h2.1, by rw [Nat.testBit_xor, h1.2, h2.2]; rfl⟩) M ha
  · rintro ⟨h1, h2⟩
    have := sp_min (V := fun w => Sp M (fB k l w)) (by show Sp M (fB k l 0); have : fB k l 0 = 0 := by unfold fB; simp
                                                       rw [this]; exact sp_zero M) (fun a b h1 h2 => by show Sp M (fB k l (a ^^^ b)); rw [fB_xor hl]; exact sp_xor M h1 h2) L hb h1
    have e : fB k l w = w := by unfold fB; rw [h2]; rfl
    rwa [e] at this
theorem sp_low {L : List Nat} {k : Nat} (h : ∀ x ∈ L, x.testBit k = false) {w : Nat} (hw : Sp L w) : w.testBit k = false :=
  sp_min (V := fun w => w.testBit k = false) (by simp) (fun a b h1 h2 => by rw [Nat.testBit_xor, h1, h2]; rfl) L h hw
theorem sp_small {L : List Nat} {c : Nat} (h : ∀ x ∈ L, x < 2 ^ c) {w : Nat} (hw : Sp L w) : w < 2 ^ c :=
  sp_min (V := fun w => w < 2 ^ c) (Nat.two_pow_pos c) (fun a b h1 h2 => Nat.xor_lt_two_pow h1 h2) L h hw
theorem getD_map_append (f : Nat → Nat) (hf : f 0 = 0) (L : List Nat) (l j : Nat) : (L.map f ++ [l]).getD j 0 = if j = L.length then l else f (L.getD j 0) := by
  rw [List.getD_eq_getElem?_getD, List.getD_eq_getElem?_getD]
  by_cases h : j < L.length
  · rw [if_neg (by omega), List.getElem?_append_left (by simpa using h), List.getElem?_map]
    rw [List.getElem?_eq_getElem h]; rfl
  · by_cases e : j = L.length
    · rw [if_pos e, List.getElem?_append_right (by simp; omega)]
      simp [e]
    · rw [if_neg e, List.getElem?_eq_none (by simp; omega), List.getElem?_eq_none (by omega)]
      simp [hf]
theorem fB_small {c k l w : Nat} (hl : l < 2 ^ c) (hw : w < 2 ^ c) : fB k l w < 2 ^ c := by
  unfold fB
  split
  · exact Nat.xor_lt_two_pow hw hl
  · exact hw
theorem fB_zero (k l : Nat) : fB k l 0 = 0 := by unfold fB; simp
theorem getD_lt (L : List Nat) (i : Nat) (h : i < L.length) : L.getD i 0 = L[i] := by
  rw [List.getD_eq_getElem?_getD, List.getElem?_eq_getElem h]; rfl
/-- the sum of the rows that a number's bits tell -/
def cmb : List Nat → Nat → Nat → Nat
  | [], _, _ => 0
  | x :: L, i, h => (if h.testBit i = true then x else 0) ^^^ cmb L (i + 1) h
theorem cmb_xor : ∀ (L : List Nat) (i a b : Nat), cmb L i (a ^^^ b) = cmb L i a ^^^ cmb L i b
  | [], _, _, _ => by simp [cmb]
  | x :: L, i, a, b => by
    simp only [cmb]
    rw [cmb_xor L (i + 1) a b, Nat.testBit_xor]
    cases ha : a.testBit i <;> cases hb : b.testBit i <;> simp
    · ac_rfl
    · ac_rfl
    · rw [show x ^^^ cmb L (i + 1) a ^^^ (x ^^^ cmb L (i + 1) b) = (x ^^^ x) ^^^ (cmb L (i + 1) a ^^^ cmb L (i + 1) b) by ac_rfl, Nat.xor_self, Nat.zero_xor]
theorem cmb_zero : ∀ (L : List Nat) (i : Nat), cmb L i 0 = 0
  | [], _ => rfl
  | x :: L, i => by simp only [cmb]; rw [cmb_zero L]; simp
theorem cmb_small {c : Nat} : ∀ (L : List Nat) (i h : Nat), (∀ x ∈ L, x < 2 ^ c) → cmb L i h < 2 ^ c
  | [], _, _, _ => Nat.two_pow_pos c
  | x :: L, i, h, hs => by
    refine Nat.xor_lt_two_pow ?_ (cmb_small L (i + 1) h fun y hy => hs y (List.mem_cons_of_mem _ hy))
    split
    · exact hs x List.mem_cons_self
    · exact Nat.two_pow_pos c
theorem cmb_low : ∀ (L : List Nat) (i j : Nat), j < i → cmb L i (2 ^ j) = 0
  | [], _, _, _ => rfl
  | x :: L, i, j, h => by
    simp only [cmb]
    rw [cmb_low L (i + 1) j (by omega), Nat.testBit_two_pow, if_neg (by simp; omega)]; rfl
theorem cmb_pow : ∀ (L : List Nat) (i j : Nat), cmb L i (2 ^ (i + j)) = L.getD j 0
  | [], _, _ => by simp [cmb]
  | x :: L, i, 0 => by
    simp only [cmb]
    rw [cmb_low L (i + 1) (i + 0) (by omega), Nat.testBit_two_pow, if_pos (by simp)]; simp
  | x :: L, i, j + 1 => by
    simp only [cmb]
    rw [show i + (j + 1) = i + 1 + j by omega, cmb_pow L (i + 1) j, Nat.testBit_two_pow, if_neg (by simp; omega)]; simp
theorem cmb_pow0 (L : List Nat) (j : Nat) : cmb L 0 (2 ^ j) = L.getD j 0 := by
  have := cmb_pow L 0 j
  rwa [Nat.zero_add] at this
theorem sp_cmb : ∀ (L : List Nat) (i h : Nat), Sp L (cmb L i h)
  | [], _, _ => rfl
  | x :: L, i, h => by
    simp only [cmb]
    by_cases hb : h.testBit i = true
    · rw [if_pos hb]
      exact Or.inr (by rw [Nat.xor_comm, ← Nat.xor_assoc, Nat.xor_self, Nat.zero_xor]; exact sp_cmb L (i + 1) h)
    · rw [if_neg hb, Nat.zero_xor]
      exact Or.inl (sp_cmb L (i + 1) h)
theorem cmb_high (L : List Nat) : ∀ (i h h' : Nat), (∀ b, i ≤ b → h.testBit b = h'.testBit b) → cmb L i h = cmb L i h' := by
  induction L with
  | nil => intro i h h' _; rfl
  | cons x L ih =>
    intro i h h' e
    simp only [cmb]
    rw [e i (Nat.le_refl _), ih (i + 1) h h' fun b hb => e b (by omega)]
theorem sp_is : ∀ (L : List Nat) (i w : Nat), Sp L w → ∃ h, (∀ b, b < i → h.testBit b = false) ∧ w = cmb L i h
  | [], i, w, h => ⟨0, fun b _ => by simp, h⟩
  | x :: L, i, w, h => by
    rcases h with h | h
    · obtain ⟨u, h1, h2⟩ := sp_is L (i + 1) w h
      refine ⟨u, fun b hb => h1 b (by omega), ?_⟩
      simp only [cmb]
      rw [h1 i (by omega), h2]; simp
    · obtain ⟨u, h1, h2⟩ := sp_is L (i + 1) _ h
      refine ⟨u ^^^ 2 ^ i, fun b hb => ?_, ?_⟩
      · rw [Nat.testBit_xor, h1 b (by omega), Nat.testBit_two_pow]; simp; omega
      · have e : cmb L (i + 1) (u ^^^ 2 ^ i) = cmb L (i + 1) u := by rw [cmb_xor, cmb_low L (i + 1) i (by omega), Nat.xor_zero]
        simp only [cmb]
        rw [e, ← h2, Nat.testBit_xor, h1 i (by omega), Nat.testBit_two_pow, if_pos (by simp), Nat.xor_comm x, xx]
theorem cmb_map (g : Nat → Nat) (g0 : g 0 = 0) (gx : ∀ a b, g (a ^^^ b) = g a ^^^ g b) : ∀ (L : List Nat) (i h : Nat), g (cmb L i h) = cmb (L.map g) i h
  | [], _, _ => g0
  | x :: L, i, h => by
    simp only [cmb, List.map_cons]
    rw [gx, cmb_map g g0 gx L (i + 1) h]
    by_cases hb : h.testBit i = true
    · rw [if_pos hb, if_pos hb]
    · rw [if_neg hb, if_neg hb, g0]
/-- rows of which each has a column of its own: the bits of a sum -/
theorem cmb_bit : ∀ (L : List Nat) (i j h : Nat), (∀ a, a < L.length → (L.getD a 0).testBit j = decide (i + a = j)) → (cmb L i h).testBit j = (decide (i ≤ j ∧ j < i + L.length) && h.testBit j)
  | [], i, j, h, _ => by
    simp only [cmb, List.length_nil, Nat.zero_testBit]
    rw [decide_eq_false (by omega)]; rfl
  | x :: L, i, j, h, hs => by
    have h0 := hs 0 (by simp)
    have ih := cmb_bit L (i + 1) j h fun a ha => by
      have := hs (a + 1) (by simpa using ha)
      rw [List.getD_cons_succ] at this
      rw [this]; congr 1; exact propext ⟨fun _ => by omega, fun _ => by omega⟩
    simp only [cmb]
    rw [Nat.testBit_xor, ih, List.length_cons]
    have h0' : x.testBit j = decide (i = j) := by simpa using h0
    by_cases e : i = j
    · subst e
      rw [decide_eq_false (show ¬ (i + 1 ≤ i ∧ i < i + 1 + L.length) by omega), decide_eq_true (show i ≤ i ∧ i < i + (L.length + 1) by omega)]
      cases hb : h.testBit i <;> simp [h0']
    · have hx : (if h.testBit i = true then x else 0).testBit j = false := by
        split
        · rw [h0', decide_eq_false e]
        · simp
      rw [hx, Bool.false_xor]
      congr 1
      exact decide_eq_decide.2 ⟨fun _ => by omega, fun _ => by omega⟩
def pows : Nat → Nat → List Nat
  | _, 0 => []
  | i, n + 1 => 2 ^ i :: pows (i + 1) n
theorem len_pows : ∀ (n i : Nat), (pows i n).length = n
  | 0, _ => rfl
  | n + 1, i => by rw [pows, List.length_cons, len_pows n]
theorem pows_at : ∀ (n i a : Nat), a < n → (pows i n).getD a 0 = 2 ^ (i + a)
  | 0, _, _, h => by omega
  | n + 1, i, 0, _ => by simp [pows]
  | n + 1, i, a + 1, h => by
    rw [pows, List.getD_cons_succ, pows_at n (i + 1) a (by omega)]
    congr 1; omega
theorem list_eq {A B : List Nat} (hl : A.length = B.length) (h : ∀ a, a < A.length → A.getD a 0 = B.getD a 0) : A = B := by
  refine List.ext_getElem hl fun i h1 h2 => ?_
  have := h i h1
  rwa [getD_lt A i h1, getD_lt B i h2] at this
theorem cmb_pows (n h : Nat) (hh : h < 2 ^ n) : cmb (pows 0 n) 0 h = h := by
  refine Nat.eq_of_testBit_eq fun j => ?_
  by_cases hj : j < n
  · rw [cmb_bit (pows 0 n) 0 j h fun a ha => by
      rw [len_pows] at ha
      rw [pows_at n 0 a ha, Nat.zero_add, Nat.testBit_two_pow], len_pows, decide_eq_true (by omega)]; rfl
  · have h1 : cmb (pows 0 n) 0 h < 2 ^ n := cmb_small _ _ _ fun x hx => by
      obtain ⟨a, ha, rfl⟩ := List.getElem_of_mem hx
      rw [len_pows] at ha
      rw [← getD_lt _ a (by rw [len_pows]; exact ha), pows_at n 0 a ha]
      exact Nat.pow_lt_pow_right (by omega) (by omega)
    rw [Nat.testBit_lt_two_pow (Nat.lt_of_lt_of_le h1 (Nat.pow_le_pow_right (by omega) (by omega))), Nat.testBit_lt_two_pow (Nat.lt_of_lt_of_le hh (Nat.pow_le_pow_right (by omega) (by omega)))]
theorem map_at (f : Nat → Nat) (f0 : f 0 = 0) (L : List Nat) (a : Nat) : (L.map f).getD a 0 = f (L.getD a 0) := by
  rw [List.getD_eq_getElem?_getD, List.getD_eq_getElem?_getD, List.getElem?_map]
  cases L[a]? <;> simp [f0]
theorem next_tells (l : List Int) (hb : ∀ x ∈ l, (Lit.int .u8 x).wf = true) (a u : Int) (h0 : 0 ≤ a) (h1 : a ≤ 1000) : ∃ v u' : Int, spec_l00Src_next.f l a u = some (v, a + 1, u') ∧ 0 ≤ v ∧ v ≤ 255 := by
  have and255 : ∀ Y : Int, 0 ≤ Y → Y < 18446744073709551616 → 0 ≤ wrap64 (Go.bits .and .u64 (Y / 1099511627776) 255) ∧ wrap64 (Go.bits .and .u64 (Y / 1099511627776) 255) ≤ 255 := by
    intro Y hY hY2
    obtain ⟨y, hy⟩ : ∃ y : Nat, (y : Int) = Y / 1099511627776 := ⟨(Y / 1099511627776).toNat, by omega⟩
    have hu : ∀ n : Int, 0 ≤ n → n < 2 ^ 24 → IntKind.u64.wrap n = n := fun n e0 e1 => by simp only [IntKind.wrap, IntKind.bits, IntKind.signed]; simp; omega
    have := (bits_nat .u64 24 (by decide) hu y 255 (by omega) (by decide)).1
    rw [← hy, show (255 : Int) = ((255 : Nat) : Int) from rfl, this]
    have hle : y &&& 255 ≤ 255 := Nat.and_le_right
    rw [w64 (by omega) (by omega)]
    omega
  have ub : ∀ n : Int, 0 ≤ IntKind.u64.wrap n ∧ IntKind.u64.wrap n < 18446744073709551616 := fun n => by simp only [IntKind.wrap, IntKind.bits, IntKind.signed]; simp; omega
  unfold spec_l00Src_next.f
  rw [w64 (x := a + 1) (by omega) (by omega)]
  by_cases h : a < (l.length : Int)
  · rw [if_pos h, if_pos h0, if_pos (by omega)]
    refine ⟨_, _, rfl, ?_⟩
    have hm : rd l a ∈ l := by
      have hl : a.toNat < l.length := by omega
      unfold rd
      rw [List.getD_eq_getElem?_getD, List.getElem?_eq_getElem hl]; exact List.getElem_mem hl
    have hw := hb _ hm
    simp [Lit.wf, IntKind.min, IntKind.max, IntKind.signed, IntKind.bits] at hw
    rw [w64 (by omega) (by omega)]
    omega
  · rw [if_neg h, if_neg (by omega)]
    exact ⟨_, _, rfl, and255 _ (ub _).1 (ub _).2⟩
theorem pick_tells (l : List Int) (hb : ∀ x ∈ l, (Lit.int .u8 x).wf = true) (a u n : Int) (h0 : 0 ≤ a) (h1 : a ≤ 1000) (hn : 1 ≤ n) (hn2 : n ≤ 200) : ∃ v a' u' : Int, spec_l00Src_pick.f l a u n = some (v, a', u') ∧ 0 ≤ v ∧ v < n ∧ 0 ≤ a' ∧ a' ≤ a + 1 := by
  unfold spec_l00Src_pick.f
  by_cases h : n ≤ 1
  · rw [if_pos h]
    exact ⟨0, a, u, rfl, by omega, by omega, h0, by omega⟩
  · obtain ⟨v, u', e, v0, v1⟩ := next_tells l hb a u h0 h1
    rw [if_neg h, e]
    simp only [Option.bind_some]
    rw [if_neg (by omega), if_neg (by omega)]
    refine ⟨_, _, _, rfl, ?_⟩
    rw [Int.tmod_eq_emod_of_nonneg v0]
    have := Int.emod_nonneg v (show n ≠ 0 by omega)
    have := Int.emod_lt_of_pos v (show 0 < n by omega)
    omega
theorem shl_T {k : Nat} (hk : k ≤ 20) : shl .i64 1 (k : Int) = ((2 ^ k : Nat) : Int) := by
  have h : ∀ i : Fin 21, shl .i64 1 (i.val : Int) = ((2 ^ i.val : Nat) : Int) := by decide +kernel
  exact h ⟨k, by omega⟩
def flds : List (Nat × Nat) := [(1, 2), (1, 3), (2, 7), (3, 11), (3, 13), (4, 19), (4, 25), (4, 31), (5, 37), (5, 41), (5, 47), (5, 55), (5, 59), (5, 61)]
/-- the powers of x in a field -/
def red (d q : Nat) : Nat → Nat
  | 0 => 1
  | i + 1 => if (2 * red d q i).testBit d = true then (2 * red d q i) ^^^ q else 2 * red d q i
def row (d q b i : Nat) : Nat := cmb [red d q i, red d q (i + 1), red d q (i + 2), red d q (i + 3), red d q (i + 4)] 0 b
/-- the product, sum by sum -/
def nm (d q a b : Nat) : Nat := cmb ([0, 1, 2, 3, 4].map (row d q b)) 0 a
theorem cmb_rows (f : Nat → Nat → Nat) (hf : ∀ a b i, f (a ^^^ b) i = f a i ^^^ f b i) (a b : Nat) : ∀ (L : List Nat) (s h : Nat), cmb (L.map (f (a ^^^ b))) s h = cmb (L.map (f a)) s h ^^^ cmb (L.map (f b)) s h
  | [], _, _ => by simp [cmb]
  | x :: L, s, h => by
    simp only [List.map_cons, cmb]
    rw [cmb_rows f hf a b L (s + 1) h, hf]
    cases h.testBit s <;> simp
    ac_rfl
theorem cmb_none (f : Nat → Nat) (hf : ∀ i, f i = 0) : ∀ (L : List Nat) (s h : Nat), cmb (L.map f) s h = 0
  | [], _, _ => rfl
  | x :: L, s, h => by
    simp only [List.map_cons, cmb]
    rw [cmb_none f hf L (s + 1) h, hf]; simp
theorem nm_left (d q a a' b : Nat) : nm d q (a ^^^ a') b = nm d q a b ^^^ nm d q a' b := cmb_xor _ _ _ _
theorem nm_right (d q a b b' : Nat) : nm d q a (b ^^^ b') = nm d q a b ^^^ nm d q a b' := cmb_rows (row d q) (fun a b i => cmb_xor _ _ _ _) b b' _ _ _
theorem nm_zero_left (d q b : Nat) : nm d q 0 b = 0 := cmb_zero _ _
theorem nm_zero_right (d q a : Nat) : nm d q a 0 = 0 := cmb_none (row d q 0) (fun i => cmb_zero _ _) _ _ _
theorem lin_ext {f g : Nat → Nat} (f0 : f 0 = 0) (fx : ∀ a b, f (a ^^^ b) = f a ^^^ f b) (g0 : g 0 = 0) (gx : ∀ a b, g (a ^^^ b) = g a ^^^ g b) {d : Nat} (h : ∀ j < d, f (2 ^ j) = g (2 ^ j)) : ∀ c < 2 ^ d, f c = g c := fun c hc => by
  rw [← cmb_pows d c hc, cmb_map f f0 fx, cmb_map g g0 gx]
  congr 1
  refine List.map_congr_left fun x hx => ?_
  obtain ⟨a, ha, rfl⟩ := List.getElem_of_mem hx
  have hl := ha
  rw [len_pows] at ha
  rw [← getD_lt _ a hl, pows_at d 0 a ha, Nat.zero_add]
  exact h a ha
def baseOK (d q : Nat) : Bool := ((List.range d).all fun i => nm d q (2 ^ i) 1 == 2 ^ i && (List.range d).all fun j => nm d q (2 ^ i) (2 ^ j) == nm d q (2 ^ j) (2 ^ i) && (List.range d).all fun l => nm d q (nm d q (2 ^ i) (2 ^ j)) (2 ^ l) == nm d q (2 ^ i) (nm d q (2 ^ j) (2 ^ l))) && decide (1 ≤ d) && decide (d ≤ 5)
def mulOK (d q : Nat) : Bool := (impl_ValidField.f 60 (d : Int) (q : Int) == some true) && (List.range (2 ^ d)).all fun a => (List.range (2 ^ d)).all fun b =>
  match impl_Field_mul.f 100 (d : Int) (q : Int) (a : Int) (b : Int) with
  | some r => r == (nm d q a b : Int) && decide (nm d q a b < 2 ^ d)
  | none => false
def invOK (d q : Nat) : Bool := (List.range (2 ^ d)).all fun a =>
  match impl_InverseIn.f 150 (d : Int) (q : Int) (a : Int) with
  | some (i, e) => if a = 0 then e == 4 else e == 0 && decide (1 ≤ i) && decide (i < 2 ^ d) && nm d q a i.toNat == 1
  | none => false
def tailOK (d q : Nat) : Bool := (laws_FnFields.j3 200 (d : Int) (q : Int) == some true) && (laws_FnFields.j3 199 (d : Int) (q : Int) == some true)
theorem baseOK_1_2 : baseOK 1 2 = true := by decide +kernel
theorem baseOK_1_3 : baseOK 1 3 = true := by decide +kernel
theorem baseOK_2_7 : baseOK 2 7 = true := by decide +kernel
theorem baseOK_3_11 : baseOK 3 11 = true := by decide +kernel
theorem baseOK_3_13 : baseOK 3 13 = true := by decide +kernel
theorem baseOK_4_19 : baseOK 4 19 = true := by decide +kernel
theorem baseOK_4_25 : baseOK 4 25 = true := by decide +kernel
theorem baseOK_4_31 : baseOK 4 31 = true := by decide +kernel
theorem baseOK_5_37 : baseOK 5 37 = true := by decide +kernel
theorem baseOK_5_41 : baseOK 5 41 = true := by decide +kernel
theorem baseOK_5_47 : baseOK 5 47 = true := by decide +kernel
theorem baseOK_5_55 : baseOK 5 55 = true := by decide +kernel
theorem baseOK_5_59 : baseOK 5 59 = true := by decide +kernel
theorem baseOK_5_61 : baseOK 5 61 = true := by decide +kernel
theorem baseOK_all : flds.all (fun f => baseOK f.1 f.2) = true := by
  unfold flds
  simp only [List.all_cons, List.all_nil, baseOK_1_2, baseOK_1_3, baseOK_2_7, baseOK_3_11, baseOK_3_13, baseOK_4_19, baseOK_4_25, baseOK_4_31, baseOK_5_37, baseOK_5_41, baseOK_5_47, baseOK_5_55, baseOK_5_59, baseOK_5_61, Bool.and_self]
theorem mulOK_1_2 : mulOK 1 2 = true := by decide +kernel
theorem mulOK_1_3 : mulOK 1 3 = true := by decide +kernel
theorem mulOK_2_7 : mulOK 2 7 = true := by decide +kernel
theorem mulOK_3_11 : mulOK 3 11 = true := by decide +kernel
theorem mulOK_3_13 : mulOK 3 13 = true := by decide +kernel
theorem mulOK_4_19 : mulOK 4 19 = true := by decide +kernel
theorem mulOK_4_25 : mulOK 4 25 = true := by decide +kernel
theorem mulOK_4_31 : mulOK 4 31 = true := by decide +kernel
theorem mulOK_5_37 : mulOK 5 37 = true := by decide +kernel
theorem mulOK_5_41 : mulOK 5 41 = true := by decide +kernel
theorem mulOK_5_47 : mulOK 5 47 = true := by decide +kernel
theorem mulOK_5_55 : mulOK 5 55 = true := by decide +kernel
theorem mulOK_5_59 : mulOK 5 59 = true := by decide +kernel
theorem mulOK_5_61 : mulOK 5 61 = true := by decide +kernel
theorem mulOK_all : flds.all (fun f => mulOK f.1 f.2) = true := by
  unfold flds
  simp only [List.all_cons, List.all_nil, mulOK_1_2, mulOK_1_3, mulOK_2_7, mulOK_3_11, mulOK_3_13, mulOK_4_19, mulOK_4_25, mulOK_4_31, mulOK_5_37, mulOK_5_41, mulOK_5_47, mulOK_5_55, mulOK_5_59, mulOK_5_61, Bool.and_self]
theorem invOK_1_2 : invOK 1 2 = true := by decide +kernel
theorem invOK_1_3 : invOK 1 3 = true := by decide +kernel
theorem invOK_2_7 : invOK 2 7 = true := by decide +kernel
theorem invOK_3_11 : invOK 3 11 = true := by decide +kernel
theorem invOK_3_13 : invOK 3 13 = true := by decide +kernel
theorem invOK_4_19 : invOK 4 19 = true := by decide +kernel
theorem invOK_4_25 : invOK 4 25 = true := by decide +kernel
theorem invOK_4_31 : invOK 4 31 = true := by decide +kernel
theorem invOK_5_37 : invOK 5 37 = true := by decide +kernel
theorem invOK_5_41 : invOK 5 41 = true := by decide +kernel
theorem invOK_5_47 : invOK 5 47 = true := by decide +kernel
theorem invOK_5_55 : invOK 5 55 = true := by decide +kernel
theorem invOK_5_59 : invOK 5 59 = true := by decide +kernel
theorem invOK_5_61 : invOK 5 61 = true := by decide +kernel
theorem invOK_all : flds.all (fun f => invOK f.1 f.2) = true := by
  unfold flds
  simp only [List.all_cons, List.all_nil, invOK_1_2, invOK_1_3, invOK_2_7, invOK_3_11, invOK_3_13, invOK_4_19, invOK_4_25, invOK_4_31, invOK_5_37, invOK_5_41, invOK_5_47, invOK_5_55, invOK_5_59, invOK_5_61, Bool.and_self]
theorem tailOK_1_2 : tailOK 1 2 = true := by decide +kernel
theorem tailOK_1_3 : tailOK 1 3 = true := by decide +kernel
theorem tailOK_2_7 : tailOK 2 7 = true := by decide +kernel
theorem tailOK_3_11 : tailOK 3 11 = true := by decide +kernel
theorem tailOK_3_13 : tailOK 3 13 = true := by decide +kernel
theorem tailOK_4_19 : tailOK 4 19 = true := by decide +kernel
theorem tailOK_4_25 : tailOK 4 25 = true := by decide +kernel
theorem tailOK_4_31 : tailOK 4 31 = true := by decide +kernel
theorem tailOK_5_37 : tailOK 5 37 = true := by decide +kernel
theorem tailOK_5_41 : tailOK 5 41 = true := by decide +kernel
theorem tailOK_5_47 : tailOK 5 47 = true := by decide +kernel
theorem tailOK_5_55 : tailOK 5 55 = true := by decide +kernel
theorem tailOK_5_59 : tailOK 5 59 = true := by decide +kernel
theorem tailOK_5_61 : tailOK 5 61 = true := by decide +kernel
theorem tailOK_all : flds.all (fun f => tailOK f.1 f.2) = true := by
  unfold flds
  simp only [List.all_cons, List.all_nil, tailOK_1_2, tailOK_1_3, tailOK_2_7, tailOK_3_11, tailOK_3_13, tailOK_4_19, tailOK_4_25, tailOK_4_31, tailOK_5_37, tailOK_5_41, tailOK_5_47, tailOK_5_55, tailOK_5_59, tailOK_5_61, Bool.and_self]
theorem base_of {d q : Nat} (hf : (d, q) ∈ flds) : 1 ≤ d ∧ d ≤ 5 ∧ ∀ i < d, nm d q (2 ^ i) 1 = 2 ^ i ∧ ∀ j < d, nm d q (2 ^ i) (2 ^ j) = nm d q (2 ^ j) (2 ^ i) ∧ ∀ l < d, nm d q (nm d q (2 ^ i) (2 ^ j)) (2 ^ l) = nm d q (2 ^ i) (nm d q (2 ^ j) (2 ^ l)) := by
  have h := List.all_eq_true.1 baseOK_all _ hf
  simp only [baseOK, Bool.and_eq_true, decide_eq_true_eq, List.all_eq_true, List.mem_range, beq_iff_eq] at h
  exact ⟨h.1.2, h.2, fun i hi => ⟨(h.1.1 i hi).1, fun j hj => ⟨((h.1.1 i hi).2 j hj).1, fun l hl => ((h.1.1 i hi).2 j hj).2 l hl⟩⟩⟩
theorem nm_comm {d q : Nat} (hf : (d, q) ∈ flds) {a b : Nat} (ha : a < 2 ^ d) (hb : b < 2 ^ d) : nm d q a b = nm d q b a := by
  obtain ⟨_, _, h⟩ := base_of hf
  refine lin_ext (f := fun a => nm d q a b) (g := fun a => nm d q b a) (nm_zero_left _ _ _) (fun a a' => nm_left _ _ _ _ _) (nm_zero_right _ _ _) (fun a a' => nm_right _ _ _ _ _) (fun i hi => ?_) a ha
  exact lin_ext (f := fun b => nm d q (2 ^ i) b) (g := fun b => nm d q b (2 ^ i)) (nm_zero_right _ _ _) (fun a a' => nm_right _ _ _ _ _) (nm_zero_left _ _ _) (fun a a' => nm_left _ _ _ _ _) (fun j hj => ((h i hi).2 j hj).1) b hb
theorem nm_assoc {d q : Nat} (hf : (d, q) ∈ flds) {a b c : Nat} (ha : a < 2 ^ d) (hb : b < 2 ^ d) (hc : c < 2 ^ d) : nm d q (nm d q a b) c = nm d q a (nm d q b c) := by
  obtain ⟨_, _, h⟩ := base_of hf
  refine lin_ext (f := fun a => nm d q (nm d q a b) c) (g := fun a => nm d q a (nm d q b c)) (by simp only [nm_zero_left]) (fun a a' => by simp only [nm_left]) (nm_zero_left _ _ _) (fun a a' => nm_left _ _ _ _ _) (fun i hi => ?_) a ha
  refine lin_ext (f := fun b => nm d q (nm d q (2 ^ i) b) c) (g := fun b => nm d q (2 ^ i) (nm d q b c)) (by simp only [nm_zero_left, nm_zero_right]) (fun a a' => by simp only [nm_left, nm_right]) (by simp only [nm_zero_left, nm_zero_right]) (fun a a' => by simp only [nm_left, nm_right]) (fun j hj => ?_) b hb
  exact lin_ext (f := fun c => nm d q (nm d q (2 ^ i) (2 ^ j)) c) (g := fun c => nm d q (2 ^ i) (nm d q (2 ^ j) c)) (nm_zero_right _ _ _) (fun a a' => nm_right _ _ _ _ _) (by simp only [nm_zero_right]) (fun a a' => by simp only [nm_right]) (fun l hl => ((h i hi).2 j hj).2 l hl) c hc
theorem nm_one {d q : Nat} (hf : (d, q) ∈ flds) {a : Nat} (ha : a < 2 ^ d) : nm d q a 1 = a := by
  obtain ⟨_, _, h⟩ := base_of hf
  exact lin_ext (f := fun a => nm d q a 1) (g := fun a => a) (nm_zero_left _ _ _) (fun a a' => nm_left _ _ _ _ _) rfl (fun _ _ => rfl) (fun i hi => (h i hi).1) a ha
theorem mul_of {d q : Nat} (hf : (d, q) ∈ flds) : impl_ValidField.f 60 (d : Int) (q : Int) = some true ∧ ∀ a : Nat, a < 2 ^ d → ∀ b : Nat, b < 2 ^ d → impl_Field_mul.f 100 (d : Int) (q : Int) (a : Int) (b : Int) = some (nm d q a b : Int) ∧ nm d q a b < 2 ^ d := by
  have h := List.all_eq_true.1 mulOK_all _ hf
  simp only [mulOK, Bool.and_eq_true, beq_iff_eq, List.all_eq_true, List.mem_range] at h
  refine ⟨h.1, fun a ha b hb => ?_⟩
  have h3 := h.2 a ha b hb
  revert h3
  cases impl_Field_mul.f 100 (d : Int) (q : Int) (a : Int) (b : Int) with
  | none => intro h3; simp at h3
  | some r =>
    intro h3
    simp only [Bool.and_eq_true, beq_iff_eq, decide_eq_true_eq] at h3
    exact ⟨by rw [h3.1], h3.2⟩
theorem has_all {d q : Nat} (h1 : 1 ≤ d) (h5 : d ≤ 5) (l : List Int) (hl : ∀ x ∈ l, 0 ≤ x ∧ x < ((2 ^ d : Nat) : Int)) : impl_Field_has.f (d : Int) (q : Int) l = some true := by
  have hp : 2 ^ d ≤ 32 := Nat.pow_le_pow_right (n := 2) (j := 5) (by omega) h5
  have hp1 : 1 ≤ 2 ^ d := Nat.one_le_two_pow
  have e3 := anyO_some (fun x_ => impl_Field_has_1.f x_ (d : Int) (q : Int)) (fun _ => false) l (fun x hx => by
    have := hl x hx
    unfold impl_Field_has_1.f impl_Field_count.f impl_within.f
    rw [if_pos (by omega), shl_T (by omega)]
    simp only [Option.bind_some]
    rw [w64 (by omega) (by omega), if_pos (by omega)]
    simp only [Option.bind_some]
    rw [decide_eq_true (by omega)]; rfl)
  unfold impl_Field_has.f
  rw [e3]; simp
theorem code_ok {d q : Nat} (hf : (d, q) ∈ flds) (l : List Int) (hl : ∀ x ∈ l, 0 ≤ x ∧ x < ((2 ^ d : Nat) : Int)) {K : Nat} (hK : 60 ≤ K) : impl_Field_code.f K (d : Int) (q : Int) true l = some 0 := by
  obtain ⟨h1, h5, _⟩ := base_of hf
  unfold impl_Field_code.f
  rw [at_rounds (fun k => impl_ValidField.mono (d : Int) (q : Int) k) hK (mul_of hf).1]
  simp only [Option.bind_some, if_true]
  rw [has_all h1 h5 l hl]; rfl
theorem mul_in {d q : Nat} (hf : (d, q) ∈ flds) {a b : Nat} (ha : a < 2 ^ d) (hb : b < 2 ^ d) {K : Nat} (hK : 100 ≤ K) : impl_MulIn.f K (d : Int) (q : Int) (a : Int) (b : Int) = some ((nm d q a b : Int), 0) := by
  unfold impl_MulIn.f
  rw [code_ok hf _ (fun x hx => by
    rcases List.mem_cons.1 hx with rfl | hx
    · omega
    · rw [List.mem_singleton.1 hx]; omega) (by omega)]
  simp only [Option.bind_some, if_true]
  rw [at_rounds (fun k => impl_Field_mul.mono (d : Int) (q : Int) (a : Int) (b : Int) k) hK ((mul_of hf).2 a ha b hb).1]; rfl
theorem nm_lt {d q : Nat} (hf : (d, q) ∈ flds) {a b : Nat} (ha : a < 2 ^ d) (hb : b < 2 ^ d) : nm d q a b < 2 ^ d := ((mul_of hf).2 a ha b hb).2
theorem inv_of {d q : Nat} (hf : (d, q) ∈ flds) {a : Nat} (ha : a < 2 ^ d) {K : Nat} (hK : 150 ≤ K) : (a = 0 ∧ ∃ i : Int, impl_InverseIn.f K (d : Int) (q : Int) (a : Int) = some (i, 4)) ∨ (a ≠ 0 ∧ ∃ i : Nat, impl_InverseIn.f K (d : Int) (q : Int) (a : Int) = some ((i : Int), 0) ∧ 1 ≤ i ∧ i < 2 ^ d ∧ nm d q a i = 1) := by
  have h := List.all_eq_true.1 invOK_all _ hf
  simp only [invOK, List.all_eq_true, List.mem_range] at h
  have h3 := h a ha
  have up : ∀ r, impl_InverseIn.f 150 (d : Int) (q : Int) (a : Int) = some r → impl_InverseIn.f K (d : Int) (q : Int) (a : Int) = some r := fun r hr => at_rounds (fun k => impl_InverseIn.mono (d : Int) (q : Int) (a : Int) k) hK hr
  revert h3
  cases hi : impl_InverseIn.f 150 (d : Int) (q : Int) (a : Int) with
  | none => intro h3; simp at h3
  | some r =>
    obtain ⟨i, e⟩ := r
    intro h3
    simp only at h3
    by_cases h0 : a = 0
    · rw [if_pos h0, beq_iff_eq] at h3
      exact Or.inl ⟨h0, i, by rw [up _ hi, h3]⟩
    · rw [if_neg h0] at h3
      simp only [Bool.and_eq_true, beq_iff_eq, decide_eq_true_eq] at h3
      obtain ⟨⟨⟨e0, e1⟩, e2⟩, e3⟩ := h3
      have ei : ((i.toNat : Nat) : Int) = i := by omega
      refine Or.inr ⟨h0, i.toNat, by rw [up _ hi, e0, ei], by omega, ?_, e3⟩
      have : ((i.toNat : Nat) : Int) < ((2 ^ d : Nat) : Int) := by rw [ei]; exact_mod_cast e2
      exact_mod_cast this
theorem no_zero {d q : Nat} (hf : (d, q) ∈ flds) {a b : Nat} (ha : a < 2 ^ d) (hb : b < 2 ^ d) (h0 : a ≠ 0) (h1 : b ≠ 0) : nm d q a b ≠ 0 := by
  intro hz
  rcases inv_of hf ha (Nat.le_refl 150) with ⟨h, _⟩ | ⟨_, i, _, i1, i2, i3⟩
  · exact h0 h
  · have e : nm d q i (nm d q a b) = b := by
      rw [← nm_assoc hf i2 ha hb, nm_comm hf i2 ha, i3, nm_comm hf (by omega) hb, nm_one hf hb]
    rw [hz, nm_zero_right] at e
    exact h1 e.symm
theorem tail_of {d q : Nat} (hf : (d, q) ∈ flds) : laws_FnFields.j3 200 (d : Int) (q : Int) = some true ∧ laws_FnFields.j3 199 (d : Int) (q : Int) = some true := by
  have h := List.all_eq_true.1 tailOK_all _ hf
  simp only [tailOK, Bool.and_eq_true, beq_iff_eq] at h
  exact h
theorem fields_1 : spec_l01Fields.f 202 1 = some [⟨1, 2⟩, ⟨1, 3⟩] := by kernel_rfl
theorem fields_2 : spec_l01Fields.f 202 2 = some [⟨2, 7⟩] := by kernel_rfl
theorem fields_3 : spec_l01Fields.f 202 3 = some [⟨3, 11⟩, ⟨3, 13⟩] := by kernel_rfl
theorem fields_4 : spec_l01Fields.f 202 4 = some [⟨4, 19⟩, ⟨4, 25⟩, ⟨4, 31⟩] := by kernel_rfl
theorem fields_5 : spec_l01Fields.f 202 5 = some [⟨5, 37⟩, ⟨5, 41⟩, ⟨5, 47⟩, ⟨5, 55⟩, ⟨5, 59⟩, ⟨5, 61⟩] := by kernel_rfl
theorem fields_of (x : Int) (h : x = 1 ∨ x = 2 ∨ x = 3 ∨ x = 4 ∨ x = 5) : ∃ L : List S33, spec_l01Fields.f 202 x = some L ∧ 1 ≤ L.length ∧ L.length ≤ 6 ∧ ∀ i : Int, 0 ≤ i → i < (L.length : Int) → ∃ d q : Nat, (d, q) ∈ flds ∧ rd_T33 L i = ⟨(d : Int), (q : Int)⟩ := by
  have key : ∀ (L : List S33) (M : List (Nat × Nat)), L = M.map (fun p => ⟨(p.1 : Int), (p.2 : Int)⟩) → (∀ p ∈ M, p ∈ flds) → ∀ i : Int, 0 ≤ i → i < (L.length : Int) → ∃ d q : Nat, (d, q) ∈ flds ∧ rd_T33 L i = ⟨(d : Int), (q : Int)⟩ := by
    intro L M hL hM i h0 h1
    subst hL
    rw [List.length_map] at h1
    have hi : i.toNat < M.length := by omega
    refine ⟨M[i.toNat].1, M[i.toNat].2, hM _ (List.getElem_mem hi), ?_⟩
    unfold rd_T33
    rw [List.getD_eq_getElem?_getD, List.getElem?_map, List.getElem?_eq_getElem hi]; rfl
  rcases h with rfl | rfl | rfl | rfl | rfl
  · exact ⟨_, fields_1, by decide, by decide, key _ [(1, 2), (1, 3)] rfl (by decide)⟩
  · exact ⟨_, fields_2, by decide, by decide, key _ [(2, 7)] rfl (by decide)⟩
  · exact ⟨_, fields_3, by decide, by decide, key _ [(3, 11), (3, 13)] rfl (by decide)⟩
  · exact ⟨_, fields_4, by decide, by decide, key _ [(4, 19), (4, 25), (4, 31)] rfl (by decide)⟩
  · exact ⟨_, fields_5, by decide, by decide, key _ [(5, 37), (5, 41), (5, 47), (5, 55), (5, 59), (5, 61)] rfl (by decide)⟩
theorem among_is : ∀ v : Fin 7, rd [1, 2, 3, 3, 4, 4, 5] (v.val : Int) = 1 ∨ rd [1, 2, 3, 3, 4, 4, 5] (v.val : Int) = 2 ∨ rd [1, 2, 3, 3, 4, 4, 5] (v.val : Int) = 3 ∨ rd [1, 2, 3, 3, 4, 4, 5] (v.val : Int) = 4 ∨ rd [1, 2, 3, 3, 4, 4, 5] (v.val : Int) = 5 := by decide
theorem field_drawn (l : List Int) (hb : ∀ x ∈ l, (Lit.int .u8 x).wf = true) : ∃ d q : Nat, (d, q) ∈ flds ∧ spec_A2Field.f 202 l = some ((d : Int), (q : Int)) := by
  obtain ⟨v, a, u, e, v0, v1, a0, a1⟩ := pick_tells l hb 0 0 7 (by omega) (by omega) (by omega) (by omega)
  have hv := among_is ⟨v.toNat, by omega⟩
  simp only [show ((v.toNat : Nat) : Int) = v by omega] at hv
  obtain ⟨L, hL, l1, l6, hm⟩ := fields_of _ hv
  obtain ⟨v', a', u', e', v0', v1', _, _⟩ := pick_tells l hb a u (L.length : Int) a0 (by omega) (by omega) (by omega)
  obtain ⟨d, q, hf, hr⟩ := hm v' v0' v1'
  refine ⟨d, q, hf, ?_⟩
  unfold spec_A2Field.f spec_l00From.f spec_l01Drawn.f spec_l00Src_among.f
  have e7 : (([1, 2, 3, 3, 4, 4, 5] : List Int).length : Int) = 7 := rfl
  simp only [Option.bind_some, e7, e]
  rw [if_pos v0, if_pos v1]
  simp only [Option.bind_some]
  rw [hL]
  simp only [Option.bind_some]
  rw [e']
  simp only [Option.bind_some]
  rw [if_pos v0', if_pos v1', hr]; rfl
theorem element_l (l : List Int) (hb : ∀ x ∈ l, (Lit.int .u8 x).wf = true) (d q : Nat) (h1 : 1 ≤ d) (h5 : d ≤ 5) (at_ : Int) : ∀ (n : Nat) (i x a u : Int), i + n = at_ + 1 → 0 ≤ i → i ≤ 11 → at_ ≤ 10 → 0 ≤ a → a ≤ i → 0 ≤ x → x < ((2 ^ d : Nat) : Int) →
    ∃ y : Nat, y < 2 ^ d ∧ ∀ K, spec_A2Element.l0 (K + n + 1) at_ x i (d : Int) (q : Int) l a u = some (y : Int) := by
  have hp : 2 ^ d ≤ 32 := Nat.pow_le_pow_right (n := 2) (j := 5) (by omega) h5
  have hp1 : 1 ≤ 2 ^ d := Nat.one_le_two_pow
  intro n
  induction n with
  | zero =>
    intro i x a u hi _ _ _ _ _ x0 x1
    refine ⟨x.toNat, by omega, fun K => ?_⟩
    rw [show K + 0 + 1 = K + 1 from rfl, spec_A2Element.l0, if_neg (by omega), show ((x.toNat : Nat) : Int) = x by omega]
  | succ n ih =>
    intro i x a u hi i0 i1 at1 a0 a1 x0 x1
    obtain ⟨v, a', u', e, v0, v1, b0, b1⟩ := pick_tells l hb a u ((2 ^ d : Nat) : Int) a0 (by omega) (by omega) (by omega)
    obtain ⟨y, hy, h⟩ := ih (i + 1) v a' u' (by omega) (by omega) (by omega) at1 b0 (by omega) v0 v1
    refine ⟨y, hy, fun K => ?_⟩
    rw [show K + (n + 1) + 1 = (K + n + 1) + 1 by omega, spec_A2Element.l0, if_pos (by omega)]
    unfold spec_l01Size.f
    rw [uw (by omega) (by omega), if_pos (by omega), shl_T (by omega)]
    simp only [Option.bind_some]
    rw [e]
    simp only [Option.bind_some]
    rw [w64 (x := i + 1) (by omega) (by omega)]
    exact h K
theorem element_drawn (l : List Int) (hb : ∀ x ∈ l, (Lit.int .u8 x).wf = true) (d q : Nat) (h1 : 1 ≤ d) (h5 : d ≤ 5) (at_ : Int) (h0 : 0 ≤ at_) (h2 : at_ ≤ 2) : ∃ y : Nat, y < 2 ^ d ∧ spec_A2Element.f 202 l (d : Int) (q : Int) at_ = some (y : Int) := by
  have hp1 : 1 ≤ 2 ^ d := Nat.one_le_two_pow
  obtain ⟨y, hy, h⟩ := element_l l hb d q h1 h5 at_ (at_ + 1).toNat 0 0 0 0 (by omega) (by omega) (by omega) (by omega) (by omega) (by omega) (by omega) (by omega)
  refine ⟨y, hy, ?_⟩
  unfold spec_A2Element.f spec_l00From.f
  simp only [Option.bind_some]
  have := h (202 - (at_ + 1).toNat - 1)
  rw [show 202 - (at_ + 1).toNat - 1 + (at_ + 1).toNat + 1 = 202 by omega] at this
  exact this
theorem main : laws_FnFields.Pure := by
  intro l0 l1 hl _ hb _ _ hb1
  refine ⟨202, ?_⟩
  by_cases hlong : laws_a2Long.f l0 l1 = some true
  · unfold laws_FnFields.f
    rw [hlong]; rfl
  have hlf : laws_a2Long.f l0 l1 = some false := by
    have : ∃ q, laws_a2Long.f l0 l1 = some q := by
      unfold laws_a2Long.f
      split <;> exact ⟨_, rfl⟩
    obtain ⟨q, hq⟩ := this
    cases q with
    | true => exact absurd hq hlong
    | false => exact hq
  obtain ⟨d, q, hf, hfd⟩ := field_drawn l0 hb
  obtain ⟨h1, h5, _⟩ := base_of hf
  obtain ⟨a, ha, ea⟩ := element_drawn l1 hb1 d q h1 h5 0 (by omega) (by omega)
  obtain ⟨b, hb', eb⟩ := element_drawn l1 hb1 d q h1 h5 1 (by omega) (by omega)
  obtain ⟨c, hc, ec⟩ := element_drawn l1 hb1 d q h1 h5 2 (by omega) (by omega)
  have hp : 2 ^ d ≤ 32 := Nat.pow_le_pow_right (n := 2) (j := 5) (by omega) h5
  have hp1 : 2 ≤ 2 ^ d := Nat.pow_le_pow_right (n := 2) (i := 1) (by omega) h1
  have hab := nm_lt hf ha hb'
  have hbc := nm_lt hf hb' hc
  have hac := nm_lt hf ha hc
  have hx : b ^^^ c < 2 ^ d := Nat.xor_lt_two_pow hb' hc
  have e1 := fun {K : Nat} (hK : 100 ≤ K) => mul_in hf ha hb' hK
  unfold laws_FnFields.f
  rw [hlf, hfd]
  simp only [Option.bind_some]
  rw [if_neg (by decide), uw (by omega) (by omega), if_pos (by omega), ea, eb, ec]
  simp only [Option.bind_some]
  rw [mul_in hf ha hb' (by omega), mul_in hf hb' ha (by omega), mul_in hf ha hc (by omega), xor_T (by omega) (by omega), mul_in hf ha hx (by omega), mul_in hf hb' hc (by omega)]
  simp only [Option.bind_some, if_true]
  rw [shl_T (by omega), xor_T (by omega) (by omega), if_pos (by rw [nm_comm hf ha hb']), if_pos (by rw [nm_right]), if_neg (by omega), if_neg (by omega), if_neg (by omega), decide_eq_false (by omega)]
  rw [show (202 : Nat) = 201 + 1 from rfl, laws_FnFields.j0, if_neg (by decide), mul_in hf hab hc (by omega), mul_in hf ha hbc (by omega), show (1 : Int) = ((1 : Nat) : Int) from rfl, mul_in hf ha (by omega) (by omega)]
  simp only [Option.bind_some, if_true]
  rw [if_pos (by rw [nm_assoc hf ha hb' hc]), if_pos (by rw [nm_one hf ha])]
  have hj : ∀ z : Bool, z = false → laws_FnFields.j1 201 ((2 ^ d : Nat) : Int) (a : Int) z (d : Int) (q : Int) = some true := by
    intro z hz
    subst hz
    rw [show (201 : Nat) = 200 + 1 from rfl, laws_FnFields.j1, if_neg (by decide)]
    rcases inv_of hf ha (show 150 ≤ 200 by omega) with ⟨h0, i, hi⟩ | ⟨h0, i, hi, i1, i2, i3⟩
    · rw [hi]
      simp only [Option.bind_some]
      rw [h0, if_neg (by decide), if_pos (show ((0 : Nat) : Int) = 0 from rfl)]
      exact (tail_of hf).1
    · rw [hi]
      simp only [Option.bind_some]
      have q1 : ((((0 : Int) == 0) != ((a : Int) != 0)) = true) = False := by
        have : ((a : Int) != 0) = true := by rw [bne_iff_ne]; omega
        rw [this]; simp
      rw [if_neg (by rw [q1]; exact id), if_neg (by omega), if_neg (by omega), decide_eq_false (by omega)]
      rw [show (200 : Nat) = 199 + 1 from rfl, laws_FnFields.j2, if_neg (by decide), mul_in hf ha i2 (by omega), i3]
      simp only [Option.bind_some, if_true]
      rw [if_pos (show ((1 : Nat) : Int) = 1 from rfl)]
      exact (tail_of hf).2
  by_cases a0 : a = 0
  · rw [if_pos (by omega)]
    exact hj _ rfl
  · rw [if_neg (by omega)]
    by_cases b0 : b = 0
    · rw [if_pos (by omega)]
      exact hj _ rfl
    · rw [if_neg (by omega)]
      refine hj _ ?_
      rw [beq_eq_false_iff_ne]
      have := no_zero hf ha hb' a0 b0
      omega
end Go.Proofs.Ytkebapmicgkcdaa.PureFnFields
namespace Go.Proofs.Ytkebapmicgkcdaa.Pure
open Go.Proofs.Ytkebapmicgkcdaa.PFnFields
theorem FnFields : laws_FnFields.Pure := PureFnFields.main
end Go.Proofs.Ytkebapmicgkcdaa.Pure
