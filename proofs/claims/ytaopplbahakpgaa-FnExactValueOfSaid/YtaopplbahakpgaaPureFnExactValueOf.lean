/- ValueOf of the program and of the reference agree for every field, every list and every point, valid or not, and leave the list alone (beyond 2^20 elements the law itself asks nothing). -/
import Derived.Test.YtaopplbahakpgaaPFnExactValueOfx5
namespace Go.Proofs.Ytaopplbahakpgaa.PureFnExactValueOf
open Go.RowKit Go.Proofs.Ytaopplbahakpgaa.PFnExactValueOf Go.Proofs.YtaopplbahakpgaaW.PrintWords Go.Proofs.YtaopplbahakpgaaW.PrintLast Go.Proofs.YtaopplbahakpgaaW.PrintMore
set_option linter.unusedVariables false
set_option linter.unusedSimpArgs false
theorem w64 {x : Int} (h0 : -9223372036854775808 ≤ x) (h1 : x ≤ 9223372036854775807) : wrap64 x = x := by unfold wrap64; omega
theorem rd_drop (l : List Int) (i : Int) (h0 : 0 ≤ i) (h1 : i < (l.length : Int)) : l.drop i.toNat = rd l i :: l.drop (i + 1).toNat := by
  have hl : i.toNat < l.length := by omega
  rw [List.drop_eq_getElem_cons hl]
  have e : (i + 1).toNat = i.toNat + 1 := by omega
  rw [e]
  congr 1
  unfold rd
  rw [List.getD_eq_getElem?_getD, List.getElem?_eq_getElem hl]; rfl
theorem wf64 {x : Int} (h : (Lit.int .i64 x).wf = true) : -9223372036854775808 ≤ x ∧ x ≤ 9223372036854775807 := by
  simp [Lit.wf, IntKind.min, IntKind.max, IntKind.signed, IntKind.bits] at h; omega
theorem maxLen_eq : maxLen = 9223372036854775807 := by unfold maxLen; rfl
def flds : List (Nat × Nat) := [(1, 2), (1, 3), (2, 7), (3, 11), (3, 13), (4, 19), (4, 25), (4, 31), (5, 37), (5, 41), (5, 47), (5, 55), (5, 59), (5, 61)]
def okF (d q : Int) : Bool := decide (1 ≤ d) && decide (d ≤ 5) && decide (0 ≤ q) && decide (q < 64) && flds.contains (d.toNat, q.toNat)
theorem okF_small : ∀ d : Fin 6, ∀ q : Fin 64, impl_ValidField.f 60 (d.val : Int) (q.val : Int) = some (okF (d.val : Int) (q.val : Int)) ∧ spec_l01Ok.f 60 (d.val : Int) (q.val : Int) = some (okF (d.val : Int) (q.val : Int)) := by decide +kernel
theorem okF_off (d q : Int) (h : ¬ ((0 ≤ d ∧ d < 6) ∧ (0 ≤ q ∧ q < 64))) : okF d q = false := by
  unfold okF
  by_cases h0 : 1 ≤ d <;> by_cases h1 : d ≤ 5 <;> by_cases h2 : 0 ≤ q <;> by_cases h3 : q < 64 <;> first | omega | simp [h0, h1, h2, h3]
theorem okF_impl (d q : Int) (k : Nat) (hk : 60 ≤ k) : impl_ValidField.f k d q = some (okF d q) := by
  refine at_rounds (fun k => impl_ValidField.mono d q k) hk ?_
  by_cases h : (0 ≤ d ∧ d < 6) ∧ (0 ≤ q ∧ q < 64)
  · have := (okF_small ⟨d.toNat, by omega⟩ ⟨q.toNat, by omega⟩).1
    have e : ((d.toNat : Nat) : Int) = d := by omega
    have e1 : ((q.toNat : Nat) : Int) = q := by omega
    simp only [e, e1] at this
    exact this
  · rw [okF_off d q h]
    unfold impl_ValidField.f impl_within.f impl_IsIrreducible.f
    by_cases h0 : d ≥ 1
    · by_cases h1 : d ≤ 5
      · by_cases h2 : q < 2
        · simp [h0, h1, h2, impl_IsIrreducible.j0]
        · have h3 : q ≥ 64 := by omega
          simp [h0, h1, h2, h3, impl_IsIrreducible.j0]
      · simp [h0, h1]
    · simp [h0]
theorem okF_spec (d q : Int) (k : Nat) (hk : 60 ≤ k) : spec_l01Ok.f k d q = some (okF d q) := by
  refine at_rounds (fun k => spec_l01Ok.mono d q k) hk ?_
  by_cases h : (0 ≤ d ∧ d < 6) ∧ (0 ≤ q ∧ q < 64)
  · have := (okF_small ⟨d.toNat, by omega⟩ ⟨q.toNat, by omega⟩).2
    have e : ((d.toNat : Nat) : Int) = d := by omega
    have e1 : ((q.toNat : Nat) : Int) = q := by omega
    simp only [e, e1] at this
    exact this
  · rw [okF_off d q h]
    unfold spec_l01Ok.f spec_l00In.f spec_IsIrreducible.f
    by_cases h0 : d ≥ 1
    · by_cases h1 : d ≤ 5
      · by_cases h2 : q > 0
        · have h3 : ¬ q < 64 := by omega
          simp [h0, h1, h2, h3]
        · simp [h0, h1, h2]
      · simp [h0, h1]
    · simp [h0]
def S (d : Int) : Int := 2 ^ d.toNat
theorem okF_range {d q : Int} (h : okF d q = true) : 1 ≤ d ∧ d ≤ 5 ∧ 0 ≤ q ∧ q < 64 ∧ (d.toNat, q.toNat) ∈ flds := by
  simp only [okF, Bool.and_eq_true, decide_eq_true_eq, List.contains_iff_mem] at h
  exact ⟨h.1.1.1.1, h.1.1.1.2, h.1.1.2, h.1.2, h.2⟩
theorem sizes {d : Int} (h1 : 1 ≤ d) (h5 : d ≤ 5) : 0 ≤ IntKind.u64.wrap d ∧ IntKind.u64.wrap d = d ∧ shl .i64 1 d = S d ∧ wrap64 (S d - 1) = S d - 1 ∧ 2 ≤ S d ∧ S d ≤ 32 ∧ wrap64 (S d) = S d := by
  have : d = 1 ∨ d = 2 ∨ d = 3 ∨ d = 4 ∨ d = 5 := by omega
  rcases this with rfl | rfl | rfl | rfl | rfl <;> decide +kernel
def inF (d x : Int) : Bool := decide (0 ≤ x) && decide (x < S d)
theorem inF_iff {d x : Int} : inF d x = true ↔ 0 ≤ x ∧ x < S d := by unfold inF; simp
theorem S_nat (d : Int) : ((2 ^ d.toNat : Nat) : Int) = S d := by unfold S; simp
theorem any_not_inF (d : Int) (l : List Int) : (!l.any fun x => !inF d x) = l.all (inF d) := by
  induction l with
  | nil => rfl
  | cons x l ih => simp only [List.any_cons, List.all_cons, ← ih]; cases inF d x <;> simp
theorem within_inF {d : Int} (h1 : 1 ≤ d) (h5 : d ≤ 5) (x : Int) : impl_within.f x 0 (S d - 1) = some (inF d x) := by
  unfold impl_within.f inF
  by_cases h : x ≥ 0
  · have h0 : 0 ≤ x := h
    rw [if_pos h]
    by_cases h2 : x < S d
    · simp [h0, h2, show x ≤ S d - 1 by omega]
    · simp [h2, show ¬ x ≤ S d - 1 by omega]
  · have h0 : ¬ 0 ≤ x := h
    rw [if_neg h]; simp [h0]
theorem has_tells {d q : Int} (h : okF d q = true) (l : List Int) : impl_Field_has.f d q l = some (l.all (inF d)) := by
  obtain ⟨h1, h5, _⟩ := okF_range h
  obtain ⟨_, _, e, e2, _⟩ := sizes h1 h5
  have e3 := anyO_some (fun x_ => impl_Field_has_1.f x_ d q) (fun x => !inF d x) l (fun x _ => by
    unfold impl_Field_has_1.f impl_Field_count.f
    rw [if_pos (by omega), e]
    simp only [Option.bind_some]
    rw [e2, within_inF h1 h5]; rfl)
  unfold impl_Field_has.f
  rw [e3, ← any_not_inF]; rfl
theorem in_tells {d : Int} (h1 : 1 ≤ d) (h5 : d ≤ 5) (x : Int) : spec_l00In.f x 0 (wrap64 (S d - 1)) = some (inF d x) := by
  obtain ⟨_, _, _, e2, _⟩ := sizes h1 h5
  unfold spec_l00In.f inF
  rw [e2]
  by_cases h : x ≥ 0
  · have h0 : 0 ≤ x := h
    rw [if_pos h]
    by_cases h2 : x < S d
    · simp [h0, h2, show x ≤ S d - 1 by omega]
    · simp [h2, show ¬ x ≤ S d - 1 by omega]
  · have h0 : ¬ 0 ≤ x := h
    rw [if_neg h]; simp [h0]
theorem size_tells {d : Int} (h1 : 1 ≤ d) (h5 : d ≤ 5) (q : Int) : spec_l01Size.f d q = some (S d) := by
  obtain ⟨e0, e1, e, _⟩ := sizes h1 h5
  unfold spec_l01Size.f
  rw [if_pos e0, e1, e]
theorem elements_tells_l {d q : Int} (h : okF d q = true) (l : List Int) (hl : l.length ≤ 1048576) : ∀ (n : Nat) (i : Int) (k : Nat), 0 ≤ i → i ≤ (l.length : Int) → (l.length : Int) - i = n → n < k → spec_l03Elements.l0 k l i d q = some ((l.drop i.toNat).all (inF d)) := by
  obtain ⟨h1, h5, _⟩ := okF_range h
  intro n
  induction n with
  | zero =>
    intro i k h0 h2 hd hk
    obtain ⟨k, rfl⟩ : ∃ m, k = m + 1 := ⟨k - 1, by omega⟩
    simp only [spec_l03Elements.l0]
    rw [if_neg (by omega), List.drop_eq_nil_of_le (by omega)]; rfl
  | succ n ih =>
    intro i k h0 h2 hd hk
    obtain ⟨k, rfl⟩ : ∃ m, k = m + 1 := ⟨k - 1, by omega⟩
    simp only [spec_l03Elements.l0]
    rw [if_pos (by omega), if_pos h0, size_tells h1 h5 q]
    simp only [Option.bind_some]
    rw [in_tells h1 h5, w64 (x := i + 1) (by omega) (by omega), rd_drop l i h0 (by omega)]
    simp only [Option.bind_some, List.all_cons]
    by_cases e : inF d (rd l i) = true
    · rw [if_pos e, ih (i + 1) k (by omega) (by omega) (by omega) (by omega)]; simp [e]
    · rw [if_neg e]; simp [e]
theorem elements_tells {d q : Int} (h : okF d q = true) (l : List Int) (hl : l.length ≤ 1048576) (k : Nat) (hk : l.length < k) : spec_l03Elements.f k d q l = some (l.all (inF d)) := by
  unfold spec_l03Elements.f
  rw [elements_tells_l h l hl l.length 0 k (by omega) (by omega) (by omega) hk]; simp
def okL (d : Int) (l : List Int) : Bool := decide ((l.length : Int) ≤ 12) && (l.all (inF d) && (decide ((l.length : Int) = 0) || (rd l ((l.length : Int) - 1) != 0)))
theorem okL_range {d : Int} {l : List Int} (h : okL d l = true) : l.length ≤ 12 ∧ l.all (inF d) = true := by
  unfold okL at h
  simp only [Bool.and_eq_true, decide_eq_true_eq] at h
  exact ⟨by omega, h.2.1⟩
theorem isLinear_tells {d q : Int} (h : okF d q = true) (l : List Int) : impl_Field_isLinear.f d q l = some (okL d l) := by
  unfold impl_Field_isLinear.f okL
  by_cases h12 : (l.length : Int) ≤ 12
  · rw [if_pos h12, has_tells h]
    simp only [Option.bind_some]
    by_cases ha : l.all (inF d) = true
    · rw [if_pos ha]
      by_cases h0 : (l.length : Int) = 0
      · rw [if_pos h0, ha, decide_eq_true h12, decide_eq_true h0]; rfl
      · rw [if_neg h0, w64 (by omega) (by omega), if_pos (by omega), if_pos (by omega), ha, decide_eq_true h12, decide_eq_false h0]; rfl
    · rw [if_neg ha, Bool.eq_false_iff.2 ha]; simp
  · rw [if_neg h12, decide_eq_false h12]; rfl
theorem l03Ok_tells {d q : Int} (h : okF d q = true) (l : List Int) (k : Nat) (hk : 20 ≤ k) : spec_l03Ok.f k d q l = some (okL d l) := by
  rw [← isLinear_tells h l]
  unfold spec_l03Ok.f impl_Field_isLinear.f
  by_cases h12 : (l.length : Int) ≤ 12
  · rw [if_pos h12, if_pos h12, elements_tells h l (by omega) _ (by omega), has_tells h]
  · rw [if_neg h12, if_neg h12]
def mulOK (d q : Nat) : Bool := (List.range (2 ^ d)).all fun a => (List.range (2 ^ d)).all fun b =>
  match spec_l01Mul.f 100 (d : Int) (q : Int) (a : Int) (b : Int), impl_Field_mul.f 100 (d : Int) (q : Int) (a : Int) (b : Int) with
  | some r, some s => r == s && decide (0 ≤ r) && decide (r < 2 ^ d)
  | _, _ => false
theorem mulOK_1_2 : mulOK 1 2 = true := by decide +kernel
theorem mulOK_1_3 : mulOK 1 3 = true := by decide +kernel
theorem mulOK_2_7 : mulOK 2 7 = true := by decide +kernel
theorem mulOK_3_11 : mulOK 3 11 = true := by decide +kernel
theorem mulOK_3_13 : mulOK 3 13 = true := by decide +kernel
theorem mulOK_4_19 : mulOK 4 19 = true := by decide +kernel
theorem mulOK_4_25 : mulOK 4 25 = true := by decide +kernel
theorem mulOK_4_31 : mulOK 4 31 = true := by decide +kernel
theorem mulOK_5_37 : mulOK 5 37 = true := by decide +kernel
theorem mulOK_5_41 : mulOK 5 41 = true := by decide +kernel
theorem mulOK_5_47 : mulOK 5 47 = true := by decide +kernel
theorem mulOK_5_55 : mulOK 5 55 = true := by decide +kernel
theorem mulOK_5_59 : mulOK 5 59 = true := by decide +kernel
theorem mulOK_5_61 : mulOK 5 61 = true := by decide +kernel
theorem mulOK_all : flds.all (fun f => mulOK f.1 f.2) = true := by
  unfold flds
  simp only [List.all_cons, List.all_nil, mulOK_1_2, mulOK_1_3, mulOK_2_7, mulOK_3_11, mulOK_3_13, mulOK_4_19, mulOK_4_25, mulOK_4_31, mulOK_5_37, mulOK_5_41, mulOK_5_47, mulOK_5_55, mulOK_5_59, mulOK_5_61, Bool.and_self]
theorem mul_tells0 {d q a b : Int} (h : okF d q = true) (ha : inF d a = true) (hb : inF d b = true) :
    ∃ r, spec_l01Mul.f 100 d q a b = some r ∧ impl_Field_mul.f 100 d q a b = some r ∧ inF d r = true := by
  obtain ⟨h1, h5, h0, _, hm⟩ := okF_range h
  have h2 := List.all_eq_true.1 mulOK_all _ hm
  rw [inF_iff] at ha hb
  have ea : ((a.toNat : Nat) : Int) = a := by omega
  have eb : ((b.toNat : Nat) : Int) = b := by omega
  have ed : ((d.toNat : Nat) : Int) = d := by omega
  have eq : ((q.toNat : Nat) : Int) = q := by omega
  have la : a.toNat < 2 ^ d.toNat := Int.ofNat_lt.1 (by rw [ea, S_nat]; exact ha.2)
  have lb : b.toNat < 2 ^ d.toNat := Int.ofNat_lt.1 (by rw [eb, S_nat]; exact hb.2)
  unfold mulOK at h2
  have h3 := List.all_eq_true.1 (List.all_eq_true.1 h2 a.toNat (List.mem_range.2 la)) b.toNat (List.mem_range.2 lb)
  simp only [ea, eb, ed, eq] at h3
  revert h3
  cases hs : spec_l01Mul.f 100 d q a b with
  | none => intro h3; simp at h3
  | some r =>
    cases hi : impl_Field_mul.f 100 d q a b with
    | none => intro h3; simp at h3
    | some s =>
      intro h3
      simp only [Bool.and_eq_true, beq_iff_eq, decide_eq_true_eq] at h3
      obtain ⟨⟨rfl, h4⟩, h5⟩ := h3
      exact ⟨r, rfl, rfl, inF_iff.2 ⟨h4, h5⟩⟩
def M (d q a b : Int) : Int := (impl_Field_mul.f 100 d q a b).getD 0
theorem mul_tells {d q a b : Int} (h : okF d q = true) (ha : inF d a = true) (hb : inF d b = true) (k : Nat) (hk : 100 ≤ k) :
    spec_l01Mul.f k d q a b = some (M d q a b) ∧ impl_Field_mul.f k d q a b = some (M d q a b) ∧ inF d (M d q a b) = true := by
  obtain ⟨r, h1, h2, h3⟩ := mul_tells0 h ha hb
  have e : M d q a b = r := by unfold M; rw [h2]; rfl
  rw [e]
  exact ⟨at_rounds (fun k => spec_l01Mul.mono d q a b k) hk h1, at_rounds (fun k => impl_Field_mul.mono d q a b k) hk h2, h3⟩
def sqOK (d q : Nat) : Bool := (List.range (2 ^ d)).all fun a => (List.range d).all fun m =>
  match spec_l01Square.f 100 (d : Int) (q : Int) (a : Int) (m : Int), impl_Field_square.f 100 (d : Int) (q : Int) (a : Int) (m : Int) with
  | some r, some s => r == s && decide (0 ≤ r) && decide (r < 2 ^ d)
  | _, _ => false
theorem sqOK_1_2 : sqOK 1 2 = true := by decide +kernel
theorem sqOK_1_3 : sqOK 1 3 = true := by decide +kernel
theorem sqOK_2_7 : sqOK 2 7 = true := by decide +kernel
theorem sqOK_3_11 : sqOK 3 11 = true := by decide +kernel
theorem sqOK_3_13 : sqOK 3 13 = true := by decide +kernel
theorem sqOK_4_19 : sqOK 4 19 = true := by decide +kernel
theorem sqOK_4_25 : sqOK 4 25 = true := by decide +kernel
theorem sqOK_4_31 : sqOK 4 31 = true := by decide +kernel
theorem sqOK_5_37 : sqOK 5 37 = true := by decide +kernel
theorem sqOK_5_41 : sqOK 5 41 = true := by decide +kernel
theorem sqOK_5_47 : sqOK 5 47 = true := by decide +kernel
theorem sqOK_5_55 : sqOK 5 55 = true := by decide +kernel
theorem sqOK_5_59 : sqOK 5 59 = true := by decide +kernel
theorem sqOK_5_61 : sqOK 5 61 = true := by decide +kernel
theorem sqOK_all : flds.all (fun f => sqOK f.1 f.2) = true := by
  unfold flds
  simp only [List.all_cons, List.all_nil, sqOK_1_2, sqOK_1_3, sqOK_2_7, sqOK_3_11, sqOK_3_13, sqOK_4_19, sqOK_4_25, sqOK_4_31, sqOK_5_37, sqOK_5_41, sqOK_5_47, sqOK_5_55, sqOK_5_59, sqOK_5_61, Bool.and_self]
theorem sq_small {d q a m : Int} (h : okF d q = true) (ha : inF d a = true) (h0 : 0 ≤ m) (hm : m < d) : ∃ r, spec_l01Square.f 100 d q a m = some r ∧ impl_Field_square.f 100 d q a m = some r ∧ inF d r = true := by
  obtain ⟨h1, h5, h6, _, hq⟩ := okF_range h
  rw [inF_iff] at ha
  have ea : ((a.toNat : Nat) : Int) = a := by omega
  have ed : ((d.toNat : Nat) : Int) = d := by omega
  have eq : ((q.toNat : Nat) : Int) = q := by omega
  have em : ((m.toNat : Nat) : Int) = m := by omega
  have la : a.toNat < 2 ^ d.toNat := Int.ofNat_lt.1 (by rw [ea, S_nat]; exact ha.2)
  have h2 := List.all_eq_true.1 sqOK_all _ hq
  unfold sqOK at h2
  have h3 := List.all_eq_true.1 (List.all_eq_true.1 h2 a.toNat (List.mem_range.2 la)) m.toNat (List.mem_range.2 (by omega))
  simp only [ea, ed, eq, em] at h3
  revert h3
  cases hs : spec_l01Square.f 100 d q a m with
  | none => intro h3; simp at h3
  | some r =>
    cases hi : impl_Field_square.f 100 d q a m with
    | none => intro h3; simp at h3
    | some s =>
      intro h3
      simp only [Bool.and_eq_true, beq_iff_eq, decide_eq_true_eq] at h3
      obtain ⟨⟨rfl, h4⟩, h5⟩ := h3
      exact ⟨r, rfl, rfl, inF_iff.2 ⟨h4, h5⟩⟩
theorem tmod_lt' {n d : Int} (hd : 1 ≤ d) (hn : 0 ≤ n) : 0 ≤ Int.tmod n d ∧ Int.tmod n d < d := by
  rw [Int.tmod_eq_emod_of_nonneg hn]
  exact ⟨Int.emod_nonneg _ (by omega), Int.emod_lt_of_pos _ (by omega)⟩
theorem tmod_self' {n d : Int} (hd : 1 ≤ d) (hn : 0 ≤ n) : Int.tmod (Int.tmod n d) d = Int.tmod n d := by
  have h := tmod_lt' hd hn
  rw [Int.tmod_eq_of_lt h.1 h.2]
theorem sq_tells {d q a n : Int} (h : okF d q = true) (ha : inF d a = true) (hn : 0 ≤ n) : ∃ r, spec_l01Square.f 100 d q a n = some r ∧ impl_Field_square.f 100 d q a n = some r ∧ inF d r = true := by
  obtain ⟨h1, h5, _⟩ := okF_range h
  have hm := tmod_lt' h1 hn
  obtain ⟨r, e1, e2, e3⟩ := sq_small h ha hm.1 hm.2
  refine ⟨r, ?_, ?_, e3⟩
  · rw [← e1]; unfold spec_l01Square.f; rw [tmod_self' h1 hn]
  · rw [← e2]; unfold impl_Field_square.f; rw [tmod_self' h1 hn]
theorem laws_eqInt64S.tells_l (a b : List Int) (hl : a.length = b.length) (hb : (a.length : Int) ≤ 9223372036854775807) : ∀ (d : Nat) (i : Int) (k : Nat), 0 ≤ i → i ≤ (a.length : Int) → (a.length : Int) - i = d → d < k →
    laws_eqInt64S.l0 k a b i = some (decide (a.drop i.toNat = b.drop i.toNat)) := by
  intro d
  induction d with
  | zero =>
    intro k' k h0 h1 hd hk
    obtain ⟨k, rfl⟩ : ∃ m, k = m + 1 := ⟨k - 1, by omega⟩
    simp only [laws_eqInt64S.l0]
    rw [if_neg (by omega), List.drop_eq_nil_of_le (by omega), List.drop_eq_nil_of_le (by omega)]; simp
  | succ d ih =>
    intro i k h0 h1 hd hk
    obtain ⟨k, rfl⟩ : ∃ m, k = m + 1 := ⟨k - 1, by omega⟩
    simp only [laws_eqInt64S.l0]
    rw [if_pos (by omega), if_pos h0, if_pos (by omega), w64 (by omega) (by omega), rd_drop a i h0 (by omega), rd_drop b i h0 (by omega)]
    by_cases e : rd a i = rd b i
    · rw [if_pos e, ih (i + 1) k (by omega) (by omega) (by omega) (by omega)]
      simp [e]
    · rw [if_neg e]; simp [e]
theorem laws_eqInt64S.tells (a b : List Int) (hb : a.length ≤ 9223372036854775807) (k : Nat) (hk : a.length < k) : laws_eqInt64S.f k a b = some (decide (a = b)) := by
  unfold laws_eqInt64S.f
  by_cases h : (a.length : Int) = (b.length : Int)
  · rw [if_pos h, laws_eqInt64S.tells_l a b (by omega) (by omega) a.length 0 k (by omega) (by omega) (by omega) hk]
    simp
  · rw [if_neg h]
    have : a ≠ b := fun e => h (by rw [e])
    simp [this]
theorem set_rd (l o : List Int) (i : Int) (h0 : 0 ≤ i) (h1 : i < (l.length : Int)) (ho : o.length = l.length) (he : o.take i.toNat = l.take i.toNat) : (o.set i.toNat (rd l i)).take (i + 1).toNat = l.take (i + 1).toNat := by
  have e : (i + 1).toNat = i.toNat + 1 := by omega
  have hl : i.toNat < l.length := by omega
  have ho' : i.toNat < o.length := by omega
  rw [e, List.take_succ_eq_append_getElem (by simpa using ho'), List.take_succ_eq_append_getElem hl, List.take_set_of_le (Nat.le_refl _), he, List.getElem_set_self]
  congr 2
  unfold rd
  rw [List.getD_eq_getElem?_getD, List.getElem?_eq_getElem hl]; rfl
theorem laws_toInt64S.tells_l (l : List Int) (hb : (l.length : Int) ≤ 9223372036854775807) : ∀ (d : Nat) (i : Int) (o : List Int) (k : Nat), 0 ≤ i → i ≤ (l.length : Int) → (l.length : Int) - i = d → d < k → o.length = l.length → o.take i.toNat = l.take i.toNat →
    laws_toInt64S.l0 k l o i = some l := by
  intro d
  induction d with
  | zero =>
    intro i o k h0 h1 hd hk ho he
    obtain ⟨k, rfl⟩ : ∃ m, k = m + 1 := ⟨k - 1, by omega⟩
    simp only [laws_toInt64S.l0]
    rw [if_neg (by omega)]
    have e : i.toNat = l.length := by omega
    rw [e, List.take_of_length_le (by omega), List.take_of_length_le (by omega)] at he
    rw [he]
  | succ d ih =>
    intro i o k h0 h1 hd hk ho he
    obtain ⟨k, rfl⟩ : ∃ m, k = m + 1 := ⟨k - 1, by omega⟩
    simp only [laws_toInt64S.l0]
    rw [if_pos (by omega), if_pos h0, if_pos (by omega), w64 (by omega) (by omega)]
    exact ih (i + 1) _ k (by omega) (by omega) (by omega) (by omega) (by simpa using ho) (set_rd l o i h0 (by omega) ho he)
theorem laws_toInt64S.tells (l : List Int) (hl : l.length ≤ 1048576) (k : Nat) (hk : l.length < k) : laws_toInt64S.f k l = some l := by
  unfold laws_toInt64S.f
  rw [if_pos (by omega), if_pos (by omega)]
  exact laws_toInt64S.tells_l l (by omega) l.length 0 _ k (by omega) (by omega) (by omega) hk (by simp) (by simp)
theorem value_l {d q a : Int} (h : okF d q = true) (ha : inF d a = true) (l : List Int) (hl : l.length ≤ 12) (hi : l.all (inF d) = true) : ∀ (n : Nat) (acc i : Int) (k : Nat), 0 ≤ i → i ≤ (l.length : Int) → (l.length : Int) - i = n → 100 + n < k →
    ∃ r, spec_l03Value.l0 k l a acc i d q = some r ∧ impl_Field_value.l0 k a acc l (l.length : Int) i d q = some r := by
  intro n
  induction n with
  | zero =>
    intro acc i k h0 h2 hd hk
    obtain ⟨k, rfl⟩ : ∃ m, k = m + 1 := ⟨k - 1, by omega⟩
    simp only [spec_l03Value.l0, impl_Field_value.l0]
    rw [if_neg (by omega), if_neg (by omega)]
    exact ⟨acc, rfl, rfl⟩
  | succ n ih =>
    intro acc i k h0 h2 hd hk
    obtain ⟨k, rfl⟩ : ∃ m, k = m + 1 := ⟨k - 1, by omega⟩
    have hx : inF d (rd l i) = true := by
      have hm : rd l i ∈ l := by
        have e := rd_drop l i h0 (by omega)
        exact List.mem_of_mem_drop (i := i.toNat) (by rw [e]; exact List.mem_cons_self)
      exact List.all_eq_true.1 hi _ hm
    obtain ⟨s, e1, e2, e3⟩ := sq_tells (n := i) h ha h0
    have e1' : spec_l01Square.f k d q a i = some s := at_rounds (fun k => spec_l01Square.mono d q a i k) (by omega : 100 ≤ k) e1
    have e2' : impl_Field_square.f k d q a i = some s := at_rounds (fun k => impl_Field_square.mono d q a i k) (by omega : 100 ≤ k) e2
    obtain ⟨m1, m2, m3⟩ := mul_tells h hx e3 k (by omega)
    simp only [spec_l03Value.l0, impl_Field_value.l0]
    rw [if_pos (by omega), if_pos h0, if_pos (by omega), if_pos (by omega), e1', e2']
    simp only [Option.bind_some]
    rw [m1, m2]
    simp only [Option.bind_some, if_pos h0, if_pos (show i < (l.length : Int) by omega)]
    rw [w64 (x := i + 1) (by omega) (by omega)]
    exact ih _ (i + 1) k (by omega) (by omega) (by omega) (by omega)
theorem ends {l : List Int} {c : Int} (hl : l.length ≤ 1048576) (K : Nat) (hK : l.length + 2 ≤ K) : laws_FnExactValueOf.j0 K l l (c != c) = some true := by
  obtain ⟨k, rfl⟩ : ∃ m, K = m + 1 := ⟨K - 1, by omega⟩
  simp only [laws_FnExactValueOf.j0, bne_self_eq_false]
  rw [if_neg (by decide), laws_toInt64S.tells l hl _ (by omega)]
  simp only [Option.bind_some]
  rw [laws_eqInt64S.tells l l (by omega) _ (by omega)]
  simp
theorem linearCode_tells (d q : Int) (l : List Int) (k : Nat) (hk : 60 ≤ k) : impl_Field_linearCode.f k d q [l] = some (if okF d q = true then (if okL d l = true then 0 else 1) else 1) := by
  unfold impl_Field_linearCode.f
  rw [okF_impl d q k hk]
  simp only [Option.bind_some]
  by_cases h : okF d q = true
  · have e3 := anyO_some (fun x_ => impl_Field_linearCode_1.f x_ d q) (fun x => !okL d x) [l] (fun x _ => by unfold impl_Field_linearCode_1.f; rw [isLinear_tells h]; rfl)
    rw [if_pos h, if_pos h, e3]
    simp only [Option.bind_some, List.any_cons, List.any_nil, Bool.or_false]
    cases okL d l <;> simp
  · rw [if_neg h, if_neg h]
theorem main : laws_FnExactValueOf.Pure := by
  intro d q l a _ _ hl _ _
  refine ⟨l.length + 200, ?_⟩
  unfold laws_FnExactValueOf.f
  by_cases h1 : (l.length : Int) > 1048576
  · rw [if_pos h1]
  · rw [if_neg h1]
    unfold laws_toField.f
    rw [laws_toInt64S.tells l (by omega) _ (by omega)]
    simp only [Option.bind_some]
    have key : ∃ v c, spec_ValueOf.f (l.length + 200) d q l a = some (v, c) ∧ impl_ValueOf.f (l.length + 200) d q l a = some (v, c) := by
      unfold spec_ValueOf.f impl_ValueOf.f spec_ValidLinear.f
      rw [okF_spec d q _ (by omega), linearCode_tells d q l _ (by omega)]
      simp only [Option.bind_some]
      by_cases h : okF d q = true
      · obtain ⟨h1, h5, _⟩ := okF_range h
        rw [if_pos h, if_pos h, l03Ok_tells h l _ (by omega)]
        simp only [Option.bind_some]
        by_cases hL : okL d l = true
        · rw [if_pos hL, if_pos hL, if_pos rfl, has_tells h, size_tells h1 h5]
          simp only [Option.bind_some]
          rw [in_tells h1 h5]
          simp only [Option.bind_some, List.all_cons, List.all_nil, Bool.and_true]
          by_cases ha : inF d a = true
          · obtain ⟨l12, hi⟩ := okL_range hL
            obtain ⟨r, s1, s2⟩ := value_l h ha l l12 hi l.length 0 0 (l.length + 200) (by omega) (by omega) (by omega) (by omega)
            obtain ⟨r', t1, t2⟩ := value_l h ha l l12 hi l.length 0 0 (l.length + 199) (by omega) (by omega) (by omega) (by omega)
            have t1' : spec_l03Value.l0 (l.length + 200) l a 0 0 d q = some r' := at_rounds (fun k => spec_l03Value.mono_l k l a 0 0 d q) (by omega : l.length + 199 ≤ l.length + 200) t1
            have er : r' = r := Option.some.inj (t1'.symm.trans s1)
            refine ⟨r, 0, ?_, ?_⟩
            · rw [if_pos ha]; unfold spec_l03Value.f; rw [s1]; rfl
            · simp only [impl_ValueOf.j0, ha, Bool.not_true, Bool.false_eq_true, if_false]
              rw [if_true]; unfold impl_Field_value.f; rw [t2, er]; rfl
          · refine ⟨0, 2, ?_, ?_⟩
            · rw [if_neg ha]
            · rw [Bool.eq_false_iff.2 ha]; simp [impl_ValueOf.j0]
        · rw [if_neg hL, if_neg hL]
          exact ⟨0, 1, by simp, by simp [impl_ValueOf.j0]⟩
      · rw [if_neg h, if_neg h]
        exact ⟨0, 1, by simp, by simp [impl_ValueOf.j0]⟩
    obtain ⟨v, c, k1, k2⟩ := key
    rw [k1]
    simp only [Option.bind_some]
    rw [k2]
    simp only [Option.bind_some]
    rw [if_true]
    exact ends (by omega) _ (by omega)
end Go.Proofs.Ytaopplbahakpgaa.PureFnExactValueOf
namespace Go.Proofs.Ytaopplbahakpgaa.Pure
open Go.Proofs.Ytaopplbahakpgaa.PFnExactValueOf
theorem FnExactValueOf : laws_FnExactValueOf.Pure := PureFnExactValueOf.main
end Go.Proofs.Ytaopplbahakpgaa.Pure
