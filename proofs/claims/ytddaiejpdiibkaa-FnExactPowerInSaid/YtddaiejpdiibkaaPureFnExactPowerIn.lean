/- PowerIn of the program (which squares) and of the reference (which multiplies) agree for every field and every two numbers: products by reckoning, (x*a)*a = x*(a*a) by reckoning, the rest by induction. -/
import Derived.Test.YtddaiejpdiibkaaPFnExactPowerInx3
namespace Go.Proofs.Ytddaiejpdiibkaa.PureFnExactPowerIn
open Go.RowKit Go.Proofs.Ytddaiejpdiibkaa.PFnExactPowerIn Go.Proofs.YtddaiejpdiibkaaW.PrintWords Go.Proofs.YtddaiejpdiibkaaW.PrintLast Go.Proofs.YtddaiejpdiibkaaW.PrintMore
theorem w64 {x : Int} (h0 : -9223372036854775808 ≤ x) (h1 : x ≤ 9223372036854775807) : wrap64 x = x := by unfold wrap64; omega
theorem rd_drop (l : List Int) (i : Int) (h0 : 0 ≤ i) (h1 : i < (l.length : Int)) : l.drop i.toNat = rd l i :: l.drop (i + 1).toNat := by
  have hl : i.toNat < l.length := by omega
  rw [List.drop_eq_getElem_cons hl]
  have e : (i + 1).toNat = i.toNat + 1 := by omega
  rw [e]
  congr 1
  unfold rd
  rw [List.getD_eq_getElem?_getD, List.getElem?_eq_getElem hl]; rfl
theorem wf64 {x : Int} (h : (Lit.int .i64 x).wf = true) : -9223372036854775808 ≤ x ∧ x ≤ 9223372036854775807 := by
  simp [Lit.wf, IntKind.min, IntKind.max, IntKind.signed, IntKind.bits] at h; omega
theorem maxLen_eq : maxLen = 9223372036854775807 := by unfold maxLen; rfl
def flds : List (Nat × Nat) := [(1, 2), (1, 3), (2, 7), (3, 11), (3, 13), (4, 19), (4, 25), (4, 31), (5, 37), (5, 41), (5, 47), (5, 55), (5, 59), (5, 61)]
def okF (d q : Int) : Bool := decide (1 ≤ d) && decide (d ≤ 5) && decide (0 ≤ q) && decide (q < 64) && flds.contains (d.toNat, q.toNat)
theorem okF_small : ∀ d : Fin 6, ∀ q : Fin 64, impl_ValidField.f 60 (d.val : Int) (q.val : Int) = some (okF (d.val : Int) (q.val : Int)) ∧ spec_l01Ok.f 60 (d.val : Int) (q.val : Int) = some (okF (d.val : Int) (q.val : Int)) := by decide +kernel
theorem okF_off (d q : Int) (h : ¬ ((0 ≤ d ∧ d < 6) ∧ (0 ≤ q ∧ q < 64))) : okF d q = false := by
  unfold okF
  by_cases h0 : 1 ≤ d <;> by_cases h1 : d ≤ 5 <;> by_cases h2 : 0 ≤ q <;> by_cases h3 : q < 64 <;> first | omega | simp [h0, h1, h2, h3]
theorem okF_impl (d q : Int) (k : Nat) (hk : 60 ≤ k) : impl_ValidField.f k d q = some (okF d q) := by
  refine at_rounds (fun k => impl_ValidField.mono d q k) hk ?_
  by_cases h : (0 ≤ d ∧ d < 6) ∧ (0 ≤ q ∧ q < 64)
  · have := (okF_small ⟨d.toNat, by omega⟩ ⟨q.toNat, by omega⟩).1
    have e : ((d.toNat : Nat) : Int) = d := by omega
    have e1 : ((q.toNat : Nat) : Int) = q := by omega
    simp only [e, e1] at this
    exact this
  · rw [okF_off d q h]
    unfold impl_ValidField.f impl_within.f impl_IsIrreducible.f
    by_cases h0 : d ≥ 1
    · by_cases h1 : d ≤ 5
      · by_cases h2 : q < 2
        · simp [h0, h1, h2, impl_IsIrreducible.j0]
        · have h3 : q ≥ 64 := by omega
          simp [h0, h1, h2, h3, impl_IsIrreducible.j0]
      · simp [h0, h1]
    · simp [h0]
theorem okF_spec (d q : Int) (k : Nat) (hk : 60 ≤ k) : spec_l01Ok.f k d q = some (okF d q) := by
  refine at_rounds (fun k => spec_l01Ok.mono d q k) hk ?_
  by_cases h : (0 ≤ d ∧ d < 6) ∧ (0 ≤ q ∧ q < 64)
  · have := (okF_small ⟨d.toNat, by omega⟩ ⟨q.toNat, by omega⟩).2
    have e : ((d.toNat : Nat) : Int) = d := by omega
    have e1 : ((q.toNat : Nat) : Int) = q := by omega
    simp only [e, e1] at this
    exact this
  · rw [okF_off d q h]
    unfold spec_l01Ok.f spec_l00In.f spec_IsIrreducible.f
    by_cases h0 : d ≥ 1
    · by_cases h1 : d ≤ 5
      · by_cases h2 : q > 0
        · have h3 : ¬ q < 64 := by omega
          simp [h0, h1, h2, h3]
        · simp [h0, h1, h2]
      · simp [h0, h1]
    · simp [h0]
def S (d : Int) : Int := 2 ^ d.toNat
theorem okF_range {d q : Int} (h : okF d q = true) : 1 ≤ d ∧ d ≤ 5 ∧ 0 ≤ q ∧ q < 64 ∧ (d.toNat, q.toNat) ∈ flds := by
  simp only [okF, Bool.and_eq_true, decide_eq_true_eq, List.contains_iff_mem] at h
  exact ⟨h.1.1.1.1, h.1.1.1.2, h.1.1.2, h.1.2, h.2⟩
theorem sizes {d : Int} (h1 : 1 ≤ d) (h5 : d ≤ 5) : 0 ≤ IntKind.u64.wrap d ∧ IntKind.u64.wrap d = d ∧ shl .i64 1 d = S d ∧ wrap64 (S d - 1) = S d - 1 ∧ 2 ≤ S d ∧ S d ≤ 32 ∧ wrap64 (S d) = S d := by
  have : d = 1 ∨ d = 2 ∨ d = 3 ∨ d = 4 ∨ d = 5 := by omega
  rcases this with rfl | rfl | rfl | rfl | rfl <;> decide +kernel
def inF (d x : Int) : Bool := decide (0 ≤ x) && decide (x < S d)
theorem inF_iff {d x : Int} : inF d x = true ↔ 0 ≤ x ∧ x < S d := by unfold inF; simp
theorem S_nat (d : Int) : ((2 ^ d.toNat : Nat) : Int) = S d := by unfold S; simp
theorem hasP_inF {d : Int} (h1 : 1 ≤ d) (h5 : d ≤ 5) (x : Int) : hasP d x = inF d x := by
  obtain ⟨_, _, e, e2, e3, _⟩ := sizes h1 h5
  unfold hasP inF
  rw [e, e2]
  congr 1
  by_cases h : x < S d
  · simp [h, show x ≤ S d - 1 by omega]
  · simp [h, show ¬ x ≤ S d - 1 by omega]
def codeF (d q : Int) (right : Bool) (l : List Int) : Int := if okF d q = true then (if l.all (inF d) = true then (if right = true then 0 else 2) else 2) else 1
theorem has_tells {d q : Int} (h : okF d q = true) (l : List Int) : impl_Field_has.f d q l = some (l.all (inF d)) := by
  obtain ⟨h1, h5, _⟩ := okF_range h
  unfold impl_Field_has.f
  rw [if_pos (by omega)]
  congr 2
  funext x
  exact hasP_inF h1 h5 x
theorem code_tells (d q : Int) (right : Bool) (l : List Int) (k : Nat) (hk : 60 ≤ k) : impl_Field_code.f k d q right l = some (codeF d q right l) := by
  unfold impl_Field_code.f codeF
  rw [okF_impl d q k hk]
  simp only [Option.bind_some]
  by_cases h : okF d q = true
  · rw [if_pos h, if_pos h, has_tells h]
    simp only [Option.bind_some]
    by_cases h2 : l.all (inF d) = true
    · rw [if_pos h2, if_pos h2]
      by_cases h3 : right = true
      · rw [if_pos h3, if_pos h3]
      · rw [if_neg h3, if_neg h3]
    · rw [if_neg h2, if_neg h2]
  · rw [if_neg h, if_neg h]
theorem in_tells {d : Int} (h1 : 1 ≤ d) (h5 : d ≤ 5) (x : Int) : spec_l00In.f x 0 (wrap64 (S d - 1)) = some (inF d x) := by
  obtain ⟨_, _, _, e2, _⟩ := sizes h1 h5
  unfold spec_l00In.f inF
  rw [e2]
  by_cases h : x ≥ 0
  · have h0 : 0 ≤ x := h
    rw [if_pos h]
    by_cases h2 : x < S d
    · simp [h0, h2, show x ≤ S d - 1 by omega]
    · simp [h2, show ¬ x ≤ S d - 1 by omega]
  · have h0 : ¬ 0 ≤ x := h
    rw [if_neg h]; simp [h0]
theorem size_tells {d : Int} (h1 : 1 ≤ d) (h5 : d ≤ 5) (q : Int) : spec_l01Size.f d q = some (S d) := by
  obtain ⟨e0, e1, e, _⟩ := sizes h1 h5
  unfold spec_l01Size.f
  rw [if_pos e0, e1, e]
theorem given_tells (d q a b : Int) (k : Nat) (hk : 60 ≤ k) : spec_l01Given.f k d q a b = some (codeF d q true [a, b]) := by
  unfold spec_l01Given.f codeF
  rw [okF_spec d q k hk]
  simp only [Option.bind_some]
  by_cases h : okF d q = true
  · obtain ⟨h1, h5, _⟩ := okF_range h
    rw [if_pos h, if_pos h, size_tells h1 h5 q]
    simp only [Option.bind_some]
    rw [in_tells h1 h5 a, in_tells h1 h5 b]
    cases ha : inF d a <;> cases hb : inF d b <;> simp [ha, hb]
  · rw [if_neg h, if_neg h]
def mulOK (d q : Nat) : Bool := (List.range (2 ^ d)).all fun a => (List.range (2 ^ d)).all fun b =>
  match spec_l01Mul.f 100 (d : Int) (q : Int) (a : Int) (b : Int), impl_Field_mul.f 100 (d : Int) (q : Int) (a : Int) (b : Int) with
  | some r, some s => r == s && decide (0 ≤ r) && decide (r < 2 ^ d)
  | _, _ => false
theorem mulOK_1_2 : mulOK 1 2 = true := by decide +kernel
theorem mulOK_1_3 : mulOK 1 3 = true := by decide +kernel
theorem mulOK_2_7 : mulOK 2 7 = true := by decide +kernel
theorem mulOK_3_11 : mulOK 3 11 = true := by decide +kernel
theorem mulOK_3_13 : mulOK 3 13 = true := by decide +kernel
theorem mulOK_4_19 : mulOK 4 19 = true := by decide +kernel
theorem mulOK_4_25 : mulOK 4 25 = true := by decide +kernel
theorem mulOK_4_31 : mulOK 4 31 = true := by decide +kernel
theorem mulOK_5_37 : mulOK 5 37 = true := by decide +kernel
theorem mulOK_5_41 : mulOK 5 41 = true := by decide +kernel
theorem mulOK_5_47 : mulOK 5 47 = true := by decide +kernel
theorem mulOK_5_55 : mulOK 5 55 = true := by decide +kernel
theorem mulOK_5_59 : mulOK 5 59 = true := by decide +kernel
theorem mulOK_5_61 : mulOK 5 61 = true := by decide +kernel
theorem mulOK_all : flds.all (fun f => mulOK f.1 f.2) = true := by
  unfold flds
  simp only [List.all_cons, List.all_nil, mulOK_1_2, mulOK_1_3, mulOK_2_7, mulOK_3_11, mulOK_3_13, mulOK_4_19, mulOK_4_25, mulOK_4_31, mulOK_5_37, mulOK_5_41, mulOK_5_47, mulOK_5_55, mulOK_5_59, mulOK_5_61, Bool.and_self]
theorem mul_tells0 {d q a b : Int} (h : okF d q = true) (ha : inF d a = true) (hb : inF d b = true) :
    ∃ r, spec_l01Mul.f 100 d q a b = some r ∧ impl_Field_mul.f 100 d q a b = some r ∧ inF d r = true := by
  obtain ⟨h1, h5, h0, _, hm⟩ := okF_range h
  have h2 := List.all_eq_true.1 mulOK_all _ hm
  rw [inF_iff] at ha hb
  have ea : ((a.toNat : Nat) : Int) = a := by omega
  have eb : ((b.toNat : Nat) : Int) = b := by omega
  have ed : ((d.toNat : Nat) : Int) = d := by omega
  have eq : ((q.toNat : Nat) : Int) = q := by omega
  have la : a.toNat < 2 ^ d.toNat := Int.ofNat_lt.1 (by rw [ea, S_nat]; exact ha.2)
  have lb : b.toNat < 2 ^ d.toNat := Int.ofNat_lt.1 (by rw [eb, S_nat]; exact hb.2)
  unfold mulOK at h2
  have h3 := List.all_eq_true.1 (List.all_eq_true.1 h2 a.toNat (List.mem_range.2 la)) b.toNat (List.mem_range.2 lb)
  simp only [ea, eb, ed, eq] at h3
  revert h3
  cases hs : spec_l01Mul.f 100 d q a b with
  | none => intro h3; simp at h3
  | some r =>
    cases hi : impl_Field_mul.f 100 d q a b with
    | none => intro h3; simp at h3
    | some s =>
      intro h3
      simp only [Bool.and_eq_true, beq_iff_eq, decide_eq_true_eq] at h3
      obtain ⟨⟨rfl, h4⟩, h5⟩ := h3
      exact ⟨r, rfl, rfl, inF_iff.2 ⟨h4, h5⟩⟩
def M (d q a b : Int) : Int := (impl_Field_mul.f 100 d q a b).getD 0
theorem mul_tells {d q a b : Int} (h : okF d q = true) (ha : inF d a = true) (hb : inF d b = true) (k : Nat) (hk : 100 ≤ k) :
    spec_l01Mul.f k d q a b = some (M d q a b) ∧ impl_Field_mul.f k d q a b = some (M d q a b) ∧ inF d (M d q a b) = true := by
  obtain ⟨r, h1, h2, h3⟩ := mul_tells0 h ha hb
  have e : M d q a b = r := by unfold M; rw [h2]; rfl
  rw [e]
  exact ⟨at_rounds (fun k => spec_l01Mul.mono d q a b k) hk h1, at_rounds (fun k => impl_Field_mul.mono d q a b k) hk h2, h3⟩
def itM (d q a : Int) : Nat → Int → Int
  | 0, x => x
  | n + 1, x => itM d q a n (M d q x a)
theorem itM_step (d q a : Int) (n : Nat) (x : Int) : itM d q a (n + 1) x = itM d q a n (M d q x a) := rfl
theorem itM_zero (d q a x : Int) : itM d q a 0 x = x := rfl
theorem itM_succ (d q a : Int) : ∀ (n : Nat) (x : Int), itM d q a (n + 1) x = M d q (itM d q a n x) a := by
  intro n
  induction n with
  | zero => intro x; rfl
  | succ n ih => intro x; rw [itM, ih]; rfl
theorem itM_in {d q a : Int} (h : okF d q = true) (ha : inF d a = true) : ∀ (n : Nat) (x : Int), inF d x = true → inF d (itM d q a n x) = true := by
  intro n
  induction n with
  | zero => intro x hx; exact hx
  | succ n ih => intro x hx; exact ih _ (mul_tells h hx ha 100 (Nat.le_refl _)).2.2
theorem power_l {d q a : Int} (h : okF d q = true) (ha : inF d a = true) : ∀ (n : Nat) (x : Int) (k : Nat), inF d x = true → n ≤ 2000 → 101 + n ≤ k → spec_l01Power.l0 k a (n : Int) x d q = some (itM d q a n x) := by
  intro n
  induction n with
  | zero =>
    intro x k hx hn hk
    obtain ⟨k, rfl⟩ : ∃ m, k = m + 1 := ⟨k - 1, by omega⟩
    simp only [spec_l01Power.l0]
    rw [if_neg (by omega)]; rfl
  | succ n ih =>
    intro x k hx hn hk
    obtain ⟨k, rfl⟩ : ∃ m, k = m + 1 := ⟨k - 1, by omega⟩
    obtain ⟨e1, _, e3⟩ := mul_tells h hx ha k (by omega)
    simp only [spec_l01Power.l0]
    rw [if_pos (by omega), e1]
    simp only [Option.bind_some]
    rw [w64 (by omega) (by omega), show ((n + 1 : Nat) : Int) - 1 = (n : Int) by omega, ih _ k e3 (by omega) (by omega)]; rfl
theorem one_in {d : Int} (h1 : 1 ≤ d) : inF d 1 = true := by
  rw [inF_iff]
  refine ⟨by omega, ?_⟩
  rw [← S_nat]
  have : d.toNat ≠ 0 := by omega
  exact Int.ofNat_lt.2 (Nat.one_lt_two_pow this)
theorem power_tells {d q a n : Int} (h : okF d q = true) (ha : inF d a = true) (h0 : 0 ≤ n) (hn : n ≤ 2000) (k : Nat) (hk : 101 + n.toNat ≤ k) : spec_l01Power.f k d q a n = some (itM d q a n.toNat 1) := by
  obtain ⟨h1, _⟩ := okF_range h
  have e := power_l h ha n.toNat 1 k (one_in h1) (by omega) hk
  rw [show ((n.toNat : Nat) : Int) = n by omega] at e
  unfold spec_l01Power.f
  exact e
theorem zero_in {d : Int} : inF d 0 = true := by
  rw [inF_iff]
  refine ⟨Int.le_refl _, ?_⟩
  rw [← S_nat]
  exact Int.ofNat_lt.2 (Nat.two_pow_pos _)
def nice (n : Int) : Bool := decide (0 ≤ n) && decide (n ≤ 1000)
theorem within_nice (n : Int) : impl_within.f n 0 1000 = some (nice n) := by
  unfold impl_within.f nice
  by_cases h : n ≥ 0
  · have h0 : 0 ≤ n := h
    rw [if_pos h]; simp [h0]
  · have h0 : ¬ 0 ≤ n := h
    rw [if_neg h]; simp [h0]
theorem in_nice (n : Int) : spec_l00In.f n 0 1000 = some (nice n) := by
  unfold spec_l00In.f nice
  by_cases h : n ≥ 0
  · have h0 : 0 ≤ n := h
    rw [if_pos h]; simp [h0]
  · have h0 : ¬ 0 ≤ n := h
    rw [if_neg h]; simp [h0]
def timesF (d q a n : Int) : Int := if okF d q = true then (if inF d a = true ∧ nice n = true then 0 else 2) else 1
theorem code_times (d q a n : Int) : codeF d q (nice n) [a] = timesF d q a n := by
  unfold codeF timesF
  by_cases h : okF d q = true <;> cases ha : inF d a <;> cases hn : nice n <;> simp [h, ha, hn]
theorem times_tells (d q a n : Int) (k : Nat) (hk : 60 ≤ k) : spec_l01Times.f k d q a n = some (timesF d q a n) := by
  unfold spec_l01Times.f
  rw [given_tells d q a 0 k hk, in_nice]
  unfold codeF timesF
  by_cases h : okF d q = true <;> cases ha : inF d a <;> cases hn : nice n <;> simp [h, ha, hn, zero_in]
theorem times_cases (d q a n : Int) : (timesF d q a n = 0 ∧ okF d q = true ∧ inF d a = true ∧ 0 ≤ n ∧ n ≤ 1000) ∨ timesF d q a n = 1 ∨ timesF d q a n = 2 := by
  unfold timesF
  by_cases h : okF d q = true
  · by_cases h2 : inF d a = true ∧ nice n = true
    · left
      have hn := h2.2
      unfold nice at hn
      simp only [Bool.and_eq_true, decide_eq_true_eq] at hn
      rw [if_pos h, if_pos h2]
      exact ⟨rfl, h, h2.1, hn.1, hn.2⟩
    · right; right; rw [if_pos h, if_neg h2]
  · right; left; rw [if_neg h]
def stepN (d q a : Nat) : Nat := let b := 2 * a; if Nat.ble (2 ^ d) b then Nat.xor b q else b
def mulN (d q a b : Nat) : Nat :=
  let r := if Nat.beq (b % 2) 1 then a else 0
  let a := stepN d q a; let b := b / 2; let r := if Nat.beq (b % 2) 1 then Nat.xor r a else r
  let a := stepN d q a; let b := b / 2; let r := if Nat.beq (b % 2) 1 then Nat.xor r a else r
  let a := stepN d q a; let b := b / 2; let r := if Nat.beq (b % 2) 1 then Nat.xor r a else r
  let a := stepN d q a; let b := b / 2; if Nat.beq (b % 2) 1 then Nat.xor r a else r
def sameN (d q : Nat) : Bool := (List.range (2 ^ d)).all fun a => (List.range (2 ^ d)).all fun b => impl_Field_mul.f 100 (d : Int) (q : Int) (a : Int) (b : Int) == some (mulN d q a b : Int)
def asN (d q : Nat) : Bool := (List.range (2 ^ d)).all fun a => (List.range (2 ^ d)).all fun x => Nat.beq (mulN d q (mulN d q x a) a) (mulN d q x (mulN d q a a))
theorem sameN_1_2 : sameN 1 2 = true := by decide +kernel
theorem sameN_1_3 : sameN 1 3 = true := by decide +kernel
theorem sameN_2_7 : sameN 2 7 = true := by decide +kernel
theorem sameN_3_11 : sameN 3 11 = true := by decide +kernel
theorem sameN_3_13 : sameN 3 13 = true := by decide +kernel
theorem sameN_4_19 : sameN 4 19 = true := by decide +kernel
theorem sameN_4_25 : sameN 4 25 = true := by decide +kernel
theorem sameN_4_31 : sameN 4 31 = true := by decide +kernel
theorem sameN_5_37 : sameN 5 37 = true := by decide +kernel
theorem sameN_5_41 : sameN 5 41 = true := by decide +kernel
theorem sameN_5_47 : sameN 5 47 = true := by decide +kernel
theorem sameN_5_55 : sameN 5 55 = true := by decide +kernel
theorem sameN_5_59 : sameN 5 59 = true := by decide +kernel
theorem sameN_5_61 : sameN 5 61 = true := by decide +kernel
theorem sameN_all : flds.all (fun f => sameN f.1 f.2) = true := by
  unfold flds
  simp only [List.all_cons, List.all_nil, sameN_1_2, sameN_1_3, sameN_2_7, sameN_3_11, sameN_3_13, sameN_4_19, sameN_4_25, sameN_4_31, sameN_5_37, sameN_5_41, sameN_5_47, sameN_5_55, sameN_5_59, sameN_5_61, Bool.and_self]
theorem asN_1_2 : asN 1 2 = true := by decide +kernel
theorem asN_1_3 : asN 1 3 = true := by decide +kernel
theorem asN_2_7 : asN 2 7 = true := by decide +kernel
theorem asN_3_11 : asN 3 11 = true := by decide +kernel
theorem asN_3_13 : asN 3 13 = true := by decide +kernel
theorem asN_4_19 : asN 4 19 = true := by decide +kernel
theorem asN_4_25 : asN 4 25 = true := by decide +kernel
theorem asN_4_31 : asN 4 31 = true := by decide +kernel
theorem asN_5_37 : asN 5 37 = true := by decide +kernel
theorem asN_5_41 : asN 5 41 = true := by decide +kernel
theorem asN_5_47 : asN 5 47 = true := by decide +kernel
theorem asN_5_55 : asN 5 55 = true := by decide +kernel
theorem asN_5_59 : asN 5 59 = true := by decide +kernel
theorem asN_5_61 : asN 5 61 = true := by decide +kernel
theorem asN_all : flds.all (fun f => asN f.1 f.2) = true := by
  unfold flds
  simp only [List.all_cons, List.all_nil, asN_1_2, asN_1_3, asN_2_7, asN_3_11, asN_3_13, asN_4_19, asN_4_25, asN_4_31, asN_5_37, asN_5_41, asN_5_47, asN_5_55, asN_5_59, asN_5_61, Bool.and_self]
theorem M_N {d q a b : Int} (h : okF d q = true) (ha : inF d a = true) (hb : inF d b = true) : M d q a b = (mulN d.toNat q.toNat a.toNat b.toNat : Nat) := by
  obtain ⟨h1, h5, h6, _, hq⟩ := okF_range h
  rw [inF_iff] at ha hb
  have ea : ((a.toNat : Nat) : Int) = a := by omega
  have eb : ((b.toNat : Nat) : Int) = b := by omega
  have ed : ((d.toNat : Nat) : Int) = d := by omega
  have eq : ((q.toNat : Nat) : Int) = q := by omega
  have la : a.toNat < 2 ^ d.toNat := Int.ofNat_lt.1 (by rw [ea, S_nat]; exact ha.2)
  have lb : b.toNat < 2 ^ d.toNat := Int.ofNat_lt.1 (by rw [eb, S_nat]; exact hb.2)
  have h2 := List.all_eq_true.1 sameN_all _ hq
  unfold sameN at h2
  have h3 := List.all_eq_true.1 (List.all_eq_true.1 h2 a.toNat (List.mem_range.2 la)) b.toNat (List.mem_range.2 lb)
  simp only [ea, eb, ed, eq, beq_iff_eq] at h3
  unfold M; rw [h3]; rfl
theorem M_as {d q a x : Int} (h : okF d q = true) (ha : inF d a = true) (hx : inF d x = true) : M d q (M d q x a) a = M d q x (M d q a a) := by
  have i1 := (mul_tells h hx ha 100 (Nat.le_refl _)).2.2
  have i2 := (mul_tells h ha ha 100 (Nat.le_refl _)).2.2
  rw [M_N h i1 ha, M_N h hx i2, M_N h hx ha, M_N h ha ha]
  simp only [Int.toNat_natCast]
  obtain ⟨h1, h5, h6, _, hq⟩ := okF_range h
  rw [inF_iff] at ha hx
  have ea : ((a.toNat : Nat) : Int) = a := by omega
  have ex : ((x.toNat : Nat) : Int) = x := by omega
  have la : a.toNat < 2 ^ d.toNat := Int.ofNat_lt.1 (by rw [ea, S_nat]; exact ha.2)
  have lx : x.toNat < 2 ^ d.toNat := Int.ofNat_lt.1 (by rw [ex, S_nat]; exact hx.2)
  have h2 := List.all_eq_true.1 asN_all _ hq
  unfold asN at h2
  have h3 := List.all_eq_true.1 (List.all_eq_true.1 h2 a.toNat (List.mem_range.2 la)) x.toNat (List.mem_range.2 lx)
  rw [Nat.eq_of_beq_eq_true h3]
theorem itM_twice {d q a : Int} (h : okF d q = true) (ha : inF d a = true) : ∀ (n : Nat) (x : Int), inF d x = true → itM d q a (2 * n) x = itM d q (M d q a a) n x := by
  intro n
  induction n with
  | zero => intro x _; rw [Nat.mul_zero, itM_zero, itM_zero]
  | succ n ih =>
    intro x hx
    have i1 := (mul_tells h hx ha 100 (Nat.le_refl _)).2.2
    have i2 := (mul_tells h i1 ha 100 (Nat.le_refl _)).2.2
    rw [show 2 * (n + 1) = 2 * n + 1 + 1 by omega, itM_step, itM_step, itM_step, ← M_as h ha hx]
    exact ih _ i2
theorem low_bit (n : Nat) (hn : n ≤ 2000) : Go.bits .and .i64 (n : Int) 1 = ((n % 2 : Nat) : Int) := by
  have h : ∀ i j : Fin 45, Go.bits .and .i64 ((45 * i.val + j.val : Nat) : Int) 1 = (((45 * i.val + j.val) % 2 : Nat) : Int) := by decide +kernel
  have h2 := h ⟨n / 45, by omega⟩ ⟨n % 45, by omega⟩
  simp only [Nat.div_add_mod] at h2
  exact h2
theorem ipower_l {d q : Int} (h : okF d q = true) : ∀ (c : Nat) (n : Nat) (a x : Int) (k : Nat), n ≤ c → inF d a = true → inF d x = true → n ≤ 2000 → 102 + c ≤ k → impl_Field_power.l0 k a (n : Int) x d q = some (itM d q a n x) := by
  intro c
  induction c with
  | zero =>
    intro n a x k hc ha hx hn hk
    obtain ⟨k, rfl⟩ : ∃ m, k = m + 1 := ⟨k - 1, by omega⟩
    simp only [impl_Field_power.l0]
    obtain rfl : n = 0 := by omega
    rw [if_neg (by omega), itM_zero]
  | succ c ih =>
    intro n a x k hc ha hx hn hk
    obtain ⟨k, rfl⟩ : ∃ m, k = m + 1 := ⟨k - 1, by omega⟩
    simp only [impl_Field_power.l0]
    by_cases h0 : n = 0
    · subst h0; rw [if_neg (by omega), itM_zero]
    · rw [if_pos (by omega)]
      obtain ⟨_, e2, e3⟩ := mul_tells h hx ha k (by omega)
      obtain ⟨_, f2, f3⟩ := mul_tells h ha ha k (by omega)
      rw [low_bit n (by omega)]
      have ed : (n : Int) / 2 = ((n / 2 : Nat) : Int) := by omega
      by_cases hb : n % 2 = 1
      · rw [if_pos (by omega), e2]
        simp only [Option.bind_some]
        rw [f2]
        simp only [Option.bind_some]
        rw [ed, ih (n / 2) _ _ k (by omega) f3 e3 (by omega) (by omega), ← itM_twice h ha (n / 2) _ e3]
        have : n = 2 * (n / 2) + 1 := by omega
        rw [show itM d q a n x = itM d q a (2 * (n / 2) + 1) x by rw [← this], itM_step]
      · rw [if_neg (by omega), f2]
        simp only [Option.bind_some]
        rw [ed, ih (n / 2) _ _ k (by omega) f3 hx (by omega) (by omega), ← itM_twice h ha (n / 2) _ hx, show 2 * (n / 2) = n by omega]
theorem main : laws_FnExactPowerIn.Pure := by
  intro d q a n _ _ _ _
  refine ⟨1200, ?_⟩
  unfold laws_FnExactPowerIn.f laws_toField.f spec_PowerIn.f impl_PowerIn.f
  simp only [Option.bind_some]
  rw [times_tells d q a n 1200 (by omega), within_nice]
  simp only [Option.bind_some]
  rw [code_tells d q _ [a] 1200 (by omega), code_times]
  simp only [Option.bind_some]
  rcases times_cases d q a n with ⟨e, h, ha, h0, hn⟩ | e | e
  · rw [e]
    obtain ⟨h1, _⟩ := okF_range h
    have e1 := power_tells h ha h0 (by omega) 1200 (by omega)
    have e2 := ipower_l h n.toNat n.toNat a 1 1200 (Nat.le_refl _) ha (one_in h1) (by omega) (by omega)
    rw [show ((n.toNat : Nat) : Int) = n by omega] at e2
    unfold impl_Field_power.f
    rw [if_pos rfl, if_pos rfl, e1, e2]; simp
  · rw [e]; simp
  · rw [e]; simp
end Go.Proofs.Ytddaiejpdiibkaa.PureFnExactPowerIn
namespace Go.Proofs.Ytddaiejpdiibkaa.Pure
open Go.Proofs.Ytddaiejpdiibkaa.PFnExactPowerIn
theorem FnExactPowerIn : laws_FnExactPowerIn.Pure := PureFnExactPowerIn.main
end Go.Proofs.Ytddaiejpdiibkaa.Pure
