/- DualWeights of the program and of the reference agree for every size and every list of weights, valid or not, leave the list alone, and hand back a list of their own (beyond 2^20 weights the law itself asks nothing). -/
import Derived.Test.YtjecnhmcikckhaaPFnExactDualWeightsx5
namespace Go.Proofs.Ytjecnhmcikckhaa.PureFnExactDualWeights
open Go.RowKit Go.Proofs.Ytjecnhmcikckhaa.PFnExactDualWeights Go.Proofs.YtjecnhmcikckhaaW.PrintWords Go.Proofs.YtjecnhmcikckhaaW.PrintLast Go.Proofs.YtjecnhmcikckhaaW.PrintMore
set_option linter.unusedVariables false
set_option linter.unusedSimpArgs false
theorem w64 {x : Int} (h0 : -9223372036854775808 ≤ x) (h1 : x ≤ 9223372036854775807) : wrap64 x = x := by unfold wrap64; omega
theorem rd_drop (l : List Int) (i : Int) (h0 : 0 ≤ i) (h1 : i < (l.length : Int)) : l.drop i.toNat = rd l i :: l.drop (i + 1).toNat := by
  have hl : i.toNat < l.length := by omega
  rw [List.drop_eq_getElem_cons hl]
  have e : (i + 1).toNat = i.toNat + 1 := by omega
  rw [e]
  congr 1
  unfold rd
  rw [List.getD_eq_getElem?_getD, List.getElem?_eq_getElem hl]; rfl
theorem wf64 {x : Int} (h : (Lit.int .i64 x).wf = true) : -9223372036854775808 ≤ x ∧ x ≤ 9223372036854775807 := by
  simp [Lit.wf, IntKind.min, IntKind.max, IntKind.signed, IntKind.bits] at h; omega
theorem maxLen_eq : maxLen = 9223372036854775807 := by unfold maxLen; rfl
theorem laws_eqInt64S.tells_l (a b : List Int) (hl : a.length = b.length) (hb : (a.length : Int) ≤ 9223372036854775807) : ∀ (d : Nat) (i : Int) (k : Nat), 0 ≤ i → i ≤ (a.length : Int) → (a.length : Int) - i = d → d < k →
    laws_eqInt64S.l0 k a b i = some (decide (a.drop i.toNat = b.drop i.toNat)) := by
  intro d
  induction d with
  | zero =>
    intro k' k h0 h1 hd hk
    obtain ⟨k, rfl⟩ : ∃ m, k = m + 1 := ⟨k - 1, by omega⟩
    simp only [laws_eqInt64S.l0]
    rw [if_neg (by omega), List.drop_eq_nil_of_le (by omega), List.drop_eq_nil_of_le (by omega)]; simp
  | succ d ih =>
    intro i k h0 h1 hd hk
    obtain ⟨k, rfl⟩ : ∃ m, k = m + 1 := ⟨k - 1, by omega⟩
    simp only [laws_eqInt64S.l0]
    rw [if_pos (by omega), if_pos h0, if_pos (by omega), w64 (by omega) (by omega), rd_drop a i h0 (by omega), rd_drop b i h0 (by omega)]
    by_cases e : rd a i = rd b i
    · rw [if_pos e, ih (i + 1) k (by omega) (by omega) (by omega) (by omega)]
      simp [e]
    · rw [if_neg e]; simp [e]
theorem laws_eqInt64S.tells (a b : List Int) (hb : a.length ≤ 9223372036854775807) (k : Nat) (hk : a.length < k) : laws_eqInt64S.f k a b = some (decide (a = b)) := by
  unfold laws_eqInt64S.f
  by_cases h : (a.length : Int) = (b.length : Int)
  · rw [if_pos h, laws_eqInt64S.tells_l a b (by omega) (by omega) a.length 0 k (by omega) (by omega) (by omega) hk]
    simp
  · rw [if_neg h]
    have : a ≠ b := fun e => h (by rw [e])
    simp [this]
theorem set_rd (l o : List Int) (i : Int) (h0 : 0 ≤ i) (h1 : i < (l.length : Int)) (ho : o.length = l.length) (he : o.take i.toNat = l.take i.toNat) : (o.set i.toNat (rd l i)).take (i + 1).toNat = l.take (i + 1).toNat := by
  have e : (i + 1).toNat = i.toNat + 1 := by omega
  have hl : i.toNat < l.length := by omega
  have ho' : i.toNat < o.length := by omega
  rw [e, List.take_succ_eq_append_getElem (by simpa using ho'), List.take_succ_eq_append_getElem hl, List.take_set_of_le (Nat.le_refl _), he, List.getElem_set_self]
  congr 2
  unfold rd
  rw [List.getD_eq_getElem?_getD, List.getElem?_eq_getElem hl]; rfl
theorem laws_toInt64S.tells_l (l : List Int) (hb : (l.length : Int) ≤ 9223372036854775807) : ∀ (d : Nat) (i : Int) (o : List Int) (k : Nat), 0 ≤ i → i ≤ (l.length : Int) → (l.length : Int) - i = d → d < k → o.length = l.length → o.take i.toNat = l.take i.toNat →
    laws_toInt64S.l0 k l o i = some l := by
  intro d
  induction d with
  | zero =>
    intro i o k h0 h1 hd hk ho he
    obtain ⟨k, rfl⟩ : ∃ m, k = m + 1 := ⟨k - 1, by omega⟩
    simp only [laws_toInt64S.l0]
    rw [if_neg (by omega)]
    have e : i.toNat = l.length := by omega
    rw [e, List.take_of_length_le (by omega), List.take_of_length_le (by omega)] at he
    rw [he]
  | succ d ih =>
    intro i o k h0 h1 hd hk ho he
    obtain ⟨k, rfl⟩ : ∃ m, k = m + 1 := ⟨k - 1, by omega⟩
    simp only [laws_toInt64S.l0]
    rw [if_pos (by omega), if_pos h0, if_pos (by omega), w64 (by omega) (by omega)]
    exact ih (i + 1) _ k (by omega) (by omega) (by omega) (by omega) (by simpa using ho) (set_rd l o i h0 (by omega) ho he)
theorem laws_toInt64S.tells (l : List Int) (hl : l.length ≤ 1048576) (k : Nat) (hk : l.length < k) : laws_toInt64S.f k l = some l := by
  unfold laws_toInt64S.f
  rw [if_pos (by omega), if_pos (by omega)]
  exact laws_toInt64S.tells_l l (by omega) l.length 0 _ k (by omega) (by omega) (by omega) hk (by simp) (by simp)
theorem wrap_shift (x q : Int) : wrap64 (x + 18446744073709551616 * q) = wrap64 x := by unfold wrap64; omega
theorem wrap_off (x : Int) : ∃ q, wrap64 x = x + 18446744073709551616 * q := ⟨-((x + 9223372036854775808) / 18446744073709551616), by unfold wrap64; omega⟩
theorem wrap_add (a b : Int) : wrap64 (wrap64 a + b) = wrap64 (a + b) := by unfold wrap64; omega
theorem wrap_add' (a b : Int) : wrap64 (a + wrap64 b) = wrap64 (a + b) := by unfold wrap64; omega
theorem wrap_neg (a : Int) : wrap64 (-(wrap64 a)) = wrap64 (-a) := by unfold wrap64; omega
theorem wrap_wrap (a : Int) : wrap64 (wrap64 a) = wrap64 a := by unfold wrap64; omega
theorem wrap_mul (a b : Int) : wrap64 (wrap64 a * b) = wrap64 (a * b) := by
  obtain ⟨q, hq⟩ := wrap_off a
  rw [hq, Int.add_mul, Int.mul_assoc, wrap_shift]
theorem wi (x : Int) : IntKind.i64.wrap x = wrap64 x := by
  simp [IntKind.wrap, wrap64, IntKind.signed, IntKind.bits]
  split <;> omega
theorem shl_eq {w e : Int} (h0 : 0 ≤ e) (h1 : e ≤ 40) : shl .i64 w e = wrap64 (w * 2 ^ e.toNat) := by
  unfold shl
  rw [wi, show min e.toNat IntKind.i64.bits = e.toNat by simp [IntKind.bits]; omega]
def G (a b : Int) : Int := (impl_gauss.f 60 2 a b).getD 0
theorem gauss_small : ∀ a b : Fin 6, impl_gauss.f 60 2 (a.val : Int) (b.val : Int) = some (G a.val b.val) := by decide +kernel
theorem gauss_tells {a b : Int} (h0 : 0 ≤ a) (h1 : a ≤ 5) (h2 : 0 ≤ b) (h3 : b ≤ 5) (k : Nat) (hk : 60 ≤ k) : impl_gauss.f k 2 a b = some (G a b) := by
  refine at_rounds (fun k => impl_gauss.mono 2 a b k) hk ?_
  have := gauss_small ⟨a.toNat, by omega⟩ ⟨b.toNat, by omega⟩
  simp only [show ((a.toNat : Nat) : Int) = a by omega, show ((b.toNat : Nat) : Int) = b by omega] at this
  exact this
def ex (m l e : Int) : Int := m * l + Int.tdiv (e * (e - 1)) 2
theorem ex_small : ∀ m l e : Fin 6, wrap64 (wrap64 ((m.val : Int) * l.val) + wrap64 (Int.tdiv (wrap64 ((e.val : Int) * wrap64 ((e.val : Int) - 1))) 2)) = ex m.val l.val e.val ∧ 0 ≤ ex m.val l.val e.val ∧ ex m.val l.val e.val ≤ 40 := by decide +kernel
theorem ex_tells {m l e : Int} (h0 : 0 ≤ m) (h1 : m ≤ 5) (h2 : 0 ≤ l) (h3 : l ≤ 5) (h4 : 0 ≤ e) (h5 : e ≤ 5) : wrap64 (wrap64 (m * l) + wrap64 (Int.tdiv (wrap64 (e * wrap64 (e - 1))) 2)) = ex m l e ∧ 0 ≤ ex m l e ∧ ex m l e ≤ 40 := by
  have := ex_small ⟨m.toNat, by omega⟩ ⟨l.toNat, by omega⟩ ⟨e.toNat, by omega⟩
  simp only [show ((m.toNat : Nat) : Int) = m by omega, show ((l.toNat : Nat) : Int) = l by omega, show ((e.toNat : Nat) : Int) = e by omega] at this
  exact this
def coef (n m i j l : Int) : Int := (if Int.tmod (j - l) 2 = 1 then -1 else 1) * (2 ^ (ex m l (j - l)).toNat * (G (n - l) (n - j) * G (n - i) l))
def sumC (n m i j : Int) : Nat → Int → Int
  | 0, _ => 0
  | d + 1, l => coef n m i j l + sumC n m i j d (l + 1)
def cnt (n i j : Int) : Nat := (mn j (n - i) + 1).toNat
def T (n m i j : Int) : Int := sumC n m i j (cnt n i j) 0
def termOK (n : Nat) : Bool := (List.range 6).all fun m => Nat.ble (m + 1) n || (List.range (n + 1)).all fun i => (List.range (n + 1)).all fun j => spec_l04Term.f 60 (n : Int) (m : Int) (i : Int) (j : Int) == some (T n m i j)
theorem term_1 : termOK 1 = true := by decide +kernel
theorem term_2 : termOK 2 = true := by decide +kernel
theorem term_3 : termOK 3 = true := by decide +kernel
theorem term_4 : termOK 4 = true := by decide +kernel
theorem term_5 : termOK 5 = true := by decide +kernel
theorem term_tells {n m i j : Int} (hn : 1 ≤ n) (hn5 : n ≤ 5) (hm : n ≤ m) (hm5 : m ≤ 5) (hi : 0 ≤ i) (hi2 : i ≤ n) (hj : 0 ≤ j) (hj2 : j ≤ n) (k : Nat) (hk : 60 ≤ k) : spec_l04Term.f k n m i j = some (T n m i j) := by
  refine at_rounds (fun k => spec_l04Term.mono n m i j k) hk ?_
  have h : termOK n.toNat = true := by
    have : n.toNat = 1 ∨ n.toNat = 2 ∨ n.toNat = 3 ∨ n.toNat = 4 ∨ n.toNat = 5 := by omega
    rcases this with e | e | e | e | e <;> rw [e]
    · exact term_1
    · exact term_2
    · exact term_3
    · exact term_4
    · exact term_5
  unfold termOK at h
  have h2 := List.all_eq_true.1 h m.toNat (List.mem_range.2 (by omega))
  have hb : Nat.ble (m.toNat + 1) n.toNat = false := by
    cases e : Nat.ble (m.toNat + 1) n.toNat with
    | false => rfl
    | true => have := Nat.le_of_ble_eq_true e; omega
  rw [hb, Bool.false_or] at h2
  have h3 := List.all_eq_true.1 (List.all_eq_true.1 h2 i.toNat (List.mem_range.2 (by omega))) j.toNat (List.mem_range.2 (by omega))
  simp only [show ((n.toNat : Nat) : Int) = n by omega, show ((m.toNat : Nat) : Int) = m by omega, show ((i.toNat : Nat) : Int) = i by omega, show ((j.toNat : Nat) : Int) = j by omega, beq_iff_eq] at h3
  exact h3
theorem lift {α : Type} {f : Nat → Option α} (hm : ∀ k, LeO (f k) (f (k + 1))) {k k' : Nat} {r : α} (h : f k = some r) (hk : k ≤ k') : f k' = some r := at_rounds hm hk h
theorem neg_form (s w p g h : Int) : s + -(w * p * g * h) = s + w * (-1 * (p * (g * h))) := by grind
theorem pos_form (s w p g h : Int) : s + w * p * g * h = s + w * (1 * (p * (g * h))) := by grind
/-- the program's innermost loop -/
theorem impl_l3 {n m j i w A : Int} {l o : List Int} {len : Int} (hn : 1 ≤ n) (hn5 : n ≤ 5) (hm : n ≤ m) (hm5 : m ≤ 5) (hi : 0 ≤ i) (hi2 : i ≤ n) (hj : 0 ≤ j) (hj2 : j ≤ n) {k : Nat} (hk : 60 ≤ k) {R : List Int × Int} : ∀ (d : Nat) (q s : Int), 0 ≤ q → q + d = mn j (n - i) + 1 → wrap64 s = s →
    impl_DualWeights.l2 k l n m A o j (wrap64 (s + w * sumC n m i j d q)) (n + 1) j l len (wrap64 (i + 1)) = some R →
    impl_DualWeights.l3 (k + d + 1) l n m A o j s i w (n + 1) j l len i (mn j (n - i) + 1) q = some R := by
  have hmn : mn j (n - i) ≤ j ∧ mn j (n - i) ≤ n - i := by unfold mn; split <;> omega
  intro d
  induction d with
  | zero =>
    intro q s hq hd hs h
    simp only [impl_DualWeights.l3]
    rw [if_neg (by omega)]
    simp only [sumC, Int.mul_zero, Int.add_zero] at h
    rw [hs] at h
    exact h
  | succ d ih =>
    intro q s hq hd hs h
    obtain ⟨e1, e2, e3⟩ := ex_tells (m := m) (l := q) (e := j - q) (by omega) (by omega) (by omega) (by omega) (by omega) (by omega)
    rw [show k + (d + 1) + 1 = k + d + 1 + 1 by omega]
    obtain ⟨K, hK⟩ : ∃ K, K = k + d + 1 := ⟨_, rfl⟩
    rw [← hK]
    simp only [impl_DualWeights.l3]
    rw [if_pos (by omega), w64 (x := j - q) (by omega) (by omega), w64 (x := n - q) (by omega) (by omega), w64 (x := n - j) (by omega) (by omega), w64 (x := n - i) (by omega) (by omega), w64 (x := q + 1) (by omega) (by omega), e1, if_pos e2, shl_eq e2 e3,
      gauss_tells (a := n - q) (b := n - j) (by omega) (by omega) (by omega) (by omega) _ (by omega), gauss_tells (a := n - i) (b := q) (by omega) (by omega) (by omega) (by omega) _ (by omega)]
    simp only [Option.bind_some]
    have key : ∀ s', s' = wrap64 (s + w * coef n m i j q) → impl_DualWeights.l3 K l n m A o j s' i w (n + 1) j l len i (mn j (n - i) + 1) (q + 1) = some R := by
      intro s' hs'
      rw [hK]
      refine ih (q + 1) s' (by omega) (by omega) (by rw [hs', wrap_wrap]) ?_
      rw [hs', wrap_add]
      have e : s + w * coef n m i j q + w * sumC n m i j d (q + 1) = s + w * sumC n m i j (d + 1) q := by
        simp only [sumC]; rw [Int.mul_add]; omega
      rw [e]; exact h
    by_cases hp : Int.tmod (j - q) 2 = 1
    · rw [if_pos hp]
      refine key _ ?_
      unfold coef
      rw [if_pos hp]
      simp only [wrap_mul, wrap_neg, wrap_add']
      rw [neg_form]
    · rw [if_neg hp]
      refine key _ ?_
      unfold coef
      rw [if_neg hp]
      simp only [wrap_mul, wrap_add']
      rw [pos_form]
def acc (n m j : Int) (l : List Int) : Nat → Int → Int → Int
  | 0, _, s => s
  | d + 1, i, s => acc n m j l d (i + 1) (wrap64 (s + rd l i * T n m i j))
theorem impl_l2 {n m j A : Int} {l o : List Int} (hn : 1 ≤ n) (hn5 : n ≤ 5) (hm : n ≤ m) (hm5 : m ≤ 5) (hj : 0 ≤ j) (hj2 : j ≤ n) (hl : (l.length : Int) = n + 1) {k : Nat} (hk : 60 ≤ k) {R : List Int × Int} : ∀ (d : Nat) (i s : Int), 0 ≤ i → i + d = n + 1 → wrap64 s = s →
    impl_DualWeights.l2 k l n m A o j (acc n m j l d i s) (n + 1) j l (l.length : Int) (n + 1) = some R →
    impl_DualWeights.l2 (k + 10 * d) l n m A o j s (n + 1) j l (l.length : Int) i = some R := by
  intro d
  induction d with
  | zero =>
    intro i s hi hd hs h
    rw [show i = n + 1 by omega]
    exact h
  | succ d ih =>
    intro i s hi hd hs h
    have hmn : mn j (n - i) ≤ j ∧ mn j (n - i) ≤ n - i ∧ 0 ≤ mn j (n - i) := by unfold mn; split <;> omega
    have hc : ((cnt n i j : Nat) : Int) = mn j (n - i) + 1 := by unfold cnt; omega
    have h1 := ih (i + 1) (wrap64 (s + rd l i * T n m i j)) (by omega) (by omega) (wrap_wrap _) h
    have h2 := impl_l3 (w := rd l i) (len := (l.length : Int)) hn hn5 hm hm5 hi (by omega) hj hj2 (k := k + 10 * d) (by omega) (cnt n i j) 0 s (by omega) (by omega) hs (by rw [w64 (x := i + 1) (by omega) (by omega)]; exact h1)
    have h3 : impl_DualWeights.l3 (k + 10 * d + 9) l n m A o j s i (rd l i) (n + 1) j l (l.length : Int) i (mn j (n - i) + 1) 0 = some R :=
      lift (f := fun k => impl_DualWeights.l3 k l n m A o j s i (rd l i) (n + 1) j l (l.length : Int) i (mn j (n - i) + 1) 0) (fun k => by have := impl_DualWeights.mono_l k; exact this.2.2.2.2.2 _ _ _ _ _ _ _ _ _ _ _ _ _ _ _ _) h2 (by omega)
    rw [show k + 10 * (d + 1) = k + 10 * d + 9 + 1 by omega]
    simp only [impl_DualWeights.l2]
    rw [if_pos (by omega), if_pos hi, if_pos (by omega), w64 (x := n - i) (by omega) (by omega), w64 (x := mn j (n - i) + 1) (by omega) (by omega)]
    exact h3
theorem spec_l2 {n m j A : Int} {l o : List Int} (hn : 1 ≤ n) (hn5 : n ≤ 5) (hm : n ≤ m) (hm5 : m ≤ 5) (hj : 0 ≤ j) (hj2 : j ≤ n) (hl : (l.length : Int) = n + 1) {k : Nat} (hk : 60 ≤ k) {R : List Int × Int} : ∀ (d : Nat) (i s : Int), 0 ≤ i → i + d = n + 1 →
    spec_DualWeights.l2 k n m l A o j (acc n m j l d i s) (n + 1) = some R →
    spec_DualWeights.l2 (k + d) n m l A o j s i = some R := by
  intro d
  induction d with
  | zero =>
    intro i s hi hd h
    rw [show i = n + 1 by omega]
    exact h
  | succ d ih =>
    intro i s hi hd h
    have h1 := ih (i + 1) (wrap64 (s + rd l i * T n m i j)) (by omega) (by omega) h
    rw [show k + (d + 1) = k + d + 1 by omega]
    simp only [spec_DualWeights.l2]
    rw [if_pos (by omega), if_pos hi, if_pos (by omega), term_tells hn hn5 hm hm5 hi (by omega) hj hj2 _ (by omega), w64 (x := i + 1) (by omega) (by omega)]
    simp only [Option.bind_some, wrap_add']
    exact h1
theorem sim {n m A : Int} {l : List Int} (hn : 1 ≤ n) (hn5 : n ≤ 5) (hm : n ≤ m) (hm5 : m ≤ 5) (hl : (l.length : Int) = n + 1) (hA : A ≠ 0) : ∀ (d : Nat) (j : Int) (o : List Int), 0 ≤ j → j + d = n + 1 → (o.length : Int) = j →
    ∃ (R : List Int × Int), spec_DualWeights.l1 (100 + 20 * d) n m l A o j = some R ∧ impl_DualWeights.l1 (100 + 200 * d) l n m A o (n + 1) j = some R ∧ R.1.length ≤ 10 := by
  intro d
  induction d with
  | zero =>
    intro j o hj hd ho
    rw [show 100 + 20 * 0 = 99 + 1 by omega, show 100 + 200 * 0 = 99 + 1 by omega]
    simp only [spec_DualWeights.l1, impl_DualWeights.l1]
    rw [if_neg (by omega), if_neg (by omega)]
    exact ⟨(o, 0), rfl, rfl, by simp; omega⟩
  | succ d ih =>
    intro j o hj hd ho
    obtain ⟨N, hN⟩ : ∃ N : Nat, (N : Int) = n + 1 := ⟨(n + 1).toNat, by omega⟩
    generalize hS : acc n m j l N 0 0 = S
    have main : ∃ (R : List Int × Int), spec_DualWeights.l2 (100 + 20 * d + 2) n m l A o j S (n + 1) = some R ∧ impl_DualWeights.l2 (100 + 200 * d + 2) l n m A o j S (n + 1) j l (l.length : Int) (n + 1) = some R ∧ R.1.length ≤ 10 := by
      rw [show 100 + 20 * d + 2 = 100 + 20 * d + 1 + 1 by omega, show 100 + 200 * d + 2 = 100 + 200 * d + 1 + 1 by omega]
      simp only [spec_DualWeights.l2, impl_DualWeights.l2]
      rw [if_neg (show ¬ n + 1 ≤ n by omega), if_neg (show ¬ n + 1 < (l.length : Int) by omega)]
      by_cases c1 : S < 0
      · rw [if_pos c1, if_pos c1]; exact ⟨_, rfl, rfl, by simp⟩
      · rw [if_neg c1, if_neg c1, if_neg hA, if_neg hA]
        by_cases c2 : Int.tmod S A = 0
        · rw [if_pos c2, if_pos c2, if_pos (by omega), if_pos (by omega), w64 (x := j + 1) (by omega) (by omega)]
          obtain ⟨R, r1, r2, r3⟩ := ih (j + 1) (o ++ [wrap64 (Int.tdiv S A)]) (by omega) (by omega) (by simp; omega)
          refine ⟨R, ?_, ?_, r3⟩
          · exact lift (f := fun k => spec_DualWeights.l1 k n m l A (o ++ [wrap64 (Int.tdiv S A)]) (j + 1)) (fun k => by have := spec_DualWeights.mono_l k; exact this.2.2.2.1 _ _ _ _ _ _) r1 (by omega)
          · exact lift (f := fun k => impl_DualWeights.l1 k l n m A (o ++ [wrap64 (Int.tdiv S A)]) (n + 1) (j + 1)) (fun k => by have := impl_DualWeights.mono_l k; exact this.2.2.2.1 _ _ _ _ _ _ _) r2 (by omega)
        · rw [if_neg c2, if_neg c2]; exact ⟨_, rfl, rfl, by simp⟩
    obtain ⟨R, r1, r2, r3⟩ := main
    have s1 := spec_l2 hn hn5 hm hm5 hj (by omega) hl (k := 100 + 20 * d + 2) (by omega) N 0 0 (by omega) (by omega) (by rw [hS]; exact r1)
    have s2 := impl_l2 hn hn5 hm hm5 hj (by omega) hl (k := 100 + 200 * d + 2) (by omega) N 0 0 (by omega) (by omega) (w64 (by omega) (by omega)) (by rw [hS]; exact r2)
    refine ⟨R, ?_, ?_, r3⟩
    · have s3 := lift (f := fun k => spec_DualWeights.l2 k n m l A o j 0 0) (fun k => by have := spec_DualWeights.mono_l k; exact this.2.2.2.2.1 _ _ _ _ _ _ _ _) s1 (k' := 100 + 20 * d + 19) (by omega)
      rw [show 100 + 20 * (d + 1) = 100 + 20 * d + 19 + 1 by omega]
      simp only [spec_DualWeights.l1]
      rw [if_pos (by omega)]; exact s3
    · have s3 := lift (f := fun k => impl_DualWeights.l2 k l n m A o j 0 (n + 1) j l (l.length : Int) 0) (fun k => by have := impl_DualWeights.mono_l k; exact this.2.2.2.2.1 _ _ _ _ _ _ _ _ _ _ _ _) s2 (k' := 100 + 200 * d + 199) (by omega)
      rw [show 100 + 200 * (d + 1) = 100 + 200 * d + 199 + 1 by omega]
      simp only [impl_DualWeights.l1]
      rw [if_pos (by omega)]; exact s3
def wIn (x : Int) : Bool := decide (0 ≤ x) && decide (x ≤ 33554432)
theorem spec_in (x a b : Int) : spec_l00In.f x a b = some (decide (a ≤ x) && decide (x ≤ b)) := by
  unfold spec_l00In.f
  by_cases h : x ≥ a
  · have h' : a ≤ x := h
    rw [if_pos h]; simp [h']
  · have h' : ¬ a ≤ x := h
    rw [if_neg h]; simp [h']
theorem impl_in (x a b : Int) : impl_within.f x a b = some (decide (a ≤ x) && decide (x ≤ b)) := by
  unfold impl_within.f
  by_cases h : x ≥ a
  · have h' : a ≤ x := h
    rw [if_pos h]; simp [h']
  · have h' : ¬ a ≤ x := h
    rw [if_neg h]; simp [h']
theorem any_not (l : List Int) : (l.any fun x => !wIn x) = !l.all wIn := by
  induction l with
  | nil => rfl
  | cons x l ih => simp only [List.any_cons, List.all_cons, ih]; cases wIn x <;> simp
theorem any_tells (l : List Int) : anyO (fun x_ => impl_DualWeights_1.f x_) l = some (!l.all wIn) := by
  have e3 := anyO_some (fun x_ => impl_DualWeights_1.f x_) (fun x => !wIn x) l (fun x _ => by unfold impl_DualWeights_1.f; rw [impl_in]; rfl)
  rw [e3, any_not]
theorem sum_bound (l : List Int) (h : l.all wIn = true) : 0 ≤ l.sum ∧ l.sum ≤ 33554432 * (l.length : Int) := by
  induction l with
  | nil => simp
  | cons x l ih =>
    simp only [List.all_cons, Bool.and_eq_true] at h
    have := ih h.2
    have hx := h.1
    unfold wIn at hx
    simp only [Bool.and_eq_true, decide_eq_true_eq] at hx
    simp only [List.sum_cons, List.length_cons]
    omega
theorem all_drop (l : List Int) (h : l.all wIn = true) (i : Nat) : (l.drop i).all wIn = true := by
  rw [List.all_eq_true] at h ⊢
  intro x hx
  exact h x (List.mem_of_mem_drop hx)
theorem spec_l0 {n m : Int} {l : List Int} (hl : l.length ≤ 10) {k : Nat} {R : List Int × Int} (ha : l.all wIn = true) : ∀ (d : Nat) (i s : Int), 0 ≤ i → i + d = (l.length : Int) → 0 ≤ s → s ≤ 33554432 * i →
    spec_DualWeights.j2 k n m l true (s + (l.drop i.toNat).sum) = some R → spec_DualWeights.l0 (k + d + 1) n m l true s i = some R := by
  intro d
  induction d with
  | zero =>
    intro i s hi hd hs hs2 h
    simp only [spec_DualWeights.l0]
    rw [if_neg (by omega)]
    rw [List.drop_eq_nil_of_le (by omega)] at h
    simpa using h
  | succ d ih =>
    intro i s hi hd hs hs2 h
    have hx : wIn (rd l i) = true := by
      have h1 := all_drop l ha i.toNat
      rw [rd_drop l i hi (by omega)] at h1
      simp only [List.all_cons, Bool.and_eq_true] at h1
      exact h1.1
    have hx' := hx
    unfold wIn at hx'
    rw [rd_drop l i hi (by omega), List.sum_cons] at h
    simp only [spec_DualWeights.l0]
    rw [if_pos (by omega), if_pos trivial, if_pos hi, spec_in, hx']
    simp only [Bool.and_eq_true, decide_eq_true_eq] at hx'
    simp only [Option.bind_some]
    rw [w64 (x := i + 1) (by omega) (by omega), w64 (x := s + rd l i) (by omega) (by omega)]
    refine ih (i + 1) (s + rd l i) (by omega) (by omega) (by omega) (by omega) ?_
    rw [Int.add_assoc]; exact h
theorem spec_l0_off {n m : Int} {l : List Int} (hl : l.length ≤ 10) {k : Nat} : ∀ (d : Nat) (i s : Int), 0 ≤ i → i + d = (l.length : Int) → (l.drop i.toNat).all wIn = false →
    spec_DualWeights.l0 (k + d + 2) n m l true s i = some (([] : List Int), 2) := by
  intro d
  induction d with
  | zero =>
    intro i s hi hd h
    rw [List.drop_eq_nil_of_le (by omega)] at h
    simp at h
  | succ d ih =>
    intro i s hi hd h
    rw [rd_drop l i hi (by omega), List.all_cons] at h
    rw [show k + (d + 1) + 2 = k + d + 2 + 1 by omega]
    obtain ⟨K, hK⟩ : ∃ K, K = k + d + 2 := ⟨_, rfl⟩
    rw [← hK]
    simp only [spec_DualWeights.l0]
    rw [if_pos (by omega), if_pos trivial, if_pos hi, spec_in, w64 (x := i + 1) (by omega) (by omega)]
    simp only [Option.bind_some]
    have e : (decide (0 ≤ rd l i) && decide (rd l i ≤ 33554432)) = wIn (rd l i) := rfl
    rw [e]
    by_cases hx : wIn (rd l i) = true
    · rw [hx, Bool.true_and] at h
      rw [hx, hK]
      exact ih (i + 1) _ (by omega) (by omega) h
    · rw [Bool.eq_false_iff.2 hx, hK, show k + d + 2 = k + d + 1 + 1 by omega]
      simp only [spec_DualWeights.l0, spec_DualWeights.j2]
      simp
theorem spec_j0_false {n m : Int} {l : List Int} (k : Nat) : spec_DualWeights.j0 (k + 3) n m l false = some (([] : List Int), 2) := by
  simp only [spec_DualWeights.j0, spec_DualWeights.l0, spec_DualWeights.j2]
  simp
theorem impl_l0 {n m : Int} {l : List Int} (hl : l.length ≤ 10) (hn : 1 ≤ n) (hn5 : n ≤ 5) {k : Nat} {R : List Int × Int} (ha : l.all wIn = true) : ∀ (d : Nat) (i s : Int), 0 ≤ i → i + d = (l.length : Int) → 0 ≤ s → s ≤ 33554432 * i →
    impl_DualWeights.l1 k l n m (s + (l.drop i.toNat).sum) [] (n + 1) 0 = some R → impl_DualWeights.l0 (k + d + 1) l n m s l (l.length : Int) i = some R := by
  intro d
  induction d with
  | zero =>
    intro i s hi hd hs hs2 h
    simp only [impl_DualWeights.l0]
    rw [if_neg (by omega), w64 (by omega) (by omega)]
    rw [List.drop_eq_nil_of_le (by omega)] at h
    simpa using h
  | succ d ih =>
    intro i s hi hd hs hs2 h
    have hx' : wIn (rd l i) = true := by
      have h1 := all_drop l ha i.toNat
      rw [rd_drop l i hi (by omega)] at h1
      simp only [List.all_cons, Bool.and_eq_true] at h1
      exact h1.1
    unfold wIn at hx'
    rw [rd_drop l i hi (by omega), List.sum_cons] at h
    simp only [Bool.and_eq_true, decide_eq_true_eq] at hx'
    simp only [impl_DualWeights.l0]
    rw [if_pos (by omega), if_pos hi, if_pos (by omega), w64 (x := i + 1) (by omega) (by omega), w64 (x := s + rd l i) (by omega) (by omega)]
    refine ih (i + 1) (s + rd l i) (by omega) (by omega) (by omega) (by omega) ?_
    rw [Int.add_assoc]; exact h
theorem both (n m : Int) (l : List Int) (hl : l.length ≤ 1048576) (hn' : -9223372036854775808 ≤ n ∧ n ≤ 9223372036854775807) : ∃ (R : List Int × Int), R.1.length ≤ 10 ∧ ∀ k, 3000 ≤ k → spec_DualWeights.f k n m l = some R ∧ impl_DualWeights.f k n m l = some R := by
  have red : ∀ R : List Int × Int, spec_DualWeights.f 3000 n m l = some R → impl_DualWeights.f 3000 n m l = some R → R.1.length ≤ 10 → ∃ (R : List Int × Int), R.1.length ≤ 10 ∧ ∀ k, 3000 ≤ k → spec_DualWeights.f k n m l = some R ∧ impl_DualWeights.f k n m l = some R := fun R h1 h2 h3 => ⟨R, h3, fun k hk => ⟨at_rounds (fun k => spec_DualWeights.mono n m l k) hk h1, at_rounds (fun k => impl_DualWeights.mono n m l k) hk h2⟩⟩
  have sf : ∀ b, b = false → spec_DualWeights.j0 3000 n m l b = some (([] : List Int), 2) := by
    intro b hb; subst hb; exact spec_j0_false (l := l) 2997
  have imf : ∀ b, b = true → impl_DualWeights.j0 3000 l n m b = some (([] : List Int), 2) := by
    intro b hb; subst hb
    rw [show 3000 = 2999 + 1 by omega]; simp only [impl_DualWeights.j0]; simp
  by_cases h1 : (decide (1 ≤ n) && decide (n ≤ 5)) = true
  · by_cases h2 : (decide (1 ≤ m) && decide (m ≤ 5)) = true
    · have h1' := h1
      have h2' := h2
      simp only [Bool.and_eq_true, decide_eq_true_eq] at h1' h2'
      by_cases h3 : (l.length : Int) = n + 1
      · have hs : spec_DualWeights.f 3000 n m l = spec_DualWeights.j0 3000 n m l true := by
          unfold spec_DualWeights.f
          rw [spec_in, spec_in, w64 (x := n + 1) (by omega) (by omega)]
          simp only [Option.bind_some]
          rw [if_pos h1, if_pos h2, show ((l.length : Int) == n + 1) = true by simpa using h3]
        have hi : impl_DualWeights.f 3000 n m l = impl_DualWeights.j0 3000 l n m (!l.all wIn) := by
          unfold impl_DualWeights.f impl_size_int64.f
          rw [impl_in, impl_in, w64 (x := n + 1) (by omega) (by omega)]
          simp only [Option.bind_some]
          rw [if_pos h1, if_pos h2, if_pos h3, any_tells]
          simp only [Option.bind_some]
        by_cases ha : l.all wIn = true
        · -- all in range
          have hl1 : spec_DualWeights.j0 3000 n m l true = spec_DualWeights.l0 2999 n m l true 0 0 := by
            rw [show 3000 = 2999 + 1 by omega]; simp only [spec_DualWeights.j0]
          have hb := sum_bound l ha
          have hz : l.drop (0 : Int).toNat = l := by simp
          have key : ∃ R : List Int × Int, R.1.length ≤ 10 ∧ spec_DualWeights.j2 2000 n m l true l.sum = some R ∧ impl_DualWeights.j0 3000 l n m false = some R := by
            rw [show 3000 = 2999 + 1 by omega, show 2000 = 1999 + 1 by omega]
            simp only [spec_DualWeights.j2, impl_DualWeights.j0]
            rw [if_pos trivial, if_neg (show ¬ (false = true) by decide)]
            by_cases c1 : n > m
            · rw [if_pos c1, if_pos c1, show 2999 = 2998 + 1 by omega, show 1999 = 1998 + 1 by omega]
              simp only [spec_DualWeights.j3, impl_DualWeights.j1]
              exact ⟨(([] : List Int), 4), by simp, by rw [if_pos trivial], by rw [if_pos trivial]⟩
            · rw [if_neg c1, if_neg c1, if_pos (by omega), if_pos (by omega)]
              by_cases c2 : rd l 0 = 1
              · have hA : 1 ≤ l.sum := by
                  have e := rd_drop l 0 (by omega) (by omega)
                  rw [hz] at e
                  have e2 := all_drop l ha (0 + 1 : Int).toNat
                  have e3 := sum_bound _ e2
                  have e4 : l.sum = rd l 0 + (l.drop (0 + 1 : Int).toNat).sum := by
                    conv => lhs; rw [e]
                    rw [List.sum_cons]
                  omega
                obtain ⟨N, hN⟩ : ∃ N : Nat, (N : Int) = n + 1 := ⟨(n + 1).toNat, by omega⟩
                obtain ⟨R, r1, r2, r3⟩ := sim (A := l.sum) h1'.1 h1'.2 (by omega) h2'.2 h3 (by omega) N 0 [] (by omega) (by omega) (by simp)
                have q1 := lift (f := fun k => spec_DualWeights.l1 k n m l l.sum [] 0) (fun k => by have := spec_DualWeights.mono_l k; exact this.2.2.2.1 _ _ _ _ _ _) r1 (k' := 1998) (by omega)
                have q2 := lift (f := fun k => impl_DualWeights.l1 k l n m l.sum [] (n + 1) 0) (fun k => by have := impl_DualWeights.mono_l k; exact this.2.2.2.1 _ _ _ _ _ _ _) r2 (k' := 2000) (by omega)
                have q3 := impl_l0 (n := n) (m := m) (l := l) (by omega) h1'.1 h1'.2 (k := 2000) (R := R) ha l.length 0 0 (by omega) (by omega) (by omega) (by omega) (by rw [hz, Int.zero_add]; exact q2)
                have q4 := lift (f := fun k => impl_DualWeights.l0 k l n m 0 l (l.length : Int) 0) (fun k => by have := impl_DualWeights.mono_l k; exact this.2.2.1 _ _ _ _ _ _ _) q3 (k' := 2998) (by omega)
                refine ⟨R, r3, ?_, ?_⟩
                · rw [show (rd l 0 != 1) = false by simp [c2], show 1999 = 1998 + 1 by omega]
                  simp only [spec_DualWeights.j3]
                  rw [if_neg (by decide)]; exact q1
                · rw [show (rd l 0 != 1) = false by simp [c2], show 2999 = 2998 + 1 by omega]
                  simp only [impl_DualWeights.j1]
                  rw [if_neg (by decide)]; exact q4
              · rw [show (rd l 0 != 1) = true by simp [c2], show 2999 = 2998 + 1 by omega, show 1999 = 1998 + 1 by omega]
                simp only [spec_DualWeights.j3, impl_DualWeights.j1]
                exact ⟨(([] : List Int), 4), by simp, by rw [if_pos trivial], by rw [if_pos trivial]⟩
          obtain ⟨R, r0, r1, r2⟩ := key
          have q1 := spec_l0 (n := n) (m := m) (l := l) (by omega) (k := 2000) (R := R) ha l.length 0 0 (by omega) (by omega) (by omega) (by omega) (by rw [hz, Int.zero_add]; exact r1)
          have q2 := lift (f := fun k => spec_DualWeights.l0 k n m l true 0 0) (fun k => by have := spec_DualWeights.mono_l k; exact this.2.2.2.2.2 _ _ _ _ _ _) q1 (k' := 2999) (by omega)
          exact red R (by rw [hs, hl1]; exact q2) (by rw [hi, ha]; exact r2) r0
        · -- not all in range
          have ha' := Bool.eq_false_iff.2 ha
          have hl1 : spec_DualWeights.j0 3000 n m l true = spec_DualWeights.l0 2999 n m l true 0 0 := by
            rw [show 3000 = 2999 + 1 by omega]; simp only [spec_DualWeights.j0]
          have q1 := spec_l0_off (n := n) (m := m) (l := l) (by omega) (k := 100) l.length 0 0 (by omega) (by omega) (by simpa using ha')
          have q2 := lift (f := fun k => spec_DualWeights.l0 k n m l true 0 0) (fun k => by have := spec_DualWeights.mono_l k; exact this.2.2.2.2.2 _ _ _ _ _ _) q1 (k' := 2999) (by omega)
          exact red _ (by rw [hs, hl1]; exact q2) (by rw [hi]; exact imf _ (by rw [ha']; rfl)) (by simp)
      · refine red (([] : List Int), 2) ?_ ?_ (by simp)
        · unfold spec_DualWeights.f
          rw [spec_in, spec_in, w64 (x := n + 1) (by omega) (by omega)]
          simp only [Option.bind_some]
          rw [if_pos h1, if_pos h2]
          exact sf _ (by simpa using h3)
        · unfold impl_DualWeights.f impl_size_int64.f
          rw [impl_in, impl_in, w64 (x := n + 1) (by omega) (by omega)]
          simp only [Option.bind_some]
          rw [if_pos h1, if_pos h2, if_neg h3]
          exact imf _ rfl
    · refine red (([] : List Int), 2) ?_ ?_ (by simp)
      · unfold spec_DualWeights.f
        rw [spec_in, spec_in]
        simp only [Option.bind_some]
        rw [if_pos h1, if_neg h2]
        exact sf _ rfl
      · unfold impl_DualWeights.f
        rw [impl_in, impl_in]
        simp only [Option.bind_some]
        rw [if_pos h1, if_neg h2]
        exact imf _ rfl
  · refine red (([] : List Int), 2) ?_ ?_ (by simp)
    · unfold spec_DualWeights.f
      rw [spec_in]
      simp only [Option.bind_some]
      rw [if_neg h1]
      exact sf _ rfl
    · unfold impl_DualWeights.f
      rw [impl_in]
      simp only [Option.bind_some]
      rw [if_neg h1]
      exact imf _ rfl
theorem rd_set_self (l : List Int) (i x : Int) (h0 : 0 ≤ i) (h1 : i < (l.length : Int)) : rd (l.set i.toNat x) i = x := by
  unfold rd
  rw [List.getD_eq_getElem?_getD, List.getElem?_set_self (by omega)]; rfl
theorem rd_set_ne (l : List Int) (i t x : Int) (h0 : 0 ≤ i) (h1 : 0 ≤ t) (h : t ≠ i) : rd (l.set i.toNat x) t = rd l t := by
  unfold rd
  rw [List.getD_eq_getElem?_getD, List.getD_eq_getElem?_getD, List.getElem?_set_ne (by omega)]
theorem mark_l : ∀ (d : Nat) (l : List Int) (i x : Int) (k : Nat), 0 ≤ i → i + d = (l.length : Int) → 0 ≤ x → x + d ≤ 1099511627776 → i + d ≤ 1099511627776 → d < k →
    ∃ l', laws_markInt64S.l0 k l x i = some (x + d, l') ∧ l'.length = l.length ∧ (∀ t, 0 ≤ t → t < i → rd l' t = rd l t) ∧ ∀ t, i ≤ t → t < (l.length : Int) → rd l' t = x + (t - i) := by
  intro d
  induction d with
  | zero =>
    intro l i x k hi hd hx hx2 hi2 hk
    obtain ⟨k, rfl⟩ : ∃ m, k = m + 1 := ⟨k - 1, by omega⟩
    simp only [laws_markInt64S.l0]
    rw [if_neg (by omega)]
    exact ⟨l, by simp, rfl, fun _ _ _ => rfl, fun t h1 h2 => by omega⟩
  | succ d ih =>
    intro l i x k hi hd hx hx2 hi2 hk
    obtain ⟨k, rfl⟩ : ∃ m, k = m + 1 := ⟨k - 1, by omega⟩
    simp only [laws_markInt64S.l0]
    rw [if_pos (by omega), if_pos hi, w64 (x := x + 1) (by omega) (by omega), w64 (x := i + 1) (by omega) (by omega)]
    obtain ⟨l', e, hl, h1, h2⟩ := ih (l.set i.toNat x) (i + 1) (x + 1) k (by omega) (by simp; omega) (by omega) (by omega) (by omega) (by omega)
    refine ⟨l', by rw [e]; congr 2; omega, by simpa using hl, ?_, ?_⟩
    · intro t h0 ht
      rw [h1 t h0 (by omega), rd_set_ne l i t x hi h0 (by omega)]
    · intro t h0 ht
      by_cases e : t = i
      · rw [e, h1 i hi (by omega), rd_set_self l i x hi (by omega)]; omega
      · rw [h2 t (by omega) (by simpa using ht)]; omega
theorem held_l : ∀ (d : Nat) (l : List Int) (i x : Int) (k : Nat), 0 ≤ i → i + d = (l.length : Int) → 0 ≤ x → x + d ≤ 1099511627776 → i + d ≤ 1099511627776 → d < k → (∀ t, i ≤ t → t < (l.length : Int) → rd l t = x + (t - i)) →
    laws_heldInt64S.l0 k l x i = some (x + d) := by
  intro d
  induction d with
  | zero =>
    intro l i x k hi hd hx hx2 hi2 hk h
    obtain ⟨k, rfl⟩ : ∃ m, k = m + 1 := ⟨k - 1, by omega⟩
    simp only [laws_heldInt64S.l0]
    rw [if_neg (by omega)]; simp
  | succ d ih =>
    intro l i x k hi hd hx hx2 hi2 hk h
    obtain ⟨k, rfl⟩ : ∃ m, k = m + 1 := ⟨k - 1, by omega⟩
    simp only [laws_heldInt64S.l0]
    rw [if_pos (by omega), if_pos hi, if_pos (by rw [h i (by omega) (by omega)]; omega), w64 (x := x + 1) (by omega) (by omega), w64 (x := i + 1) (by omega) (by omega),
      ih l (i + 1) (x + 1) k (by omega) (by omega) (by omega) (by omega) (by omega) (by omega) (fun t h0 ht => by rw [h t (by omega) ht]; omega)]
    congr 1; omega
theorem mark_tells (l : List Int) (hl : l.length ≤ 2097152) (k : Nat) (hk : l.length < k) : ∃ l', laws_markInt64S.f k l 1 = some (1 + (l.length : Int), l') ∧ ∀ k', l.length < k' → laws_heldInt64S.f k' l' 1 = some (1 + (l.length : Int)) := by
  unfold laws_markInt64S.f laws_heldInt64S.f
  obtain ⟨l', e, e2, _, h⟩ := mark_l l.length l 0 1 k (by omega) (by omega) (by omega) (by omega) (by omega) hk
  refine ⟨l', e, fun k' hk' => ?_⟩
  exact held_l l.length l' 0 1 k' (by omega) (by omega) (by omega) (by omega) (by omega) hk' (fun t h0 ht => h t h0 (by omega))
theorem j2_tells (l' : List Int) (t c : Int) (k : Nat) (h : ∀ k', k ≤ k' + 1 → laws_heldInt64S.f k' l' 1 = some t) (ht : 0 ≤ t) (hk : 1 ≤ k) : laws_FnExactDualWeights.j2 k l' t (c != c) = some true := by
  obtain ⟨k, rfl⟩ : ∃ m, k = m + 1 := ⟨k - 1, by omega⟩
  simp only [laws_FnExactDualWeights.j2]
  rw [bne_self_eq_false, if_neg (by decide), h k (by omega)]
  simp only [Option.bind_some]
  rw [if_neg (by omega)]; simp
theorem main : laws_FnExactDualWeights.Pure := by
  intro n m l hn hm hl _ _
  have hn' := wf64 hn
  by_cases h1 : (l.length : Int) > 1048576
  · exact ⟨0, by unfold laws_FnExactDualWeights.f; rw [if_pos h1]⟩
  · obtain ⟨R, hR, hb⟩ := both n m l (by omega) hn'
    obtain ⟨L, c⟩ := R
    simp only at hR
    refine ⟨l.length + 4000, ?_⟩
    generalize hK : l.length + 4000 = K
    unfold laws_FnExactDualWeights.f
    rw [if_neg h1, laws_toInt64S.tells l (by omega) _ (by omega)]
    simp only [Option.bind_some]
    rw [(hb K (by omega)).1]
    simp only [Option.bind_some]
    rw [(hb K (by omega)).2]
    simp only [Option.bind_some]
    rw [laws_eqInt64S.tells L L (by omega) _ (by omega)]
    simp only [Option.bind_some]
    rw [if_pos (by simp), bne_self_eq_false]
    obtain ⟨K, rfl⟩ : ∃ m, K = m + 1 := ⟨K - 1, by omega⟩
    simp only [laws_FnExactDualWeights.j0]
    obtain ⟨l', m1, _⟩ := mark_tells l (by omega) K (by omega)
    rw [if_neg (by decide), laws_toInt64S.tells l (by omega) _ (by omega)]
    simp only [Option.bind_some]
    rw [laws_eqInt64S.tells l l (by omega) _ (by omega)]
    simp only [Option.bind_some]
    rw [if_pos (by simp), m1]
    simp only [Option.bind_some]
    rw [if_neg (by omega), laws_eqInt64S.tells L L (by omega) _ (by omega)]
    simp only [Option.bind_some]
    rw [if_pos (by simp), bne_self_eq_false]
    obtain ⟨K, rfl⟩ : ∃ m, K = m + 1 := ⟨K - 1, by omega⟩
    simp only [laws_FnExactDualWeights.j1]
    obtain ⟨L', m2, m3⟩ := mark_tells L (by omega) K (by omega)
    rw [if_neg (by decide), m2]
    simp only [Option.bind_some]
    rw [m3 K (by omega)]
    simp only [Option.bind_some]
    rw [if_neg (by omega), if_true, laws_toInt64S.tells l (by omega) _ (by omega)]
    simp only [Option.bind_some]
    rw [(hb K (by omega)).2]
    simp only [Option.bind_some]
    rw [laws_eqInt64S.tells L L (by omega) _ (by omega)]
    simp only [Option.bind_some]
    rw [if_pos (by simp)]
    exact j2_tells L' _ c K (fun k' hk' => m3 k' (by omega)) (by omega) (by omega)
end Go.Proofs.Ytjecnhmcikckhaa.PureFnExactDualWeights
namespace Go.Proofs.Ytjecnhmcikckhaa.Pure
open Go.Proofs.Ytjecnhmcikckhaa.PFnExactDualWeights
theorem FnExactDualWeights : laws_FnExactDualWeights.Pure := PureFnExactDualWeights.main
end Go.Proofs.Ytjecnhmcikckhaa.Pure
