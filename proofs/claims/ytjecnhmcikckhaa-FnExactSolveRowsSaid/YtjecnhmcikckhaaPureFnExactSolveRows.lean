/- SolveRows of the program and of the reference agree for every matrix and every number, valid or not, and leave the matrix alone (beyond 2^20 rows the law itself asks nothing). -/
import Derived.Test.YtjecnhmcikckhaaPFnExactSolveRowsx3
namespace Go.Proofs.Ytjecnhmcikckhaa.PureFnExactSolveRows
open Go.RowKit Go.Proofs.Ytjecnhmcikckhaa.PFnExactSolveRows Go.Proofs.YtjecnhmcikckhaaW.PrintWords Go.Proofs.YtjecnhmcikckhaaW.PrintLast Go.Proofs.YtjecnhmcikckhaaW.PrintMore
set_option linter.unusedVariables false
set_option linter.unusedSimpArgs false
theorem w64 {x : Int} (h0 : -9223372036854775808 ≤ x) (h1 : x ≤ 9223372036854775807) : wrap64 x = x := by unfold wrap64; omega
theorem rd_drop (l : List Int) (i : Int) (h0 : 0 ≤ i) (h1 : i < (l.length : Int)) : l.drop i.toNat = rd l i :: l.drop (i + 1).toNat := by
  have hl : i.toNat < l.length := by omega
  rw [List.drop_eq_getElem_cons hl]
  have e : (i + 1).toNat = i.toNat + 1 := by omega
  rw [e]
  congr 1
  unfold rd
  rw [List.getD_eq_getElem?_getD, List.getElem?_eq_getElem hl]; rfl
theorem wf64 {x : Int} (h : (Lit.int .i64 x).wf = true) : -9223372036854775808 ≤ x ∧ x ≤ 9223372036854775807 := by
  simp [Lit.wf, IntKind.min, IntKind.max, IntKind.signed, IntKind.bits] at h; omega
theorem maxLen_eq : maxLen = 9223372036854775807 := by unfold maxLen; rfl
def S (d : Int) : Int := 2 ^ d.toNat
theorem sizesM {c : Int} (h1 : 1 ≤ c) (h5 : c ≤ 10) : 0 ≤ IntKind.u64.wrap c ∧ IntKind.u64.wrap c = c ∧ shl .i64 1 c = S c ∧ wrap64 (S c - 1) = S c - 1 ∧ 2 ≤ S c ∧ S c ≤ 1024 ∧ wrap64 (S c) = S c := by
  have : c = 1 ∨ c = 2 ∨ c = 3 ∨ c = 4 ∨ c = 5 ∨ c = 6 ∨ c = 7 ∨ c = 8 ∨ c = 9 ∨ c = 10 := by omega
  rcases this with rfl | rfl | rfl | rfl | rfl | rfl | rfl | rfl | rfl | rfl <;> decide +kernel
def inM (c x : Int) : Bool := decide (0 ≤ x) && decide (x < S c)
theorem inM_iff {c x : Int} : inM c x = true ↔ 0 ≤ x ∧ x < S c := by unfold inM; simp
def okM (c : Int) (l : List Int) : Bool := decide (1 ≤ c) && decide (c ≤ 10) && decide (l.length ≤ 10) && l.all (inM c)
theorem okM_range {c : Int} {l : List Int} (h : okM c l = true) : 1 ≤ c ∧ c ≤ 10 ∧ l.length ≤ 10 ∧ ∀ x ∈ l, 0 ≤ x ∧ x < S c := by
  simp only [okM, Bool.and_eq_true, decide_eq_true_eq, List.all_eq_true] at h
  exact ⟨h.1.1.1, h.1.1.2, h.1.2, fun x hx => inM_iff.1 (h.2 x hx)⟩
theorem inM_spec {c : Int} (h1 : 1 ≤ c) (h5 : c ≤ 10) (x : Int) : spec_l00In.f x 0 (wrap64 (S c - 1)) = some (inM c x) := by
  obtain ⟨_, _, _, e2, _⟩ := sizesM h1 h5
  unfold spec_l00In.f inM
  rw [e2]
  by_cases h : x ≥ 0
  · have h0 : 0 ≤ x := h
    rw [if_pos h]
    by_cases h2 : x < S c
    · simp [h0, h2, show x ≤ S c - 1 by omega]
    · simp [h2, show ¬ x ≤ S c - 1 by omega]
  · have h0 : ¬ 0 ≤ x := h
    rw [if_neg h]; simp [h0]
theorem l02Ok_l {c : Int} (h1 : 1 ≤ c) (h5 : c ≤ 10) (l : List Int) (hl : l.length ≤ 10) : ∀ (n : Nat) (i : Int) (k : Nat), 0 ≤ i → i ≤ (l.length : Int) → (l.length : Int) - i = n → n < k → spec_l02Ok.l0 k i c l = some ((l.drop i.toNat).all (inM c)) := by
  obtain ⟨e0, e1, e2, _⟩ := sizesM h1 h5
  intro n
  induction n with
  | zero =>
    intro i k h0 h2 hd hk
    obtain ⟨k, rfl⟩ : ∃ m, k = m + 1 := ⟨k - 1, by omega⟩
    simp only [spec_l02Ok.l0]
    rw [if_neg (by omega), List.drop_eq_nil_of_le (by omega)]; rfl
  | succ n ih =>
    intro i k h0 h2 hd hk
    obtain ⟨k, rfl⟩ : ∃ m, k = m + 1 := ⟨k - 1, by omega⟩
    simp only [spec_l02Ok.l0]
    rw [if_pos (by omega), if_pos h0, if_pos e0, e1, e2, inM_spec h1 h5, w64 (x := i + 1) (by omega) (by omega), rd_drop l i h0 (by omega)]
    simp only [Option.bind_some, List.all_cons]
    by_cases e : inM c (rd l i) = true
    · rw [if_pos e, ih (i + 1) k (by omega) (by omega) (by omega) (by omega)]; simp [e]
    · rw [if_neg e]; simp [e]
theorem l02Ok_tells (c : Int) (l : List Int) (k : Nat) (hk : 20 ≤ k) : spec_l02Ok.f k c l = some (okM c l) := by
  obtain ⟨k, rfl⟩ : ∃ m, k = m + 1 := ⟨k - 1, by omega⟩
  unfold spec_l02Ok.f spec_l00In.f okM
  by_cases h1 : c ≥ 1
  · have h1' : 1 ≤ c := h1
    by_cases h5 : c ≤ 10
    · by_cases hl : l.length ≤ 10
      · have hl' : ¬ (l.length : Int) > 10 := by omega
        have e := l02Ok_l h1 h5 l hl l.length 0 k (by omega) (by omega) (by omega) (by omega)
        simp only [Int.toNat_zero, List.drop_zero] at e
        simp [h1, h1', h5, hl, hl', spec_l02Ok.j0, e]
      · have hl' : (l.length : Int) > 10 := by omega
        simp [h1, h1', h5, hl, hl', spec_l02Ok.j0]
    · simp [h1, h5, spec_l02Ok.j0]
  · have h1' : ¬ 1 ≤ c := h1
    simp [h1, h1', spec_l02Ok.j0]
theorem inM_impl {c : Int} (h1 : 1 ≤ c) (h5 : c ≤ 10) (l : List Int) (x : Int) : impl_Matrix_has.f c l x = some (inM c x) := by
  obtain ⟨_, _, e, e2, _⟩ := sizesM h1 h5
  unfold impl_Matrix_has.f impl_within.f inM
  rw [if_pos (by omega), e, e2]
  by_cases h : x ≥ 0
  · have h0 : 0 ≤ x := h
    rw [if_pos h]
    by_cases h2 : x < S c
    · simp [h0, h2, show x ≤ S c - 1 by omega]
    · simp [h2, show ¬ x ≤ S c - 1 by omega]
  · have h0 : ¬ 0 ≤ x := h
    rw [if_neg h]; simp [h0]
theorem any_not_inM (c : Int) (l : List Int) : (!l.any fun x => !inM c x) = l.all (inM c) := by
  induction l with
  | nil => rfl
  | cons x l ih => simp only [List.any_cons, List.all_cons, ← ih]; cases inM c x <;> simp
theorem validM_tells (c : Int) (l : List Int) : impl_ValidMatrix.f c l = some (okM c l) := by
  unfold impl_ValidMatrix.f okM
  by_cases h1 : c ≥ 1
  · have h1' : 1 ≤ c := h1
    by_cases h5 : c ≤ 10
    · have hw : impl_within.f c 1 10 = some true := by unfold impl_within.f; simp [h1, h5]
      rw [hw]
      by_cases hl : l.length ≤ 10
      · have hl' : (l.length : Int) ≤ 10 := by omega
        have e := anyO_some (fun x_ => impl_ValidMatrix_1.f x_ c l) (fun x => !inM c x) l (fun x _ => by unfold impl_ValidMatrix_1.f; rw [inM_impl h1 h5]; rfl)
        have e2 := any_not_inM c l
        simp only [Option.bind_some, if_true, hl', e, e2]
        simp [h1', h5, hl]
      · have hl' : ¬ (l.length : Int) ≤ 10 := by omega
        simp [hl, hl']
    · have hw : impl_within.f c 1 10 = some false := by unfold impl_within.f; simp [h1, h5]
      rw [hw]; simp [h5]
  · have h1' : ¬ 1 ≤ c := h1
    have hw : impl_within.f c 1 10 = some false := by unfold impl_within.f; simp [h1]
    rw [hw]; simp [h1']
theorem laws_eqInt64S.tells_l (a b : List Int) (hl : a.length = b.length) (hb : (a.length : Int) ≤ 9223372036854775807) : ∀ (d : Nat) (i : Int) (k : Nat), 0 ≤ i → i ≤ (a.length : Int) → (a.length : Int) - i = d → d < k →
    laws_eqInt64S.l0 k a b i = some (decide (a.drop i.toNat = b.drop i.toNat)) := by
  intro d
  induction d with
  | zero =>
    intro k' k h0 h1 hd hk
    obtain ⟨k, rfl⟩ : ∃ m, k = m + 1 := ⟨k - 1, by omega⟩
    simp only [laws_eqInt64S.l0]
    rw [if_neg (by omega), List.drop_eq_nil_of_le (by omega), List.drop_eq_nil_of_le (by omega)]; simp
  | succ d ih =>
    intro i k h0 h1 hd hk
    obtain ⟨k, rfl⟩ : ∃ m, k = m + 1 := ⟨k - 1, by omega⟩
    simp only [laws_eqInt64S.l0]
    rw [if_pos (by omega), if_pos h0, if_pos (by omega), w64 (by omega) (by omega), rd_drop a i h0 (by omega), rd_drop b i h0 (by omega)]
    by_cases e : rd a i = rd b i
    · rw [if_pos e, ih (i + 1) k (by omega) (by omega) (by omega) (by omega)]
      simp [e]
    · rw [if_neg e]; simp [e]
theorem laws_eqInt64S.tells (a b : List Int) (hb : a.length ≤ 9223372036854775807) (k : Nat) (hk : a.length < k) : laws_eqInt64S.f k a b = some (decide (a = b)) := by
  unfold laws_eqInt64S.f
  by_cases h : (a.length : Int) = (b.length : Int)
  · rw [if_pos h, laws_eqInt64S.tells_l a b (by omega) (by omega) a.length 0 k (by omega) (by omega) (by omega) hk]
    simp
  · rw [if_neg h]
    have : a ≠ b := fun e => h (by rw [e])
    simp [this]
theorem set_rd (l o : List Int) (i : Int) (h0 : 0 ≤ i) (h1 : i < (l.length : Int)) (ho : o.length = l.length) (he : o.take i.toNat = l.take i.toNat) : (o.set i.toNat (rd l i)).take (i + 1).toNat = l.take (i + 1).toNat := by
  have e : (i + 1).toNat = i.toNat + 1 := by omega
  have hl : i.toNat < l.length := by omega
  have ho' : i.toNat < o.length := by omega
  rw [e, List.take_succ_eq_append_getElem (by simpa using ho'), List.take_succ_eq_append_getElem hl, List.take_set_of_le (Nat.le_refl _), he, List.getElem_set_self]
  congr 2
  unfold rd
  rw [List.getD_eq_getElem?_getD, List.getElem?_eq_getElem hl]; rfl
theorem laws_toInt64S.tells_l (l : List Int) (hb : (l.length : Int) ≤ 9223372036854775807) : ∀ (d : Nat) (i : Int) (o : List Int) (k : Nat), 0 ≤ i → i ≤ (l.length : Int) → (l.length : Int) - i = d → d < k → o.length = l.length → o.take i.toNat = l.take i.toNat →
    laws_toInt64S.l0 k l o i = some l := by
  intro d
  induction d with
  | zero =>
    intro i o k h0 h1 hd hk ho he
    obtain ⟨k, rfl⟩ : ∃ m, k = m + 1 := ⟨k - 1, by omega⟩
    simp only [laws_toInt64S.l0]
    rw [if_neg (by omega)]
    have e : i.toNat = l.length := by omega
    rw [e, List.take_of_length_le (by omega), List.take_of_length_le (by omega)] at he
    rw [he]
  | succ d ih =>
    intro i o k h0 h1 hd hk ho he
    obtain ⟨k, rfl⟩ : ∃ m, k = m + 1 := ⟨k - 1, by omega⟩
    simp only [laws_toInt64S.l0]
    rw [if_pos (by omega), if_pos h0, if_pos (by omega), w64 (by omega) (by omega)]
    exact ih (i + 1) _ k (by omega) (by omega) (by omega) (by omega) (by simpa using ho) (set_rd l o i h0 (by omega) ho he)
theorem laws_toInt64S.tells (l : List Int) (hl : l.length ≤ 1048576) (k : Nat) (hk : l.length < k) : laws_toInt64S.f k l = some l := by
  unfold laws_toInt64S.f
  rw [if_pos (by omega), if_pos (by omega)]
  exact laws_toInt64S.tells_l l (by omega) l.length 0 _ k (by omega) (by omega) (by omega) hk (by simp) (by simp)
theorem laws_szInt64S.tells (l : List Int) (hl : l.length ≤ maxLen) (x : Int) (h0 : 0 ≤ x) (h1 : x ≤ 1048576) : laws_szInt64S.f l x = some (if x < (l.length : Int) then -1 else x - l.length) := by
  rw [maxLen_eq] at hl
  unfold laws_szInt64S.f
  rw [w64 (by omega) (by omega)]
  by_cases h : x < (l.length : Int)
  · rw [if_pos (by omega), if_pos h]
  · rw [if_neg (by omega), if_neg h]
theorem uw {x : Int} (h0 : 0 ≤ x) (h1 : x ≤ 20) : IntKind.u64.wrap x = x := by
  have h : ∀ i : Fin 21, IntKind.u64.wrap (i.val : Int) = (i.val : Int) := by decide +kernel
  have := h ⟨x.toNat, by omega⟩
  simp only [show ((x.toNat : Nat) : Int) = x by omega] at this
  exact this
theorem sh10 {x : Int} (h0 : 0 ≤ x) (h1 : x ≤ 10) : 1 ≤ shl .i64 1 x ∧ shl .i64 1 x ≤ 1024 := by
  have h : ∀ i : Fin 11, 1 ≤ shl .i64 1 (i.val : Int) ∧ shl .i64 1 (i.val : Int) ≤ 1024 := by decide +kernel
  have := h ⟨x.toNat, by omega⟩
  simp only [show ((x.toNat : Nat) : Int) = x by omega] at this
  exact this
theorem times_l (l : List Int) (hl : l.length ≤ 10) (x : Int) : ∀ (n : Nat) (i acc : Int), 0 ≤ i → i + n = (l.length : Int) →
    ∃ s : Int, ∀ k, n < k → spec_l02Times.l0 k x l acc i = some s ∧ impl_sumOf.l0 k x acc l (l.length : Int) i = some s := by
  intro n
  induction n with
  | zero =>
    intro i acc hi hd
    refine ⟨acc, fun k hk => ?_⟩
    obtain ⟨k, rfl⟩ : ∃ m, k = m + 1 := ⟨k - 1, by omega⟩
    simp only [spec_l02Times.l0, impl_sumOf.l0]
    rw [if_neg (by omega), if_neg (by omega)]
    exact ⟨rfl, rfl⟩
  | succ n ih =>
    intro i acc hi hd
    have hu : IntKind.u64.wrap i = i := uw hi (by omega)
    by_cases hb : Go.bits .and .i64 (shr .i64 x i) 1 = 1
    · obtain ⟨s, h⟩ := ih (i + 1) (Go.bits .xor .i64 acc (rd l i)) (by omega) (by omega)
      refine ⟨s, fun k hk => ?_⟩
      obtain ⟨k, rfl⟩ : ∃ m, k = m + 1 := ⟨k - 1, by omega⟩
      obtain ⟨e1, e2⟩ := h k (by omega)
      simp only [spec_l02Times.l0, impl_sumOf.l0]
      constructor
      · unfold spec_l02Bit.f
        rw [if_pos (by omega), hu, if_pos hi]
        simp only [Option.bind_some]
        rw [if_pos hb, if_pos hi, w64 (x := i + 1) (by omega) (by omega)]
        exact e1
      · rw [if_pos (by omega), if_pos hi, if_pos (by omega), if_pos hb, w64 (x := i + 1) (by omega) (by omega)]
        exact e2
    · obtain ⟨s, h⟩ := ih (i + 1) acc (by omega) (by omega)
      refine ⟨s, fun k hk => ?_⟩
      obtain ⟨k, rfl⟩ : ∃ m, k = m + 1 := ⟨k - 1, by omega⟩
      obtain ⟨e1, e2⟩ := h k (by omega)
      simp only [spec_l02Times.l0, impl_sumOf.l0]
      constructor
      · unfold spec_l02Bit.f
        rw [if_pos (by omega), hu, if_pos hi]
        simp only [Option.bind_some]
        rw [if_neg hb, w64 (x := i + 1) (by omega) (by omega)]
        exact e1
      · rw [if_pos (by omega), if_pos hi, if_pos (by omega), if_neg hb, w64 (x := i + 1) (by omega) (by omega)]
        exact e2
theorem solve_l (l : List Int) (hl : l.length ≤ 10) (c a : Int) : ∀ (d : Nat) (x : Int), 0 ≤ x → x + d = shl .i64 1 (l.length : Int) →
    ∃ t : Int, ∀ k, d + 20 < k → spec_l02Solve.l0 k l a x = some t ∧ impl_SolveRows.l0 k (shl .i64 1 (l.length : Int)) x c l a = some (if t < 0 then (0, 6) else (t, 0)) := by
  have hu : IntKind.u64.wrap (l.length : Int) = (l.length : Int) := uw (by omega) (by omega)
  have hs := sh10 (x := (l.length : Int)) (by omega) (by omega)
  intro d
  induction d with
  | zero =>
    intro x hx hd
    refine ⟨-1, fun k hk => ?_⟩
    obtain ⟨k, rfl⟩ : ∃ m, k = m + 1 := ⟨k - 1, by omega⟩
    simp only [spec_l02Solve.l0, impl_SolveRows.l0]
    rw [hu, if_pos (by omega), if_neg (by omega), if_neg (by omega)]
    exact ⟨rfl, rfl⟩
  | succ d ih =>
    intro x hx hd
    obtain ⟨s, hs2⟩ := times_l l hl x l.length 0 0 (by omega) (by omega)
    by_cases hsa : s = a
    · refine ⟨x, fun k hk => ?_⟩
      obtain ⟨k, rfl⟩ : ∃ m, k = m + 1 := ⟨k - 1, by omega⟩
      obtain ⟨e1, e2⟩ := hs2 k (by omega)
      simp only [spec_l02Solve.l0, impl_SolveRows.l0, spec_l02Times.f, impl_sumOf.f]
      rw [hu, if_pos (by omega), if_pos (by omega), if_pos (by omega), e1, e2]
      simp only [Option.bind_some]
      rw [if_pos hsa, if_pos hsa, if_neg (by omega)]
      exact ⟨rfl, rfl⟩
    · obtain ⟨t, ht⟩ := ih (x + 1) (by omega) (by omega)
      refine ⟨t, fun k hk => ?_⟩
      obtain ⟨k, rfl⟩ : ∃ m, k = m + 1 := ⟨k - 1, by omega⟩
      obtain ⟨e1, e2⟩ := hs2 k (by omega)
      obtain ⟨t1, t2⟩ := ht k (by omega)
      simp only [spec_l02Solve.l0, impl_SolveRows.l0, spec_l02Times.f, impl_sumOf.f]
      rw [hu, if_pos (by omega), if_pos (by omega), if_pos (by omega), e1, e2]
      simp only [Option.bind_some]
      rw [if_neg hsa, if_neg hsa, w64 (x := x + 1) (by omega) (by omega)]
      exact ⟨t1, t2⟩
theorem has_tells {c : Int} (h1 : 1 ≤ c) (h5 : c ≤ 10) (l : List Int) (a : Int) : impl_SolveRows_1.f c l a = some (inM c a) := by
  unfold impl_SolveRows_1.f
  rw [inM_impl h1 h5]; rfl
theorem code_tells (c : Int) (l : List Int) (a : Int) : codesO (impl_SolveRows_1.f c l a) [(⟨c, l⟩ : S54)] = some (if okM c l = true then (if inM c a = true then 0 else 2) else 1) := by
  unfold codesO
  have e3 := anyO_some (fun x : S54 => impl_matricesCode_1.f x.f0 x.f1) (fun x => !okM x.f0 x.f1) [(⟨c, l⟩ : S54)] (fun x _ => by unfold impl_matricesCode_1.f; rw [validM_tells]; rfl)
  rw [e3]
  simp only [Option.bind_some, List.any_cons, List.any_nil, Bool.or_false]
  by_cases h : okM c l = true
  · obtain ⟨h1, h5, _⟩ := okM_range h
    rw [h, has_tells h1 h5]
    cases inM c a <;> simp
  · rw [Bool.eq_false_iff.2 h]; simp
theorem both (c : Int) (l : List Int) (a : Int) : ∃ (m e : Int), ∀ k, 1100 ≤ k → spec_SolveRows.f k c l a = some (m, e) ∧ impl_SolveRows.f k c l a = some (m, e) := by
  by_cases h : okM c l = true
  · obtain ⟨h1, h5, hl, _⟩ := okM_range h
    obtain ⟨e0, e1, e2, _⟩ := sizesM h1 h5
    by_cases ha : inM c a = true
    · have hs := sh10 (x := (l.length : Int)) (by omega) (by omega)
      obtain ⟨D, hD⟩ : ∃ D : Nat, (D : Int) = shl .i64 1 (l.length : Int) := ⟨(shl .i64 1 (l.length : Int)).toNat, by omega⟩
      obtain ⟨t, ht⟩ := solve_l l hl c a D 0 (by omega) (by omega)
      refine ⟨(if t < 0 then ((0 : Int), (6 : Int)) else (t, 0)).1, (if t < 0 then ((0 : Int), (6 : Int)) else (t, 0)).2, fun k hk => ?_⟩
      obtain ⟨t1, t2⟩ := ht k (by omega)
      constructor
      · unfold spec_SolveRows.f spec_l02Solve.f
        rw [l02Ok_tells c l k (by omega), h]
        simp only [Option.bind_some, if_true]
        rw [if_pos e0, e1, e2, inM_spec h1 h5, ha]
        simp only [Option.bind_some, if_true]
        rw [t1]
        simp only [Option.bind_some]
        by_cases h0 : t < 0
        · simp [h0]
        · simp [h0]
      · unfold impl_SolveRows.f
        rw [code_tells, if_pos h, if_pos ha]
        simp only [Option.bind_some, if_true]
        rw [t2]
    · refine ⟨0, 2, fun k hk => ?_⟩
      constructor
      · unfold spec_SolveRows.f
        rw [l02Ok_tells c l k (by omega), h]
        simp only [Option.bind_some, if_true]
        rw [if_pos e0, e1, e2, inM_spec h1 h5, Bool.eq_false_iff.2 ha]; rfl
      · unfold impl_SolveRows.f
        rw [code_tells, if_pos h, if_neg ha]; rfl
  · refine ⟨0, 1, fun k hk => ?_⟩
    constructor
    · unfold spec_SolveRows.f
      rw [l02Ok_tells c l k (by omega), Bool.eq_false_iff.2 h]; rfl
    · unfold impl_SolveRows.f
      rw [code_tells, if_neg h]; rfl
theorem to_tells (c : Int) (l : List Int) (hb : l.length ≤ 1048576) (k : Nat) (hk : l.length < k) : laws_toMatrix.f k c l = some (c, l) := by
  unfold laws_toMatrix.f
  rw [laws_toInt64S.tells l hb k hk]; rfl
theorem eq_self (c : Int) (l : List Int) (hb : l.length ≤ 1048576) (k : Nat) (hk : l.length < k) : laws_eqMatrix.f k c l c l = some true := by
  unfold laws_eqMatrix.f
  rw [laws_eqInt64S.tells l l (by omega) k hk]; simp
theorem main : laws_FnExactSolveRows.Pure := by
  intro c l a _ hl _ _
  obtain ⟨m, e, hb⟩ := both c l a
  refine ⟨l.length + 4000, ?_⟩
  generalize hK : l.length + 4000 = K
  unfold laws_FnExactSolveRows.f laws_szMatrix.f
  rw [laws_szInt64S.tells l hl _ (by omega) (by omega)]
  by_cases h1 : (1048576 : Int) < (l.length : Int)
  · simp [h1]
  · rw [if_neg h1]
    simp only [Option.bind_some]
    rw [if_neg (by omega)]
    simp only [Option.bind_some]
    rw [if_neg (by omega), to_tells c l (by omega) K (by omega)]
    simp only [Option.bind_some]
    rw [(hb K (by omega)).1]
    simp only [Option.bind_some]
    rw [(hb K (by omega)).2]
    simp only [Option.bind_some, if_true]
    rw [bne_self_eq_false]
    obtain ⟨K, rfl⟩ : ∃ m, K = m + 1 := ⟨K - 1, by omega⟩
    simp only [laws_FnExactSolveRows.j0]
    rw [if_neg (by decide), to_tells c l (by omega) K (by omega)]
    simp only [Option.bind_some]
    rw [eq_self c l (by omega) K (by omega)]
    simp
end Go.Proofs.Ytjecnhmcikckhaa.PureFnExactSolveRows
namespace Go.Proofs.Ytjecnhmcikckhaa.Pure
open Go.Proofs.Ytjecnhmcikckhaa.PFnExactSolveRows
theorem FnExactSolveRows : laws_FnExactSolveRows.Pure := PureFnExactSolveRows.main
end Go.Proofs.Ytjecnhmcikckhaa.Pure
