-- Written by this session's driver wip/tools/myprint.py over the kit's print, out of Lean's print of the translation, with own texts for what the print does not take. Lean checks it.
import Derived.Test.YtkebapmicgkcdaaPFnFieldsx0
import Derived.Test.YtkebapmicgkcdaaPFnFieldsx1
import Derived.Test.YtkebapmicgkcdaaPFnFieldsx2
import Derived.Test.YtkebapmicgkcdaaPFnFieldsx3
import Derived.Test.YtkebapmicgkcdaaPFnFieldsx4
import Derived.Test.YtkebapmicgkcdaaPFnFieldsx5
namespace Go.Proofs.Ytkebapmicgkcdaa.PFnFields
open Go.RowKit Go.Proofs.YtkebapmicgkcdaaW.PrintWords Go.Proofs.YtkebapmicgkcdaaW.PrintLast Go.Proofs.YtkebapmicgkcdaaW.PrintMore
attribute [local go_sem] max2_int min2_int max_two min_two max_three min_three max_four min_four   -- for this text's walks alone
set_option linter.unusedVariables false
set_option linter.unusedSimpArgs false

attribute [local go_sem high] eqA33
/-! ### laws_FnFields: function 8 -/
mutual
def laws_FnFields.j0 : Nat → Int → Int → Int → Int → Int → Int → Bool → Int → Int → Option (Bool)
  | 0, _, _, _, _, _, _, _, _, _ => none
  | k + 1, x6, x7, x8, x9, x10, x18, x138, x218000, x218001 => if x138 = true then (some false) else ((impl_MulIn.f k x218000 x218001 x10 x9).bind fun bt231 => ((impl_MulIn.f k x218000 x218001 x7 x18).bind fun bt233 => ((impl_MulIn.f k x218000 x218001 x7 1).bind fun bt235 => (if bt231.2 = 0 then (if bt233.2 = 0 then (if bt235.2 = 0 then (if bt231.1 = bt233.1 then (if bt235.1 = x7 then (if x7 = 0 then (laws_FnFields.j1 k x6 x7 false x218000 x218001) else (if x8 = 0 then (laws_FnFields.j1 k x6 x7 false x218000 x218001) else (laws_FnFields.j1 k x6 x7 (x10 == 0) x218000 x218001))) else (laws_FnFields.j1 k x6 x7 true x218000 x218001)) else (laws_FnFields.j1 k x6 x7 true x218000 x218001)) else (laws_FnFields.j1 k x6 x7 true x218000 x218001)) else (laws_FnFields.j1 k x6 x7 true x218000 x218001)) else (laws_FnFields.j1 k x6 x7 true x218000 x218001)))))
def laws_FnFields.j1 : Nat → Int → Int → Bool → Int → Int → Option (Bool)
  | 0, _, _, _, _, _ => none
  | k + 1, x6, x7, x190, x218000, x218001 => if x190 = true then (some false) else ((impl_InverseIn.f k x218000 x218001 x7).bind fun bt237 => (if ((bt237.2 == 0) != (x7 != 0)) = true then (some false) else (if x7 = 0 then (laws_FnFields.j3 k x218000 x218001) else (if bt237.1 < 1 then (laws_FnFields.j2 k x7 bt237.1 true x218000 x218001) else (laws_FnFields.j2 k x7 bt237.1 (decide (bt237.1 ≥ x6)) x218000 x218001)))))
def laws_FnFields.j3 : Nat → Int → Int → Option (Bool)
  | 0, _, _ => none
  | k + 1, x218000, x218001 => (impl_FieldsOf.f k x218000).bind fun bt241 => ((impl_FieldOf.f k x218000).bind fun bt245 => (laws_FnFields.l0 k bt241.1 bt241.2 bt245.2.2 false 0 x218000 x218001 bt245.1 bt245.2.1))
def laws_FnFields.l0 : Nat → List (S33) → Int → Int → Bool → Int → Int → Int → Int → Int → Option (Bool)
  | 0, _, _, _, _, _, _, _, _, _ => none
  | k + 1, x30, x31, x33, x34, x35, x218000, x218001, x249000, x249001 => if x35 < (x30.length : Int) then (if x34 = true then (laws_FnFields.j5 k x30 x31 x33 true x35 x218000 x218001 x249000 x249001) else (if 0 ≤ x35 then (laws_FnFields.j5 k x30 x31 x33 (((rd_T33 x30 x35).f0) == x218000 && (((rd_T33 x30 x35).f1) == x218001)) x35 x218000 x218001 x249000 x249001) else (none))) else (if x31 = 0 then (if x33 = 0 then (if x34 = true then (if (x30.length : Int) > 0 then (if 0 < (x30.length : Int) then (some (((rd_T33 x30 0).f0) == x249000 && (((rd_T33 x30 0).f1) == x249001))) else (none)) else (some false)) else (some false)) else (some false)) else (some false))
def laws_FnFields.j5 : Nat → List (S33) → Int → Int → Bool → Int → Int → Int → Int → Int → Option (Bool)
  | 0, _, _, _, _, _, _, _, _, _ => none
  | k + 1, x30, x31, x33, x34, x35, x218000, x218001, x249000, x249001 => if 0 ≤ x35 then (if x35 < (x30.length : Int) then ((impl_ValidField.f k ((rd_T33 x30 x35).f0) ((rd_T33 x30 x35).f1)).bind fun t252 => (if t252 = true then ((impl_IsIrreducible.f k ((rd_T33 x30 x35).f1)).bind fun t254 => (if t254 = true then (if ((rd_T33 x30 x35).f0) = x218000 then (laws_FnFields.l0 k x30 x31 x33 x34 (wrap64 (x35 + 1)) x218000 x218001 x249000 x249001) else (some false)) else (some false))) else (some false))) else (none)) else (none)
def laws_FnFields.j2 : Nat → Int → Int → Bool → Int → Int → Option (Bool)
  | 0, _, _, _, _, _ => none
  | k + 1, x7, x26, x210, x218000, x218001 => if x210 = true then (some false) else ((impl_MulIn.f k x218000 x218001 x7 x26).bind fun bt239 => (if bt239.2 = 0 then (if bt239.1 = 1 then (laws_FnFields.j3 k x218000 x218001) else (some false)) else (some false)))
end
def laws_FnFields.f (k : Nat) (l0 : List Int) (l1 : List Int) : Option (Bool) := (laws_a2Long.f l0 l1).bind fun t214 => (if t214 = true then (some true) else ((spec_A2Field.f k l0).bind fun bt215 => (if 0 ≤ (IntKind.u64.wrap (bt215.1)) then ((spec_A2Element.f k l1 bt215.1 bt215.2 0).bind fun t218 => ((spec_A2Element.f k l1 bt215.1 bt215.2 1).bind fun t219 => ((spec_A2Element.f k l1 bt215.1 bt215.2 2).bind fun t220 => ((impl_MulIn.f k bt215.1 bt215.2 t218 t219).bind fun bt221 => ((impl_MulIn.f k bt215.1 bt215.2 t219 t218).bind fun bt223 => ((impl_MulIn.f k bt215.1 bt215.2 t218 t220).bind fun bt225 => ((impl_MulIn.f k bt215.1 bt215.2 t218 (Go.bits .xor .i64 t219 t220)).bind fun bt227 => ((impl_MulIn.f k bt215.1 bt215.2 t219 t220).bind fun bt229 => (if bt221.2 = 0 then (if bt223.2 = 0 then (if bt225.2 = 0 then (if bt227.2 = 0 then (if bt229.2 = 0 then (if bt221.1 = bt223.1 then (if bt227.1 = (Go.bits .xor .i64 bt221.1 bt225.1) then (if bt221.1 < 0 then (laws_FnFields.j0 k (shl .i64 1 (IntKind.u64.wrap (bt215.1))) t218 t219 t220 bt221.1 bt229.1 true bt215.1 bt215.2) else (if bt221.1 ≥ (shl .i64 1 (IntKind.u64.wrap (bt215.1))) then (laws_FnFields.j0 k (shl .i64 1 (IntKind.u64.wrap (bt215.1))) t218 t219 t220 bt221.1 bt229.1 true bt215.1 bt215.2) else (if bt229.1 < 0 then (laws_FnFields.j0 k (shl .i64 1 (IntKind.u64.wrap (bt215.1))) t218 t219 t220 bt221.1 bt229.1 true bt215.1 bt215.2) else (laws_FnFields.j0 k (shl .i64 1 (IntKind.u64.wrap (bt215.1))) t218 t219 t220 bt221.1 bt229.1 (decide (bt229.1 ≥ (shl .i64 1 (IntKind.u64.wrap (bt215.1))))) bt215.1 bt215.2)))) else (laws_FnFields.j0 k (shl .i64 1 (IntKind.u64.wrap (bt215.1))) t218 t219 t220 bt221.1 bt229.1 true bt215.1 bt215.2)) else (laws_FnFields.j0 k (shl .i64 1 (IntKind.u64.wrap (bt215.1))) t218 t219 t220 bt221.1 bt229.1 true bt215.1 bt215.2)) else (laws_FnFields.j0 k (shl .i64 1 (IntKind.u64.wrap (bt215.1))) t218 t219 t220 bt221.1 bt229.1 true bt215.1 bt215.2)) else (laws_FnFields.j0 k (shl .i64 1 (IntKind.u64.wrap (bt215.1))) t218 t219 t220 bt221.1 bt229.1 true bt215.1 bt215.2)) else (laws_FnFields.j0 k (shl .i64 1 (IntKind.u64.wrap (bt215.1))) t218 t219 t220 bt221.1 bt229.1 true bt215.1 bt215.2)) else (laws_FnFields.j0 k (shl .i64 1 (IntKind.u64.wrap (bt215.1))) t218 t219 t220 bt221.1 bt229.1 true bt215.1 bt215.2)) else (laws_FnFields.j0 k (shl .i64 1 (IntKind.u64.wrap (bt215.1))) t218 t219 t220 bt221.1 bt229.1 true bt215.1 bt215.2)))))))))) else (none))))
theorem laws_FnFields.mono_l : ∀ k, (∀ y0 y1 y2 y3 y4 y5 y6 y7 y8, LeO (laws_FnFields.j0 k y0 y1 y2 y3 y4 y5 y6 y7 y8) (laws_FnFields.j0 (k + 1) y0 y1 y2 y3 y4 y5 y6 y7 y8)) ∧ (∀ y0 y1 y2 y3 y4, LeO (laws_FnFields.j1 k y0 y1 y2 y3 y4) (laws_FnFields.j1 (k + 1) y0 y1 y2 y3 y4)) ∧ (∀ y0 y1, LeO (laws_FnFields.j3 k y0 y1) (laws_FnFields.j3 (k + 1) y0 y1)) ∧ (∀ y0 y1 y2 y3 y4 y5 y6 y7 y8, LeO (laws_FnFields.l0 k y0 y1 y2 y3 y4 y5 y6 y7 y8) (laws_FnFields.l0 (k + 1) y0 y1 y2 y3 y4 y5 y6 y7 y8)) ∧ (∀ y0 y1 y2 y3 y4 y5 y6 y7 y8, LeO (laws_FnFields.j5 k y0 y1 y2 y3 y4 y5 y6 y7 y8) (laws_FnFields.j5 (k + 1) y0 y1 y2 y3 y4 y5 y6 y7 y8)) ∧ (∀ y0 y1 y2 y3 y4, LeO (laws_FnFields.j2 k y0 y1 y2 y3 y4) (laws_FnFields.j2 (k + 1) y0 y1 y2 y3 y4))
  | 0 => ⟨fun _ _ _ _ _ _ _ _ _ r h => by simp [laws_FnFields.j0] at h, fun _ _ _ _ _ r h => by simp [laws_FnFields.j1] at h, fun _ _ r h => by simp [laws_FnFields.j3] at h, fun _ _ _ _ _ _ _ _ _ r h => by simp [laws_FnFields.l0] at h, fun _ _ _ _ _ _ _ _ _ r h => by simp [laws_FnFields.j5] at h, fun _ _ _ _ _ r h => by simp [laws_FnFields.j2] at h⟩
  | k + 1 => by
    obtain ⟨ih0, ih1, ih2, ih3, ih4, ih5⟩ := laws_FnFields.mono_l k
    refine ⟨?_, ?_, ?_, ?_, ?_, ?_⟩
    · intro y0 y1 y2 y3 y4 y5 y6 y7 y8
      unfold laws_FnFields.j0
      repeat' first
      | (with_reducible exact ih0 _ _ _ _ _ _ _ _ _)
      | (with_reducible exact ih1 _ _ _ _ _)
      | (with_reducible exact ih2 _ _)
      | (with_reducible exact ih3 _ _ _ _ _ _ _ _ _)
      | (with_reducible exact ih4 _ _ _ _ _ _ _ _ _)
      | (with_reducible exact ih5 _ _ _ _ _)
      | (with_reducible exact impl_FieldOf.mono _ _)
      | (with_reducible exact impl_FieldsOf.mono _ _)
      | (with_reducible exact impl_InverseIn.mono _ _ _ _)
      | (with_reducible exact impl_IsIrreducible.mono _ _)
      | (with_reducible exact impl_MulIn.mono _ _ _ _ _)
      | (with_reducible exact impl_ValidField.mono _ _ _)
      | (with_reducible exact spec_A2Element.mono _ _ _ _ _)
      | (with_reducible exact spec_A2Field.mono _ _)
      | (with_reducible exact LeO.refl _)
      | (with_reducible exact LeO.none _)
      | (with_reducible refine LeO.ite ?_ ?_)
      | (with_reducible refine LeO.bind ?_ (fun _ => ?_))
      | exact ih0 _ _ _ _ _ _ _ _ _
      | exact ih1 _ _ _ _ _
      | exact ih2 _ _
      | exact ih3 _ _ _ _ _ _ _ _ _
      | exact ih4 _ _ _ _ _ _ _ _ _
      | exact ih5 _ _ _ _ _
      | exact impl_FieldOf.mono _ _
      | exact impl_FieldsOf.mono _ _
      | exact impl_InverseIn.mono _ _ _ _
      | exact impl_IsIrreducible.mono _ _
      | exact impl_MulIn.mono _ _ _ _ _
      | exact impl_ValidField.mono _ _ _
      | exact spec_A2Element.mono _ _ _ _ _
      | exact spec_A2Field.mono _ _
      | exact LeO.none _
      | refine LeO.ite ?_ ?_
      | refine LeO.bind ?_ (fun _ => ?_)
    · intro y0 y1 y2 y3 y4
      unfold laws_FnFields.j1
      repeat' first
      | (with_reducible exact ih0 _ _ _ _ _ _ _ _ _)
      | (with_reducible exact ih1 _ _ _ _ _)
      | (with_reducible exact ih2 _ _)
      | (with_reducible exact ih3 _ _ _ _ _ _ _ _ _)
      | (with_reducible exact ih4 _ _ _ _ _ _ _ _ _)
      | (with_reducible exact ih5 _ _ _ _ _)
      | (with_reducible exact impl_FieldOf.mono _ _)
      | (with_reducible exact impl_FieldsOf.mono _ _)
      | (with_reducible exact impl_InverseIn.mono _ _ _ _)
      | (with_reducible exact impl_IsIrreducible.mono _ _)
      | (with_reducible exact impl_MulIn.mono _ _ _ _ _)
      | (with_reducible exact impl_ValidField.mono _ _ _)
      | (with_reducible exact spec_A2Element.mono _ _ _ _ _)
      | (with_reducible exact spec_A2Field.mono _ _)
      | (with_reducible exact LeO.refl _)
      | (with_reducible exact LeO.none _)
      | (with_reducible refine LeO.ite ?_ ?_)
      | (with_reducible refine LeO.bind ?_ (fun _ => ?_))
      | exact ih0 _ _ _ _ _ _ _ _ _
      | exact ih1 _ _ _ _ _
      | exact ih2 _ _
      | exact ih3 _ _ _ _ _ _ _ _ _
      | exact ih4 _ _ _ _ _ _ _ _ _
      | exact ih5 _ _ _ _ _
      | exact impl_FieldOf.mono _ _
      | exact impl_FieldsOf.mono _ _
      | exact impl_InverseIn.mono _ _ _ _
      | exact impl_IsIrreducible.mono _ _
      | exact impl_MulIn.mono _ _ _ _ _
      | exact impl_ValidField.mono _ _ _
      | exact spec_A2Element.mono _ _ _ _ _
      | exact spec_A2Field.mono _ _
      | exact LeO.none _
      | refine LeO.ite ?_ ?_
      | refine LeO.bind ?_ (fun _ => ?_)
    · intro y0 y1
      unfold laws_FnFields.j3
      repeat' first
      | (with_reducible exact ih0 _ _ _ _ _ _ _ _ _)
      | (with_reducible exact ih1 _ _ _ _ _)
      | (with_reducible exact ih2 _ _)
      | (with_reducible exact ih3 _ _ _ _ _ _ _ _ _)
      | (with_reducible exact ih4 _ _ _ _ _ _ _ _ _)
      | (with_reducible exact ih5 _ _ _ _ _)
      | (with_reducible exact impl_FieldOf.mono _ _)
      | (with_reducible exact impl_FieldsOf.mono _ _)
      | (with_reducible exact impl_InverseIn.mono _ _ _ _)
      | (with_reducible exact impl_IsIrreducible.mono _ _)
      | (with_reducible exact impl_MulIn.mono _ _ _ _ _)
      | (with_reducible exact impl_ValidField.mono _ _ _)
      | (with_reducible exact spec_A2Element.mono _ _ _ _ _)
      | (with_reducible exact spec_A2Field.mono _ _)
      | (with_reducible exact LeO.refl _)
      | (with_reducible exact LeO.none _)
      | (with_reducible refine LeO.ite ?_ ?_)
      | (with_reducible refine LeO.bind ?_ (fun _ => ?_))
      | exact ih0 _ _ _ _ _ _ _ _ _
      | exact ih1 _ _ _ _ _
      | exact ih2 _ _
      | exact ih3 _ _ _ _ _ _ _ _ _
      | exact ih4 _ _ _ _ _ _ _ _ _
      | exact ih5 _ _ _ _ _
      | exact impl_FieldOf.mono _ _
      | exact impl_FieldsOf.mono _ _
      | exact impl_InverseIn.mono _ _ _ _
      | exact impl_IsIrreducible.mono _ _
      | exact impl_MulIn.mono _ _ _ _ _
      | exact impl_ValidField.mono _ _ _
      | exact spec_A2Element.mono _ _ _ _ _
      | exact spec_A2Field.mono _ _
      | exact LeO.none _
      | refine LeO.ite ?_ ?_
      | refine LeO.bind ?_ (fun _ => ?_)
    · intro y0 y1 y2 y3 y4 y5 y6 y7 y8
      unfold laws_FnFields.l0
      repeat' first
      | (with_reducible exact ih0 _ _ _ _ _ _ _ _ _)
      | (with_reducible exact ih1 _ _ _ _ _)
      | (with_reducible exact ih2 _ _)
      | (with_reducible exact ih3 _ _ _ _ _ _ _ _ _)
      | (with_reducible exact ih4 _ _ _ _ _ _ _ _ _)
      | (with_reducible exact ih5 _ _ _ _ _)
      | (with_reducible exact impl_FieldOf.mono _ _)
      | (with_reducible exact impl_FieldsOf.mono _ _)
      | (with_reducible exact impl_InverseIn.mono _ _ _ _)
      | (with_reducible exact impl_IsIrreducible.mono _ _)
      | (with_reducible exact impl_MulIn.mono _ _ _ _ _)
      | (with_reducible exact impl_ValidField.mono _ _ _)
      | (with_reducible exact spec_A2Element.mono _ _ _ _ _)
      | (with_reducible exact spec_A2Field.mono _ _)
      | (with_reducible exact LeO.refl _)
      | (with_reducible exact LeO.none _)
      | (with_reducible refine LeO.ite ?_ ?_)
      | (with_reducible refine LeO.bind ?_ (fun _ => ?_))
      | exact ih0 _ _ _ _ _ _ _ _ _
      | exact ih1 _ _ _ _ _
      | exact ih2 _ _
      | exact ih3 _ _ _ _ _ _ _ _ _
      | exact ih4 _ _ _ _ _ _ _ _ _
      | exact ih5 _ _ _ _ _
      | exact impl_FieldOf.mono _ _
      | exact impl_FieldsOf.mono _ _
      | exact impl_InverseIn.mono _ _ _ _
      | exact impl_IsIrreducible.mono _ _
      | exact impl_MulIn.mono _ _ _ _ _
      | exact impl_ValidField.mono _ _ _
      | exact spec_A2Element.mono _ _ _ _ _
      | exact spec_A2Field.mono _ _
      | exact LeO.none _
      | refine LeO.ite ?_ ?_
      | refine LeO.bind ?_ (fun _ => ?_)
    · intro y0 y1 y2 y3 y4 y5 y6 y7 y8
      unfold laws_FnFields.j5
      repeat' first
      | (with_reducible exact ih0 _ _ _ _ _ _ _ _ _)
      | (with_reducible exact ih1 _ _ _ _ _)
      | (with_reducible exact ih2 _ _)
      | (with_reducible exact ih3 _ _ _ _ _ _ _ _ _)
      | (with_reducible exact ih4 _ _ _ _ _ _ _ _ _)
      | (with_reducible exact ih5 _ _ _ _ _)
      | (with_reducible exact impl_FieldOf.mono _ _)
      | (with_reducible exact impl_FieldsOf.mono _ _)
      | (with_reducible exact impl_InverseIn.mono _ _ _ _)
      | (with_reducible exact impl_IsIrreducible.mono _ _)
      | (with_reducible exact impl_MulIn.mono _ _ _ _ _)
      | (with_reducible exact impl_ValidField.mono _ _ _)
      | (with_reducible exact spec_A2Element.mono _ _ _ _ _)
      | (with_reducible exact spec_A2Field.mono _ _)
      | (with_reducible exact LeO.refl _)
      | (with_reducible exact LeO.none _)
      | (with_reducible refine LeO.ite ?_ ?_)
      | (with_reducible refine LeO.bind ?_ (fun _ => ?_))
      | exact ih0 _ _ _ _ _ _ _ _ _
      | exact ih1 _ _ _ _ _
      | exact ih2 _ _
      | exact ih3 _ _ _ _ _ _ _ _ _
      | exact ih4 _ _ _ _ _ _ _ _ _
      | exact ih5 _ _ _ _ _
      | exact impl_FieldOf.mono _ _
      | exact impl_FieldsOf.mono _ _
      | exact impl_InverseIn.mono _ _ _ _
      | exact impl_IsIrreducible.mono _ _
      | exact impl_MulIn.mono _ _ _ _ _
      | exact impl_ValidField.mono _ _ _
      | exact spec_A2Element.mono _ _ _ _ _
      | exact spec_A2Field.mono _ _
      | exact LeO.none _
      | refine LeO.ite ?_ ?_
      | refine LeO.bind ?_ (fun _ => ?_)
    · intro y0 y1 y2 y3 y4
      unfold laws_FnFields.j2
      repeat' first
      | (with_reducible exact ih0 _ _ _ _ _ _ _ _ _)
      | (with_reducible exact ih1 _ _ _ _ _)
      | (with_reducible exact ih2 _ _)
      | (with_reducible exact ih3 _ _ _ _ _ _ _ _ _)
      | (with_reducible exact ih4 _ _ _ _ _ _ _ _ _)
      | (with_reducible exact ih5 _ _ _ _ _)
      | (with_reducible exact impl_FieldOf.mono _ _)
      | (with_reducible exact impl_FieldsOf.mono _ _)
      | (with_reducible exact impl_InverseIn.mono _ _ _ _)
      | (with_reducible exact impl_IsIrreducible.mono _ _)
      | (with_reducible exact impl_MulIn.mono _ _ _ _ _)
      | (with_reducible exact impl_ValidField.mono _ _ _)
      | (with_reducible exact spec_A2Element.mono _ _ _ _ _)
      | (with_reducible exact spec_A2Field.mono _ _)
      | (with_reducible exact LeO.refl _)
      | (with_reducible exact LeO.none _)
      | (with_reducible refine LeO.ite ?_ ?_)
      | (with_reducible refine LeO.bind ?_ (fun _ => ?_))
      | exact ih0 _ _ _ _ _ _ _ _ _
      | exact ih1 _ _ _ _ _
      | exact ih2 _ _
      | exact ih3 _ _ _ _ _ _ _ _ _
      | exact ih4 _ _ _ _ _ _ _ _ _
      | exact ih5 _ _ _ _ _
      | exact impl_FieldOf.mono _ _
      | exact impl_FieldsOf.mono _ _
      | exact impl_InverseIn.mono _ _ _ _
      | exact impl_IsIrreducible.mono _ _
      | exact impl_MulIn.mono _ _ _ _ _
      | exact impl_ValidField.mono _ _ _
      | exact spec_A2Element.mono _ _ _ _ _
      | exact spec_A2Field.mono _ _
      | exact LeO.none _
      | refine LeO.ite ?_ ?_
      | refine LeO.bind ?_ (fun _ => ?_)
theorem laws_FnFields.mono : ∀ a0 a1 k, LeO (laws_FnFields.f k a0 a1) (laws_FnFields.f (k + 1) a0 a1) := by
  intro a0 a1 k
  obtain ⟨ih0, ih1, ih2, ih3, ih4, ih5⟩ := laws_FnFields.mono_l k
  unfold laws_FnFields.f
  repeat' first
      | (with_reducible exact ih0 _ _ _ _ _ _ _ _ _)
      | (with_reducible exact ih1 _ _ _ _ _)
      | (with_reducible exact ih2 _ _)
      | (with_reducible exact ih3 _ _ _ _ _ _ _ _ _)
      | (with_reducible exact ih4 _ _ _ _ _ _ _ _ _)
      | (with_reducible exact ih5 _ _ _ _ _)
      | (with_reducible exact impl_FieldOf.mono _ _)
      | (with_reducible exact impl_FieldsOf.mono _ _)
      | (with_reducible exact impl_InverseIn.mono _ _ _ _)
      | (with_reducible exact impl_IsIrreducible.mono _ _)
      | (with_reducible exact impl_MulIn.mono _ _ _ _ _)
      | (with_reducible exact impl_ValidField.mono _ _ _)
      | (with_reducible exact spec_A2Element.mono _ _ _ _ _)
      | (with_reducible exact spec_A2Field.mono _ _)
      | (with_reducible exact LeO.refl _)
      | (with_reducible exact LeO.none _)
      | (with_reducible refine LeO.ite ?_ ?_)
      | (with_reducible refine LeO.bind ?_ (fun _ => ?_))
      | exact ih0 _ _ _ _ _ _ _ _ _
      | exact ih1 _ _ _ _ _
      | exact ih2 _ _
      | exact ih3 _ _ _ _ _ _ _ _ _
      | exact ih4 _ _ _ _ _ _ _ _ _
      | exact ih5 _ _ _ _ _
      | exact impl_FieldOf.mono _ _
      | exact impl_FieldsOf.mono _ _
      | exact impl_InverseIn.mono _ _ _ _
      | exact impl_IsIrreducible.mono _ _
      | exact impl_MulIn.mono _ _ _ _ _
      | exact impl_ValidField.mono _ _ _
      | exact spec_A2Element.mono _ _ _ _ _
      | exact spec_A2Field.mono _ _
      | exact LeO.none _
      | refine LeO.ite ?_ ?_
      | refine LeO.bind ?_ (fun _ => ?_)
def laws_FnFields.T35 : Bool × List (List Nat × List Nat) := (true, [([], []), ([0], [0]), ([1], [1]), ([1], [1]), ([2, 3, 1], [1, 2, 3]), ([4, 1], [1, 4]), ([1], [1]), ([5, 6, 1], [1, 5, 6]), ([1, 7], [1, 7]), ([8, 1, 0, 1, 2, 3, 4, 5, 6, 7, 8], [0, 8])])
def laws_FnFields.B35 : List Nat := [0, 1, 3, 3, 15, 31, 3, 127, 255, 511]
theorem laws_FnFields.tab35 : rtab .any (opsOf Try.f8 35) = laws_FnFields.T35 := by kernel_rfl
theorem laws_FnFields.bits35 : waitsOk laws_FnFields.T35.2 laws_FnFields.B35 = true := by kernel_rfl
def laws_FnFields.T36 : Bool × List (List Nat × List Nat) := (true, [([], []), ([], []), ([0, 1], [0, 1]), ([2], [2]), ([3], [3]), ([4], [4]), ([5, 4], [5]), ([6], [6]), ([6], [6]), ([7, 8, 6], [6, 7, 8]), ([9, 6], [6, 9]), ([10, 6], [6, 10]), ([11, 6, 6], [6, 11]), ([12, 6], [6, 12]), ([6, 13], [6, 13]), ([14, 12], [14]), ([15], [15]), ([15], [15]), ([16, 17, 15], [15, 16, 17]), ([18, 15], [15, 18]), ([19, 15], [15, 19]), ([15], [15]), ([21, 15], [15, 21]), ([20, 22, 15], [15, 20, 22]), ([15, 23], [15, 23])])
def laws_FnFields.B36 : List Nat := [0, 0, 3, 7, 15, 31, 63, 127, 127, 511, 1023, 2047, 4095, 8191, 16383, 32767, 65535, 65535, 262143, 524287, 1048575, 65535, 2162687, 8388607, 16777215]
theorem laws_FnFields.tab36 : rtab .any (opsOf Try.f8 36) = laws_FnFields.T36 := by kernel_rfl
theorem laws_FnFields.bits36 : waitsOk laws_FnFields.T36.2 laws_FnFields.B36 = true := by kernel_rfl
def laws_FnFields.T38 : Bool × List (List Nat × List Nat) := (true, [([], []), ([0], [0]), ([1], [1]), ([2], [2]), ([3, 2], [2, 3]), ([2, 4], [2, 4]), ([5, 2], [5]), ([6], [6]), ([6, 7], [6, 7]), ([8, 6], [8]), ([9], [9]), ([10, 9], [9, 10]), ([11, 9], [9, 11]), ([9, 12], [9, 12]), ([13, 9], [13]), ([14], [14]), ([15, 14], [14, 15]), ([16, 14], [14, 16]), ([14], [14]), ([17, 18, 14], [14, 17, 18]), ([14, 19], [14, 19]), ([20, 14, 0, 1, 2, 3, 4, 5, 6, 7, 8, 9, 10, 11, 12, 13, 14, 15, 16, 17, 18, 19, 20], [20])])
def laws_FnFields.B38 : List Nat := [0, 1, 3, 7, 15, 31, 63, 127, 255, 511, 1023, 2047, 4095, 8191, 16383, 32767, 65535, 131071, 32767, 524287, 1048575, 2097151]
theorem laws_FnFields.tab38 : rtab .any (opsOf Try.f8 38) = laws_FnFields.T38 := by kernel_rfl
theorem laws_FnFields.bits38 : waitsOk laws_FnFields.T38.2 laws_FnFields.B38 = true := by kernel_rfl
/-- what is left to show behind a cut -/
structure Later (P : Prop) : Prop where
  out : P
set_option maxHeartbeats 8000000 in
set_option maxRecDepth 100000 in
def laws_FnFields.part1 : Σ' X : Prop, (Later X → ∀ (k : Nat) (A0 : Option Addr) (c0 : Nat) (l0 : List Int) (A1 : Option Addr) (c1 : Nat) (l1 : List Int) (r : Bool) (w : World) (hr0 : Kd.C (Kd.int .u8) w A0 l0.length l0) (hc0 : l0.length ≤ c0) (hr1 : Kd.C (Kd.int .u8) w A1 l1.length l1) (hc1 : l1.length ≤ c1) (h : laws_FnFields.f k l0 l1 = some r), Calls Try.prog 8 #[.slice A0 l0.length c0, .slice A1 l1.length c1] w fun e w' => e = .returned (.bool r) ∧ Below w.heap.size w w') := by
  apply PSigma.mk
  case snd =>
  intro HLATER1 k A0 c0 l0 A1 c1 l1 r w hr0 hc0 hr1 hc1 h
  have hu33 := Try.underlying33
  have HR0 := Aside0.mk hr0
  have HC0 := Aside0.mk hc0
  clear hr0 hc0
  have HR1 := Aside0.mk hr1
  have HC1 := Aside0.mk hc1
  clear hr1 hc1
  have HB := Aside0.mk (Below.refl w.heap.size w)
  have H : ((laws_a2Long.f l0 l1).bind fun t214 => (if t214 = true then (some true) else ((spec_A2Field.f k l0).bind fun bt215 => (if 0 ≤ (IntKind.u64.wrap (bt215.1)) then ((spec_A2Element.f k l1 bt215.1 bt215.2 0).bind fun t218 => ((spec_A2Element.f k l1 bt215.1 bt215.2 1).bind fun t219 => ((spec_A2Element.f k l1 bt215.1 bt215.2 2).bind fun t220 => ((impl_MulIn.f k bt215.1 bt215.2 t218 t219).bind fun bt221 => ((impl_MulIn.f k bt215.1 bt215.2 t219 t218).bind fun bt223 => ((impl_MulIn.f k bt215.1 bt215.2 t218 t220).bind fun bt225 => ((impl_MulIn.f k bt215.1 bt215.2 t218 (Go.bits .xor .i64 t219 t220)).bind fun bt227 => ((impl_MulIn.f k bt215.1 bt215.2 t219 t220).bind fun bt229 => (if bt221.2 = 0 then (if bt223.2 = 0 then (if bt225.2 = 0 then (if bt227.2 = 0 then (if bt229.2 = 0 then (if bt221.1 = bt223.1 then (if bt227.1 = (Go.bits .xor .i64 bt221.1 bt225.1) then (if bt221.1 < 0 then (laws_FnFields.j0 k (shl .i64 1 (IntKind.u64.wrap (bt215.1))) t218 t219 t220 bt221.1 bt229.1 true bt215.1 bt215.2) else (if bt221.1 ≥ (shl .i64 1 (IntKind.u64.wrap (bt215.1))) then (laws_FnFields.j0 k (shl .i64 1 (IntKind.u64.wrap (bt215.1))) t218 t219 t220 bt221.1 bt229.1 true bt215.1 bt215.2) else (if bt229.1 < 0 then (laws_FnFields.j0 k (shl .i64 1 (IntKind.u64.wrap (bt215.1))) t218 t219 t220 bt221.1 bt229.1 true bt215.1 bt215.2) else (laws_FnFields.j0 k (shl .i64 1 (IntKind.u64.wrap (bt215.1))) t218 t219 t220 bt221.1 bt229.1 (decide (bt229.1 ≥ (shl .i64 1 (IntKind.u64.wrap (bt215.1))))) bt215.1 bt215.2)))) else (laws_FnFields.j0 k (shl .i64 1 (IntKind.u64.wrap (bt215.1))) t218 t219 t220 bt221.1 bt229.1 true bt215.1 bt215.2)) else (laws_FnFields.j0 k (shl .i64 1 (IntKind.u64.wrap (bt215.1))) t218 t219 t220 bt221.1 bt229.1 true bt215.1 bt215.2)) else (laws_FnFields.j0 k (shl .i64 1 (IntKind.u64.wrap (bt215.1))) t218 t219 t220 bt221.1 bt229.1 true bt215.1 bt215.2)) else (laws_FnFields.j0 k (shl .i64 1 (IntKind.u64.wrap (bt215.1))) t218 t219 t220 bt221.1 bt229.1 true bt215.1 bt215.2)) else (laws_FnFields.j0 k (shl .i64 1 (IntKind.u64.wrap (bt215.1))) t218 t219 t220 bt221.1 bt229.1 true bt215.1 bt215.2)) else (laws_FnFields.j0 k (shl .i64 1 (IntKind.u64.wrap (bt215.1))) t218 t219 t220 bt221.1 bt229.1 true bt215.1 bt215.2)) else (laws_FnFields.j0 k (shl .i64 1 (IntKind.u64.wrap (bt215.1))) t218 t219 t220 bt221.1 bt229.1 true bt215.1 bt215.2)))))))))) else (none))))) = some r := h
  clear h
  replace H := Option.bind_eq_some_iff.mp H
  obtain ⟨t214, A30, H⟩ := H
  replace H : (if t214 = true then (some true) else ((spec_A2Field.f k l0).bind fun bt215 => (if 0 ≤ (IntKind.u64.wrap (bt215.1)) then ((spec_A2Element.f k l1 bt215.1 bt215.2 0).bind fun t218 => ((spec_A2Element.f k l1 bt215.1 bt215.2 1).bind fun t219 => ((spec_A2Element.f k l1 bt215.1 bt215.2 2).bind fun t220 => ((impl_MulIn.f k bt215.1 bt215.2 t218 t219).bind fun bt221 => ((impl_MulIn.f k bt215.1 bt215.2 t219 t218).bind fun bt223 => ((impl_MulIn.f k bt215.1 bt215.2 t218 t220).bind fun bt225 => ((impl_MulIn.f k bt215.1 bt215.2 t218 (Go.bits .xor .i64 t219 t220)).bind fun bt227 => ((impl_MulIn.f k bt215.1 bt215.2 t219 t220).bind fun bt229 => (if bt221.2 = 0 then (if bt223.2 = 0 then (if bt225.2 = 0 then (if bt227.2 = 0 then (if bt229.2 = 0 then (if bt221.1 = bt223.1 then (if bt227.1 = (Go.bits .xor .i64 bt221.1 bt225.1) then (if bt221.1 < 0 then (laws_FnFields.j0 k (shl .i64 1 (IntKind.u64.wrap (bt215.1))) t218 t219 t220 bt221.1 bt229.1 true bt215.1 bt215.2) else (if bt221.1 ≥ (shl .i64 1 (IntKind.u64.wrap (bt215.1))) then (laws_FnFields.j0 k (shl .i64 1 (IntKind.u64.wrap (bt215.1))) t218 t219 t220 bt221.1 bt229.1 true bt215.1 bt215.2) else (if bt229.1 < 0 then (laws_FnFields.j0 k (shl .i64 1 (IntKind.u64.wrap (bt215.1))) t218 t219 t220 bt221.1 bt229.1 true bt215.1 bt215.2) else (laws_FnFields.j0 k (shl .i64 1 (IntKind.u64.wrap (bt215.1))) t218 t219 t220 bt221.1 bt229.1 (decide (bt229.1 ≥ (shl .i64 1 (IntKind.u64.wrap (bt215.1))))) bt215.1 bt215.2)))) else (laws_FnFields.j0 k (shl .i64 1 (IntKind.u64.wrap (bt215.1))) t218 t219 t220 bt221.1 bt229.1 true bt215.1 bt215.2)) else (laws_FnFields.j0 k (shl .i64 1 (IntKind.u64.wrap (bt215.1))) t218 t219 t220 bt221.1 bt229.1 true bt215.1 bt215.2)) else (laws_FnFields.j0 k (shl .i64 1 (IntKind.u64.wrap (bt215.1))) t218 t219 t220 bt221.1 bt229.1 true bt215.1 bt215.2)) else (laws_FnFields.j0 k (shl .i64 1 (IntKind.u64.wrap (bt215.1))) t218 t219 t220 bt221.1 bt229.1 true bt215.1 bt215.2)) else (laws_FnFields.j0 k (shl .i64 1 (IntKind.u64.wrap (bt215.1))) t218 t219 t220 bt221.1 bt229.1 true bt215.1 bt215.2)) else (laws_FnFields.j0 k (shl .i64 1 (IntKind.u64.wrap (bt215.1))) t218 t219 t220 bt221.1 bt229.1 true bt215.1 bt215.2)) else (laws_FnFields.j0 k (shl .i64 1 (IntKind.u64.wrap (bt215.1))) t218 t219 t220 bt221.1 bt229.1 true bt215.1 bt215.2)))))))))) else (none)))) = some r := H
  have A3 := Aside0.mk A30
  clear A30
  by_cases c4 : t214 = true
  · subst c4
    have H1 : (some true) = some r := by rw [if_pos rfl] at H; exact H
    clear H
    have H := H1
    clear H1
    obtain rfl := Option.some.inj H
    go_enter Try.func8, Try.ntmps8
    go_wp2_with (first | ((with_reducible refine gate_callee (f := 23) rfl ?_); refine goesL_ (some 38) rfl rfl Try.func23 (by kernel_rfl) rfl #[.slice A0 l0.length c0, .slice A1 l1.length c1] rfl (by (try simp only [List.map_toArray, List.map_cons, List.map_nil]); first | done | rfl | (simp only [List.length_drop, List.length_take]; rfl)) ?_; (with_reducible refine (laws_a2Long.calls _ _ l0 _ _ l1 true _ ?side1 ?side2 ?side3 ?side4 A3.out).mono ?_); (case side1 => repeat (first | exact HR0.out | (with_reducible refine Kd.C_alloc ?_ _) | (with_reducible refine Kd.C_drewN ?_ _) | (with_reducible refine Kd.C_drew ?_))); (case side2 => exact HC0.out); (case side3 => repeat (first | exact HR1.out | (with_reducible refine Kd.C_alloc ?_ _) | (with_reducible refine Kd.C_drewN ?_ _) | (with_reducible refine Kd.C_drew ?_))); (case side4 => exact HC1.out); rintro e w' ⟨rfl, ⟨nd, rfl⟩⟩; refine ⟨_, rfl, ?_⟩))
    go_ret
    exact ⟨by first | rfl | (simp [errW_none, errW_some] <;> rfl) | (simp [*, errW_none, errW_some] <;> rfl), by repeat (first | (with_reducible first | exact HB.out | apply below_alloc | apply pw_below_drewN | apply below_drew1) | exact HB.out)⟩
  · replace c4 := Bool.eq_false_iff.mpr c4
    subst c4
    have H1 : ((spec_A2Field.f k l0).bind fun bt215 => (if 0 ≤ (IntKind.u64.wrap (bt215.1)) then ((spec_A2Element.f k l1 bt215.1 bt215.2 0).bind fun t218 => ((spec_A2Element.f k l1 bt215.1 bt215.2 1).bind fun t219 => ((spec_A2Element.f k l1 bt215.1 bt215.2 2).bind fun t220 => ((impl_MulIn.f k bt215.1 bt215.2 t218 t219).bind fun bt221 => ((impl_MulIn.f k bt215.1 bt215.2 t219 t218).bind fun bt223 => ((impl_MulIn.f k bt215.1 bt215.2 t218 t220).bind fun bt225 => ((impl_MulIn.f k bt215.1 bt215.2 t218 (Go.bits .xor .i64 t219 t220)).bind fun bt227 => ((impl_MulIn.f k bt215.1 bt215.2 t219 t220).bind fun bt229 => (if bt221.2 = 0 then (if bt223.2 = 0 then (if bt225.2 = 0 then (if bt227.2 = 0 then (if bt229.2 = 0 then (if bt221.1 = bt223.1 then (if bt227.1 = (Go.bits .xor .i64 bt221.1 bt225.1) then (if bt221.1 < 0 then (laws_FnFields.j0 k (shl .i64 1 (IntKind.u64.wrap (bt215.1))) t218 t219 t220 bt221.1 bt229.1 true bt215.1 bt215.2) else (if bt221.1 ≥ (shl .i64 1 (IntKind.u64.wrap (bt215.1))) then (laws_FnFields.j0 k (shl .i64 1 (IntKind.u64.wrap (bt215.1))) t218 t219 t220 bt221.1 bt229.1 true bt215.1 bt215.2) else (if bt229.1 < 0 then (laws_FnFields.j0 k (shl .i64 1 (IntKind.u64.wrap (bt215.1))) t218 t219 t220 bt221.1 bt229.1 true bt215.1 bt215.2) else (laws_FnFields.j0 k (shl .i64 1 (IntKind.u64.wrap (bt215.1))) t218 t219 t220 bt221.1 bt229.1 (decide (bt229.1 ≥ (shl .i64 1 (IntKind.u64.wrap (bt215.1))))) bt215.1 bt215.2)))) else (laws_FnFields.j0 k (shl .i64 1 (IntKind.u64.wrap (bt215.1))) t218 t219 t220 bt221.1 bt229.1 true bt215.1 bt215.2)) else (laws_FnFields.j0 k (shl .i64 1 (IntKind.u64.wrap (bt215.1))) t218 t219 t220 bt221.1 bt229.1 true bt215.1 bt215.2)) else (laws_FnFields.j0 k (shl .i64 1 (IntKind.u64.wrap (bt215.1))) t218 t219 t220 bt221.1 bt229.1 true bt215.1 bt215.2)) else (laws_FnFields.j0 k (shl .i64 1 (IntKind.u64.wrap (bt215.1))) t218 t219 t220 bt221.1 bt229.1 true bt215.1 bt215.2)) else (laws_FnFields.j0 k (shl .i64 1 (IntKind.u64.wrap (bt215.1))) t218 t219 t220 bt221.1 bt229.1 true bt215.1 bt215.2)) else (laws_FnFields.j0 k (shl .i64 1 (IntKind.u64.wrap (bt215.1))) t218 t219 t220 bt221.1 bt229.1 true bt215.1 bt215.2)) else (laws_FnFields.j0 k (shl .i64 1 (IntKind.u64.wrap (bt215.1))) t218 t219 t220 bt221.1 bt229.1 true bt215.1 bt215.2)))))))))) else (none))) = some r := by rw [if_neg (show ¬ (false = true) by decide)] at H; exact H
    clear H
    have H := H1
    clear H1
    replace H := Option.bind_eq_some_iff.mp H
    obtain ⟨⟨t215, t216⟩, A50, H⟩ := H
    replace H : (if 0 ≤ (IntKind.u64.wrap (t215)) then ((spec_A2Element.f k l1 t215 t216 0).bind fun t218 => ((spec_A2Element.f k l1 t215 t216 1).bind fun t219 => ((spec_A2Element.f k l1 t215 t216 2).bind fun t220 => ((impl_MulIn.f k t215 t216 t218 t219).bind fun bt221 => ((impl_MulIn.f k t215 t216 t219 t218).bind fun bt223 => ((impl_MulIn.f k t215 t216 t218 t220).bind fun bt225 => ((impl_MulIn.f k t215 t216 t218 (Go.bits .xor .i64 t219 t220)).bind fun bt227 => ((impl_MulIn.f k t215 t216 t219 t220).bind fun bt229 => (if bt221.2 = 0 then (if bt223.2 = 0 then (if bt225.2 = 0 then (if bt227.2 = 0 then (if bt229.2 = 0 then (if bt221.1 = bt223.1 then (if bt227.1 = (Go.bits .xor .i64 bt221.1 bt225.1) then (if bt221.1 < 0 then (laws_FnFields.j0 k (shl .i64 1 (IntKind.u64.wrap (t215))) t218 t219 t220 bt221.1 bt229.1 true t215 t216) else (if bt221.1 ≥ (shl .i64 1 (IntKind.u64.wrap (t215))) then (laws_FnFields.j0 k (shl .i64 1 (IntKind.u64.wrap (t215))) t218 t219 t220 bt221.1 bt229.1 true t215 t216) else (if bt229.1 < 0 then (laws_FnFields.j0 k (shl .i64 1 (IntKind.u64.wrap (t215))) t218 t219 t220 bt221.1 bt229.1 true t215 t216) else (laws_FnFields.j0 k (shl .i64 1 (IntKind.u64.wrap (t215))) t218 t219 t220 bt221.1 bt229.1 (decide (bt229.1 ≥ (shl .i64 1 (IntKind.u64.wrap (t215))))) t215 t216)))) else (laws_FnFields.j0 k (shl .i64 1 (IntKind.u64.wrap (t215))) t218 t219 t220 bt221.1 bt229.1 true t215 t216)) else (laws_FnFields.j0 k (shl .i64 1 (IntKind.u64.wrap (t215))) t218 t219 t220 bt221.1 bt229.1 true t215 t216)) else (laws_FnFields.j0 k (shl .i64 1 (IntKind.u64.wrap (t215))) t218 t219 t220 bt221.1 bt229.1 true t215 t216)) else (laws_FnFields.j0 k (shl .i64 1 (IntKind.u64.wrap (t215))) t218 t219 t220 bt221.1 bt229.1 true t215 t216)) else (laws_FnFields.j0 k (shl .i64 1 (IntKind.u64.wrap (t215))) t218 t219 t220 bt221.1 bt229.1 true t215 t216)) else (laws_FnFields.j0 k (shl .i64 1 (IntKind.u64.wrap (t215))) t218 t219 t220 bt221.1 bt229.1 true t215 t216)) else (laws_FnFields.j0 k (shl .i64 1 (IntKind.u64.wrap (t215))) t218 t219 t220 bt221.1 bt229.1 true t215 t216)))))))))) else (none)) = some r := H
    have A5 := Aside0.mk A50
    clear A50
    obtain ⟨ji6, hji6⟩ : ∃ j_ : Int, (IntKind.u64.wrap (t215)) = j_ := ⟨_, rfl⟩
    replace H : (if 0 ≤ (ji6) then ((spec_A2Element.f k l1 t215 t216 0).bind fun t218 => ((spec_A2Element.f k l1 t215 t216 1).bind fun t219 => ((spec_A2Element.f k l1 t215 t216 2).bind fun t220 => ((impl_MulIn.f k t215 t216 t218 t219).bind fun bt221 => ((impl_MulIn.f k t215 t216 t219 t218).bind fun bt223 => ((impl_MulIn.f k t215 t216 t218 t220).bind fun bt225 => ((impl_MulIn.f k t215 t216 t218 (Go.bits .xor .i64 t219 t220)).bind fun bt227 => ((impl_MulIn.f k t215 t216 t219 t220).bind fun bt229 => (if bt221.2 = 0 then (if bt223.2 = 0 then (if bt225.2 = 0 then (if bt227.2 = 0 then (if bt229.2 = 0 then (if bt221.1 = bt223.1 then (if bt227.1 = (Go.bits .xor .i64 bt221.1 bt225.1) then (if bt221.1 < 0 then (laws_FnFields.j0 k (shl .i64 1 (ji6)) t218 t219 t220 bt221.1 bt229.1 true t215 t216) else (if bt221.1 ≥ (shl .i64 1 (ji6)) then (laws_FnFields.j0 k (shl .i64 1 (ji6)) t218 t219 t220 bt221.1 bt229.1 true t215 t216) else (if bt229.1 < 0 then (laws_FnFields.j0 k (shl .i64 1 (ji6)) t218 t219 t220 bt221.1 bt229.1 true t215 t216) else (laws_FnFields.j0 k (shl .i64 1 (ji6)) t218 t219 t220 bt221.1 bt229.1 (decide (bt229.1 ≥ (shl .i64 1 (ji6)))) t215 t216)))) else (laws_FnFields.j0 k (shl .i64 1 (ji6)) t218 t219 t220 bt221.1 bt229.1 true t215 t216)) else (laws_FnFields.j0 k (shl .i64 1 (ji6)) t218 t219 t220 bt221.1 bt229.1 true t215 t216)) else (laws_FnFields.j0 k (shl .i64 1 (ji6)) t218 t219 t220 bt221.1 bt229.1 true t215 t216)) else (laws_FnFields.j0 k (shl .i64 1 (ji6)) t218 t219 t220 bt221.1 bt229.1 true t215 t216)) else (laws_FnFields.j0 k (shl .i64 1 (ji6)) t218 t219 t220 bt221.1 bt229.1 true t215 t216)) else (laws_FnFields.j0 k (shl .i64 1 (ji6)) t218 t219 t220 bt221.1 bt229.1 true t215 t216)) else (laws_FnFields.j0 k (shl .i64 1 (ji6)) t218 t219 t220 bt221.1 bt229.1 true t215 t216)))))))))) else (none)) = some r := by first | (rw [hji6] at H; exact H) | (simp only [hji6] at H ⊢; exact H)
    (try rw [hji6] at A3)
    (try rw [hji6] at A5)
    by_cases c7 : 0 ≤ (ji6)
    · rw [if_pos c7] at H
      have c7b0 := eq_true c7
      have c7b1 : decide (0 ≤ (ji6)) = true := decide_eq_true c7
      clear c7
      obtain ⟨ji8, hji8⟩ : ∃ j_ : Int, (shl .i64 1 (ji6)) = j_ := ⟨_, rfl⟩
      replace H : ((spec_A2Element.f k l1 t215 t216 0).bind fun t218 => ((spec_A2Element.f k l1 t215 t216 1).bind fun t219 => ((spec_A2Element.f k l1 t215 t216 2).bind fun t220 => ((impl_MulIn.f k t215 t216 t218 t219).bind fun bt221 => ((impl_MulIn.f k t215 t216 t219 t218).bind fun bt223 => ((impl_MulIn.f k t215 t216 t218 t220).bind fun bt225 => ((impl_MulIn.f k t215 t216 t218 (Go.bits .xor .i64 t219 t220)).bind fun bt227 => ((impl_MulIn.f k t215 t216 t219 t220).bind fun bt229 => (if bt221.2 = 0 then (if bt223.2 = 0 then (if bt225.2 = 0 then (if bt227.2 = 0 then (if bt229.2 = 0 then (if bt221.1 = bt223.1 then (if bt227.1 = (Go.bits .xor .i64 bt221.1 bt225.1) then (if bt221.1 < 0 then (laws_FnFields.j0 k ji8 t218 t219 t220 bt221.1 bt229.1 true t215 t216) else (if bt221.1 ≥ (ji8) then (laws_FnFields.j0 k ji8 t218 t219 t220 bt221.1 bt229.1 true t215 t216) else (if bt229.1 < 0 then (laws_FnFields.j0 k ji8 t218 t219 t220 bt221.1 bt229.1 true t215 t216) else (laws_FnFields.j0 k ji8 t218 t219 t220 bt221.1 bt229.1 (decide (bt229.1 ≥ (ji8))) t215 t216)))) else (laws_FnFields.j0 k ji8 t218 t219 t220 bt221.1 bt229.1 true t215 t216)) else (laws_FnFields.j0 k ji8 t218 t219 t220 bt221.1 bt229.1 true t215 t216)) else (laws_FnFields.j0 k ji8 t218 t219 t220 bt221.1 bt229.1 true t215 t216)) else (laws_FnFields.j0 k ji8 t218 t219 t220 bt221.1 bt229.1 true t215 t216)) else (laws_FnFields.j0 k ji8 t218 t219 t220 bt221.1 bt229.1 true t215 t216)) else (laws_FnFields.j0 k ji8 t218 t219 t220 bt221.1 bt229.1 true t215 t216)) else (laws_FnFields.j0 k ji8 t218 t219 t220 bt221.1 bt229.1 true t215 t216)))))))))) = some r := by first | (rw [hji8] at H; exact H) | (simp only [hji8] at H ⊢; exact H)
      (try rw [hji8] at A3)
      (try rw [hji8] at A5)
      have hji8_ : (IntKind.i64.wrap (1 * 2 ^ min (ji6).toNat 64)) = ji8 := hji8
      have hji8z : (ji6) ≤ 64 → (IntKind.i64.wrap (1 * 2 ^ (ji6).toNat)) = ji8 := shl_small hji8
      have hji8u : (IntKind.i64.wrap (2 ^ min (ji6).toNat 64)) = ji8 := by have h_ := hji8_; rw [Int.one_mul] at h_; exact h_
      have hji8v : (ji6) ≤ 64 → (IntKind.i64.wrap (2 ^ (ji6).toNat)) = ji8 := fun hle_ => by have h_ := hji8z hle_; rw [Int.one_mul] at h_; exact h_
      have hji8y : (wrap64 (1 * 2 ^ min (ji6).toNat 64)) = ji8 := (i64_w _).symm.trans hji8_
      have hji8x : (ji6) ≤ 64 → (wrap64 (1 * 2 ^ (ji6).toNat)) = ji8 := fun h_ => (i64_w _).symm.trans (hji8z h_)
      replace H := Option.bind_eq_some_iff.mp H
      obtain ⟨t218, A90, H⟩ := H
      replace H : ((spec_A2Element.f k l1 t215 t216 1).bind fun t219 => ((spec_A2Element.f k l1 t215 t216 2).bind fun t220 => ((impl_MulIn.f k t215 t216 t218 t219).bind fun bt221 => ((impl_MulIn.f k t215 t216 t219 t218).bind fun bt223 => ((impl_MulIn.f k t215 t216 t218 t220).bind fun bt225 => ((impl_MulIn.f k t215 t216 t218 (Go.bits .xor .i64 t219 t220)).bind fun bt227 => ((impl_MulIn.f k t215 t216 t219 t220).bind fun bt229 => (if bt221.2 = 0 then (if bt223.2 = 0 then (if bt225.2 = 0 then (if bt227.2 = 0 then (if bt229.2 = 0 then (if bt221.1 = bt223.1 then (if bt227.1 = (Go.bits .xor .i64 bt221.1 bt225.1) then (if bt221.1 < 0 then (laws_FnFields.j0 k ji8 t218 t219 t220 bt221.1 bt229.1 true t215 t216) else (if bt221.1 ≥ (ji8) then (laws_FnFields.j0 k ji8 t218 t219 t220 bt221.1 bt229.1 true t215 t216) else (if bt229.1 < 0 then (laws_FnFields.j0 k ji8 t218 t219 t220 bt221.1 bt229.1 true t215 t216) else (laws_FnFields.j0 k ji8 t218 t219 t220 bt221.1 bt229.1 (decide (bt229.1 ≥ (ji8))) t215 t216)))) else (laws_FnFields.j0 k ji8 t218 t219 t220 bt221.1 bt229.1 true t215 t216)) else (laws_FnFields.j0 k ji8 t218 t219 t220 bt221.1 bt229.1 true t215 t216)) else (laws_FnFields.j0 k ji8 t218 t219 t220 bt221.1 bt229.1 true t215 t216)) else (laws_FnFields.j0 k ji8 t218 t219 t220 bt221.1 bt229.1 true t215 t216)) else (laws_FnFields.j0 k ji8 t218 t219 t220 bt221.1 bt229.1 true t215 t216)) else (laws_FnFields.j0 k ji8 t218 t219 t220 bt221.1 bt229.1 true t215 t216)) else (laws_FnFields.j0 k ji8 t218 t219 t220 bt221.1 bt229.1 true t215 t216))))))))) = some r := H
      have A9 := Aside0.mk A90
      clear A90
      replace H := Option.bind_eq_some_iff.mp H
      obtain ⟨t219, A100, H⟩ := H
      replace H : ((spec_A2Element.f k l1 t215 t216 2).bind fun t220 => ((impl_MulIn.f k t215 t216 t218 t219).bind fun bt221 => ((impl_MulIn.f k t215 t216 t219 t218).bind fun bt223 => ((impl_MulIn.f k t215 t216 t218 t220).bind fun bt225 => ((impl_MulIn.f k t215 t216 t218 (Go.bits .xor .i64 t219 t220)).bind fun bt227 => ((impl_MulIn.f k t215 t216 t219 t220).bind fun bt229 => (if bt221.2 = 0 then (if bt223.2 = 0 then (if bt225.2 = 0 then (if bt227.2 = 0 then (if bt229.2 = 0 then (if bt221.1 = bt223.1 then (if bt227.1 = (Go.bits .xor .i64 bt221.1 bt225.1) then (if bt221.1 < 0 then (laws_FnFields.j0 k ji8 t218 t219 t220 bt221.1 bt229.1 true t215 t216) else (if bt221.1 ≥ (ji8) then (laws_FnFields.j0 k ji8 t218 t219 t220 bt221.1 bt229.1 true t215 t216) else (if bt229.1 < 0 then (laws_FnFields.j0 k ji8 t218 t219 t220 bt221.1 bt229.1 true t215 t216) else (laws_FnFields.j0 k ji8 t218 t219 t220 bt221.1 bt229.1 (decide (bt229.1 ≥ (ji8))) t215 t216)))) else (laws_FnFields.j0 k ji8 t218 t219 t220 bt221.1 bt229.1 true t215 t216)) else (laws_FnFields.j0 k ji8 t218 t219 t220 bt221.1 bt229.1 true t215 t216)) else (laws_FnFields.j0 k ji8 t218 t219 t220 bt221.1 bt229.1 true t215 t216)) else (laws_FnFields.j0 k ji8 t218 t219 t220 bt221.1 bt229.1 true t215 t216)) else (laws_FnFields.j0 k ji8 t218 t219 t220 bt221.1 bt229.1 true t215 t216)) else (laws_FnFields.j0 k ji8 t218 t219 t220 bt221.1 bt229.1 true t215 t216)) else (laws_FnFields.j0 k ji8 t218 t219 t220 bt221.1 bt229.1 true t215 t216)))))))) = some r := H
      have A10 := Aside0.mk A100
      clear A100
      replace H := Option.bind_eq_some_iff.mp H
      obtain ⟨t220, A110, H⟩ := H
      replace H : ((impl_MulIn.f k t215 t216 t218 t219).bind fun bt221 => ((impl_MulIn.f k t215 t216 t219 t218).bind fun bt223 => ((impl_MulIn.f k t215 t216 t218 t220).bind fun bt225 => ((impl_MulIn.f k t215 t216 t218 (Go.bits .xor .i64 t219 t220)).bind fun bt227 => ((impl_MulIn.f k t215 t216 t219 t220).bind fun bt229 => (if bt221.2 = 0 then (if bt223.2 = 0 then (if bt225.2 = 0 then (if bt227.2 = 0 then (if bt229.2 = 0 then (if bt221.1 = bt223.1 then (if bt227.1 = (Go.bits .xor .i64 bt221.1 bt225.1) then (if bt221.1 < 0 then (laws_FnFields.j0 k ji8 t218 t219 t220 bt221.1 bt229.1 true t215 t216) else (if bt221.1 ≥ (ji8) then (laws_FnFields.j0 k ji8 t218 t219 t220 bt221.1 bt229.1 true t215 t216) else (if bt229.1 < 0 then (laws_FnFields.j0 k ji8 t218 t219 t220 bt221.1 bt229.1 true t215 t216) else (laws_FnFields.j0 k ji8 t218 t219 t220 bt221.1 bt229.1 (decide (bt229.1 ≥ (ji8))) t215 t216)))) else (laws_FnFields.j0 k ji8 t218 t219 t220 bt221.1 bt229.1 true t215 t216)) else (laws_FnFields.j0 k ji8 t218 t219 t220 bt221.1 bt229.1 true t215 t216)) else (laws_FnFields.j0 k ji8 t218 t219 t220 bt221.1 bt229.1 true t215 t216)) else (laws_FnFields.j0 k ji8 t218 t219 t220 bt221.1 bt229.1 true t215 t216)) else (laws_FnFields.j0 k ji8 t218 t219 t220 bt221.1 bt229.1 true t215 t216)) else (laws_FnFields.j0 k ji8 t218 t219 t220 bt221.1 bt229.1 true t215 t216)) else (laws_FnFields.j0 k ji8 t218 t219 t220 bt221.1 bt229.1 true t215 t216))))))) = some r := H
      have A11 := Aside0.mk A110
      clear A110
      replace H := Option.bind_eq_some_iff.mp H
      obtain ⟨⟨t221, t222⟩, A120, H⟩ := H
      replace H : ((impl_MulIn.f k t215 t216 t219 t218).bind fun bt223 => ((impl_MulIn.f k t215 t216 t218 t220).bind fun bt225 => ((impl_MulIn.f k t215 t216 t218 (Go.bits .xor .i64 t219 t220)).bind fun bt227 => ((impl_MulIn.f k t215 t216 t219 t220).bind fun bt229 => (if t222 = 0 then (if bt223.2 = 0 then (if bt225.2 = 0 then (if bt227.2 = 0 then (if bt229.2 = 0 then (if t221 = bt223.1 then (if bt227.1 = (Go.bits .xor .i64 t221 bt225.1) then (if t221 < 0 then (laws_FnFields.j0 k ji8 t218 t219 t220 t221 bt229.1 true t215 t216) else (if t221 ≥ (ji8) then (laws_FnFields.j0 k ji8 t218 t219 t220 t221 bt229.1 true t215 t216) else (if bt229.1 < 0 then (laws_FnFields.j0 k ji8 t218 t219 t220 t221 bt229.1 true t215 t216) else (laws_FnFields.j0 k ji8 t218 t219 t220 t221 bt229.1 (decide (bt229.1 ≥ (ji8))) t215 t216)))) else (laws_FnFields.j0 k ji8 t218 t219 t220 t221 bt229.1 true t215 t216)) else (laws_FnFields.j0 k ji8 t218 t219 t220 t221 bt229.1 true t215 t216)) else (laws_FnFields.j0 k ji8 t218 t219 t220 t221 bt229.1 true t215 t216)) else (laws_FnFields.j0 k ji8 t218 t219 t220 t221 bt229.1 true t215 t216)) else (laws_FnFields.j0 k ji8 t218 t219 t220 t221 bt229.1 true t215 t216)) else (laws_FnFields.j0 k ji8 t218 t219 t220 t221 bt229.1 true t215 t216)) else (laws_FnFields.j0 k ji8 t218 t219 t220 t221 bt229.1 true t215 t216)))))) = some r := H
      have A12 := Aside0.mk A120
      clear A120
      replace H := Option.bind_eq_some_iff.mp H
      obtain ⟨⟨t223, t224⟩, A130, H⟩ := H
      replace H : ((impl_MulIn.f k t215 t216 t218 t220).bind fun bt225 => ((impl_MulIn.f k t215 t216 t218 (Go.bits .xor .i64 t219 t220)).bind fun bt227 => ((impl_MulIn.f k t215 t216 t219 t220).bind fun bt229 => (if t222 = 0 then (if t224 = 0 then (if bt225.2 = 0 then (if bt227.2 = 0 then (if bt229.2 = 0 then (if t221 = t223 then (if bt227.1 = (Go.bits .xor .i64 t221 bt225.1) then (if t221 < 0 then (laws_FnFields.j0 k ji8 t218 t219 t220 t221 bt229.1 true t215 t216) else (if t221 ≥ (ji8) then (laws_FnFields.j0 k ji8 t218 t219 t220 t221 bt229.1 true t215 t216) else (if bt229.1 < 0 then (laws_FnFields.j0 k ji8 t218 t219 t220 t221 bt229.1 true t215 t216) else (laws_FnFields.j0 k ji8 t218 t219 t220 t221 bt229.1 (decide (bt229.1 ≥ (ji8))) t215 t216)))) else (laws_FnFields.j0 k ji8 t218 t219 t220 t221 bt229.1 true t215 t216)) else (laws_FnFields.j0 k ji8 t218 t219 t220 t221 bt229.1 true t215 t216)) else (laws_FnFields.j0 k ji8 t218 t219 t220 t221 bt229.1 true t215 t216)) else (laws_FnFields.j0 k ji8 t218 t219 t220 t221 bt229.1 true t215 t216)) else (laws_FnFields.j0 k ji8 t218 t219 t220 t221 bt229.1 true t215 t216)) else (laws_FnFields.j0 k ji8 t218 t219 t220 t221 bt229.1 true t215 t216)) else (laws_FnFields.j0 k ji8 t218 t219 t220 t221 bt229.1 true t215 t216))))) = some r := H
      have A13 := Aside0.mk A130
      clear A130
      replace H := Option.bind_eq_some_iff.mp H
      obtain ⟨⟨t225, t226⟩, A140, H⟩ := H
      replace H : ((impl_MulIn.f k t215 t216 t218 (Go.bits .xor .i64 t219 t220)).bind fun bt227 => ((impl_MulIn.f k t215 t216 t219 t220).bind fun bt229 => (if t222 = 0 then (if t224 = 0 then (if t226 = 0 then (if bt227.2 = 0 then (if bt229.2 = 0 then (if t221 = t223 then (if bt227.1 = (Go.bits .xor .i64 t221 t225) then (if t221 < 0 then (laws_FnFields.j0 k ji8 t218 t219 t220 t221 bt229.1 true t215 t216) else (if t221 ≥ (ji8) then (laws_FnFields.j0 k ji8 t218 t219 t220 t221 bt229.1 true t215 t216) else (if bt229.1 < 0 then (laws_FnFields.j0 k ji8 t218 t219 t220 t221 bt229.1 true t215 t216) else (laws_FnFields.j0 k ji8 t218 t219 t220 t221 bt229.1 (decide (bt229.1 ≥ (ji8))) t215 t216)))) else (laws_FnFields.j0 k ji8 t218 t219 t220 t221 bt229.1 true t215 t216)) else (laws_FnFields.j0 k ji8 t218 t219 t220 t221 bt229.1 true t215 t216)) else (laws_FnFields.j0 k ji8 t218 t219 t220 t221 bt229.1 true t215 t216)) else (laws_FnFields.j0 k ji8 t218 t219 t220 t221 bt229.1 true t215 t216)) else (laws_FnFields.j0 k ji8 t218 t219 t220 t221 bt229.1 true t215 t216)) else (laws_FnFields.j0 k ji8 t218 t219 t220 t221 bt229.1 true t215 t216)) else (laws_FnFields.j0 k ji8 t218 t219 t220 t221 bt229.1 true t215 t216)))) = some r := H
      have A14 := Aside0.mk A140
      clear A140
      replace H := Option.bind_eq_some_iff.mp H
      obtain ⟨⟨t227, t228⟩, A150, H⟩ := H
      replace H : ((impl_MulIn.f k t215 t216 t219 t220).bind fun bt229 => (if t222 = 0 then (if t224 = 0 then (if t226 = 0 then (if t228 = 0 then (if bt229.2 = 0 then (if t221 = t223 then (if t227 = (Go.bits .xor .i64 t221 t225) then (if t221 < 0 then (laws_FnFields.j0 k ji8 t218 t219 t220 t221 bt229.1 true t215 t216) else (if t221 ≥ (ji8) then (laws_FnFields.j0 k ji8 t218 t219 t220 t221 bt229.1 true t215 t216) else (if bt229.1 < 0 then (laws_FnFields.j0 k ji8 t218 t219 t220 t221 bt229.1 true t215 t216) else (laws_FnFields.j0 k ji8 t218 t219 t220 t221 bt229.1 (decide (bt229.1 ≥ (ji8))) t215 t216)))) else (laws_FnFields.j0 k ji8 t218 t219 t220 t221 bt229.1 true t215 t216)) else (laws_FnFields.j0 k ji8 t218 t219 t220 t221 bt229.1 true t215 t216)) else (laws_FnFields.j0 k ji8 t218 t219 t220 t221 bt229.1 true t215 t216)) else (laws_FnFields.j0 k ji8 t218 t219 t220 t221 bt229.1 true t215 t216)) else (laws_FnFields.j0 k ji8 t218 t219 t220 t221 bt229.1 true t215 t216)) else (laws_FnFields.j0 k ji8 t218 t219 t220 t221 bt229.1 true t215 t216)) else (laws_FnFields.j0 k ji8 t218 t219 t220 t221 bt229.1 true t215 t216))) = some r := H
      have A15 := Aside0.mk A150
      clear A150
      replace H := Option.bind_eq_some_iff.mp H
      obtain ⟨⟨t229, t230⟩, A160, H⟩ := H
      replace H : (if t222 = 0 then (if t224 = 0 then (if t226 = 0 then (if t228 = 0 then (if t230 = 0 then (if t221 = t223 then (if t227 = (Go.bits .xor .i64 t221 t225) then (if t221 < 0 then (laws_FnFields.j0 k ji8 t218 t219 t220 t221 t229 true t215 t216) else (if t221 ≥ (ji8) then (laws_FnFields.j0 k ji8 t218 t219 t220 t221 t229 true t215 t216) else (if t229 < 0 then (laws_FnFields.j0 k ji8 t218 t219 t220 t221 t229 true t215 t216) else (laws_FnFields.j0 k ji8 t218 t219 t220 t221 t229 (decide (t229 ≥ (ji8))) t215 t216)))) else (laws_FnFields.j0 k ji8 t218 t219 t220 t221 t229 true t215 t216)) else (laws_FnFields.j0 k ji8 t218 t219 t220 t221 t229 true t215 t216)) else (laws_FnFields.j0 k ji8 t218 t219 t220 t221 t229 true t215 t216)) else (laws_FnFields.j0 k ji8 t218 t219 t220 t221 t229 true t215 t216)) else (laws_FnFields.j0 k ji8 t218 t219 t220 t221 t229 true t215 t216)) else (laws_FnFields.j0 k ji8 t218 t219 t220 t221 t229 true t215 t216)) else (laws_FnFields.j0 k ji8 t218 t219 t220 t221 t229 true t215 t216)) = some r := H
      have A16 := Aside0.mk A160
      clear A160
      have HC17 := Aside0.mk H
      clear H
      go_enter Try.func8, Try.ntmps8
      go_upto_region 13 with (first | ((with_reducible refine gate_callee (f := 23) rfl ?_); refine goesL_ (some 38) rfl rfl Try.func23 (by kernel_rfl) rfl #[.slice A0 l0.length c0, .slice A1 l1.length c1] rfl (by (try simp only [List.map_toArray, List.map_cons, List.map_nil]); first | done | rfl | (simp only [List.length_drop, List.length_take]; rfl)) ?_; (with_reducible refine (laws_a2Long.calls _ _ l0 _ _ l1 false _ ?side1 ?side2 ?side3 ?side4 A3.out).mono ?_); (case side1 => repeat (first | exact HR0.out | (with_reducible refine Kd.C_alloc ?_ _) | (with_reducible refine Kd.C_drewN ?_ _) | (with_reducible refine Kd.C_drew ?_))); (case side2 => exact HC0.out); (case side3 => repeat (first | exact HR1.out | (with_reducible refine Kd.C_alloc ?_ _) | (with_reducible refine Kd.C_drewN ?_ _) | (with_reducible refine Kd.C_drew ?_))); (case side4 => exact HC1.out); rintro e w' ⟨rfl, ⟨nd, rfl⟩⟩; refine ⟨_, rfl, ?_⟩) | ((with_reducible refine gate_callee (f := 24) rfl ?_); refine goesL_ (some 40) rfl rfl Try.func24 (by kernel_rfl) rfl #[.slice A0 l0.length c0] rfl (by (try simp only [List.map_toArray, List.map_cons, List.map_nil]); first | done | rfl | (simp only [List.length_drop, List.length_take]; rfl)) ?_; (with_reducible refine (spec_A2Field.calls k _ _ l0 t215 t216 _ ?side1 ?side2 A5.out).mono ?_); (case side1 => repeat (first | exact HR0.out | (with_reducible refine Kd.C_alloc ?_ _) | (with_reducible refine Kd.C_drewN ?_ _) | (with_reducible refine Kd.C_drew ?_))); (case side2 => exact HC0.out); rintro e w18 ⟨rfl, hb⟩; refine ⟨_, rfl, ?_⟩; have n0_ := Aside0.mk (below_step (by repeat (first | (with_reducible first | exact HB.out | apply below_alloc | apply pw_below_drewN | apply below_drew1) | exact HB.out)) hb); clear HB; have HB := n0_; clear n0_; (try clear hb); (try clear hb2); (try clear hk); (try clear hi)) | ((with_reducible refine gate_dst (N := 5) rfl ?_); (try (refine gate_guard (by rfl) ?_; dsimp only)); refine box_event ?hg (N := 5) ?hd (cs := #[.int .i64 0, .int .i64 0]) (t := 33) ?hr ?_; (case hd => rfl); (case hg => rfl); (case hr => first | (go_simp; done) | (go_simp; rfl)); intro gb217 hg w19 hbox hb; have n0_ := Aside0.mk (below_step (by repeat (first | (with_reducible first | exact HB.out | apply below_alloc | apply pw_below_drewN | apply below_drew1) | exact HB.out)) hb); have n1_ := Aside0.mk (hbox); have n2_ := Aside0.mk ((by rw [hg]; exact (below_size (by repeat (first | (with_reducible first | exact HB.out | apply below_alloc | apply pw_below_drewN | apply below_drew1) | exact HB.out))) : w.heap.size ≤ gb217)); have n3_ := Aside0.mk ((by rw [hg]; exact (below_size (by repeat (first | (with_reducible first | exact HB.out | apply below_alloc | apply pw_below_drewN | apply below_drew1) | exact HB.out))) : w.heap.size ≤ gb217)); clear HB; have HB := n0_; have BK217 := n1_; have GW217 := n2_; have GE217 := n3_; clear n0_ n1_ n2_ n3_; clear hb hbox hg; have hcz20_0 : w19.cell? ⟨gb217, 0, none⟩ = some (.int .i64 0) := (blk_cell BK217.out 0).trans rfl; have hcz20_1 : w19.cell? ⟨gb217, 1, none⟩ = some (.int .i64 0) := (blk_cell BK217.out 1).trans rfl; have hfz20_0 := blk_frozen BK217.out 0; have hfz20_1 := blk_frozen BK217.out 1) | ((with_reducible refine gate_callee (f := 25) rfl ?_); refine goesL_ (some 47) rfl rfl Try.func25 (by kernel_rfl) rfl #[.slice A1 l1.length c1, .agg #[.int .i64 t215, .int .i64 t216], .int .i64 0] rfl (by (try simp only [List.map_toArray, List.map_cons, List.map_nil]); first | done | rfl | (simp only [List.length_drop, List.length_take]; rfl)) ?_; (with_reducible refine (spec_A2Element.calls k _ _ l1 t215 t216 0 t218 _ ?side1 ?side2 A9.out).mono ?_); (case side1 => exact Kd.C_below HR1.out (by repeat (first | (with_reducible first | exact HB.out | apply below_alloc | apply pw_below_drewN | apply below_drew1 | refine below_set ?_ GE217.out) | exact HB.out))); (case side2 => exact HC1.out); rintro e w21 ⟨rfl, hb⟩; refine ⟨_, rfl, ?_⟩; have n0_ := Aside0.mk (blk_below (g := gb217) (o := .cells #[.int .i64 t215, .int .i64 t216] 33 (0, 0)) (by (with_reducible repeat (first | refine blk_drewN ?_ _ | refine blk_drew ?_ | refine blk_alloc ?_ _)); refine blk_put (cs := #[.int .i64 t215, .int .i64 0]) ?_ 1 _ rfl; (with_reducible repeat (first | refine blk_drewN ?_ _ | refine blk_drew ?_ | refine blk_alloc ?_ _)); refine blk_put (cs := #[.int .i64 0, .int .i64 0]) ?_ 0 _ rfl; (with_reducible repeat (first | refine blk_drewN ?_ _ | refine blk_drew ?_ | refine blk_alloc ?_ _)); exact BK217.out) hb); have n1_ := Aside0.mk (below_step (by repeat (first | (with_reducible first | exact HB.out | apply below_alloc | apply pw_below_drewN | apply below_drew1 | refine below_set ?_ GE217.out) | exact HB.out)) hb); clear BK217; clear HB; have BK217 := n0_; have HB := n1_; clear n0_ n1_; (try clear hb); (try clear hb2); (try clear hk); (try clear hi); have hcz22_0 : w21.cell? ⟨gb217, 0, none⟩ = some (.int .i64 t215) := (blk_cell BK217.out 0).trans rfl; have hcz22_1 : w21.cell? ⟨gb217, 1, none⟩ = some (.int .i64 t216) := (blk_cell BK217.out 1).trans rfl; have hfz22_0 := blk_frozen BK217.out 0; have hfz22_1 := blk_frozen BK217.out 1) | ((with_reducible refine gate_callee (f := 25) rfl ?_); refine goesL_ (some 50) rfl rfl Try.func25 (by kernel_rfl) rfl #[.slice A1 l1.length c1, .agg #[.int .i64 t215, .int .i64 t216], .int .i64 1] rfl (by (try simp only [List.map_toArray, List.map_cons, List.map_nil]); first | done | rfl | (simp only [List.length_drop, List.length_take]; rfl)) ?_; (with_reducible refine (spec_A2Element.calls k _ _ l1 t215 t216 1 t219 _ ?side1 ?side2 A10.out).mono ?_); (case side1 => repeat (first | exact (Kd.C_below HR1.out HB.out) | (with_reducible refine Kd.C_alloc ?_ _) | (with_reducible refine Kd.C_drewN ?_ _) | (with_reducible refine Kd.C_drew ?_))); (case side2 => exact HC1.out); rintro e w23 ⟨rfl, hb⟩; refine ⟨_, rfl, ?_⟩; have n0_ := Aside0.mk (blk_below (g := gb217) (o := .cells #[.int .i64 t215, .int .i64 t216] 33 (0, 0)) (by (with_reducible repeat (first | refine blk_drewN ?_ _ | refine blk_drew ?_ | refine blk_alloc ?_ _)); exact BK217.out) hb); have n1_ := Aside0.mk (below_step (by repeat (first | (with_reducible first | exact HB.out | apply below_alloc | apply pw_below_drewN | apply below_drew1 | refine below_set ?_ GE217.out) | exact HB.out)) hb); clear BK217; clear HB; have BK217 := n0_; have HB := n1_; clear n0_ n1_; (try clear hb); (try clear hb2); (try clear hk); (try clear hi); have hcz24_0 : w23.cell? ⟨gb217, 0, none⟩ = some (.int .i64 t215) := (blk_cell BK217.out 0).trans rfl; have hcz24_1 : w23.cell? ⟨gb217, 1, none⟩ = some (.int .i64 t216) := (blk_cell BK217.out 1).trans rfl; have hfz24_0 := blk_frozen BK217.out 0; have hfz24_1 := blk_frozen BK217.out 1) | ((with_reducible refine gate_callee (f := 25) rfl ?_); refine goesL_ (some 53) rfl rfl Try.func25 (by kernel_rfl) rfl #[.slice A1 l1.length c1, .agg #[.int .i64 t215, .int .i64 t216], .int .i64 2] rfl (by (try simp only [List.map_toArray, List.map_cons, List.map_nil]); first | done | rfl | (simp only [List.length_drop, List.length_take]; rfl)) ?_; (with_reducible refine (spec_A2Element.calls k _ _ l1 t215 t216 2 t220 _ ?side1 ?side2 A11.out).mono ?_); (case side1 => repeat (first | exact (Kd.C_below HR1.out HB.out) | (with_reducible refine Kd.C_alloc ?_ _) | (with_reducible refine Kd.C_drewN ?_ _) | (with_reducible refine Kd.C_drew ?_))); (case side2 => exact HC1.out); rintro e w25 ⟨rfl, hb⟩; refine ⟨_, rfl, ?_⟩; have n0_ := Aside0.mk (blk_below (g := gb217) (o := .cells #[.int .i64 t215, .int .i64 t216] 33 (0, 0)) (by (with_reducible repeat (first | refine blk_drewN ?_ _ | refine blk_drew ?_ | refine blk_alloc ?_ _)); exact BK217.out) hb); have n1_ := Aside0.mk (below_step (by repeat (first | (with_reducible first | exact HB.out | apply below_alloc | apply pw_below_drewN | apply below_drew1 | refine below_set ?_ GE217.out) | exact HB.out)) hb); clear BK217; clear HB; have BK217 := n0_; have HB := n1_; clear n0_ n1_; (try clear hb); (try clear hb2); (try clear hk); (try clear hi); have hcz26_0 : w25.cell? ⟨gb217, 0, none⟩ = some (.int .i64 t215) := (blk_cell BK217.out 0).trans rfl; have hcz26_1 : w25.cell? ⟨gb217, 1, none⟩ = some (.int .i64 t216) := (blk_cell BK217.out 1).trans rfl; have hfz26_0 := blk_frozen BK217.out 0; have hfz26_1 := blk_frozen BK217.out 1) | ((with_reducible refine gate_callee (f := 26) rfl ?_); refine goesL_ (some 58) rfl rfl Try.func26 (by kernel_rfl) rfl #[.agg #[.int .i64 t215, .int .i64 t216], .int .i64 t218, .int .i64 t219] rfl (by (try simp only [List.map_toArray, List.map_cons, List.map_nil]); first | done | rfl | (simp only [List.length_drop, List.length_take]; rfl)) ?_; (with_reducible refine (impl_MulIn.calls k t215 t216 t218 t219 t221 t222 _ A12.out).mono ?_); rintro e w27 ⟨rfl, hb⟩; refine ⟨_, rfl, ?_⟩; have n0_ := Aside0.mk (blk_below (g := gb217) (o := .cells #[.int .i64 t215, .int .i64 t216] 33 (0, 0)) (by (with_reducible repeat (first | refine blk_drewN ?_ _ | refine blk_drew ?_ | refine blk_alloc ?_ _)); exact BK217.out) hb); have n1_ := Aside0.mk (below_step (by repeat (first | (with_reducible first | exact HB.out | apply below_alloc | apply pw_below_drewN | apply below_drew1 | refine below_set ?_ GE217.out) | exact HB.out)) hb); clear BK217; clear HB; have BK217 := n0_; have HB := n1_; clear n0_ n1_; (try clear hb); (try clear hb2); (try clear hk); (try clear hi); have hcz28_0 : w27.cell? ⟨gb217, 0, none⟩ = some (.int .i64 t215) := (blk_cell BK217.out 0).trans rfl; have hcz28_1 : w27.cell? ⟨gb217, 1, none⟩ = some (.int .i64 t216) := (blk_cell BK217.out 1).trans rfl; have hfz28_0 := blk_frozen BK217.out 0; have hfz28_1 := blk_frozen BK217.out 1) | ((with_reducible refine gate_callee (f := 26) rfl ?_); refine goesL_ (some 65) rfl rfl Try.func26 (by kernel_rfl) rfl #[.agg #[.int .i64 t215, .int .i64 t216], .int .i64 t219, .int .i64 t218] rfl (by (try simp only [List.map_toArray, List.map_cons, List.map_nil]); first | done | rfl | (simp only [List.length_drop, List.length_take]; rfl)) ?_; (with_reducible refine (impl_MulIn.calls k t215 t216 t219 t218 t223 t224 _ A13.out).mono ?_); rintro e w29 ⟨rfl, hb⟩; refine ⟨_, rfl, ?_⟩; have n0_ := Aside0.mk (blk_below (g := gb217) (o := .cells #[.int .i64 t215, .int .i64 t216] 33 (0, 0)) (by (with_reducible repeat (first | refine blk_drewN ?_ _ | refine blk_drew ?_ | refine blk_alloc ?_ _)); exact BK217.out) hb); have n1_ := Aside0.mk (below_step (by repeat (first | (with_reducible first | exact HB.out | apply below_alloc | apply pw_below_drewN | apply below_drew1 | refine below_set ?_ GE217.out) | exact HB.out)) hb); clear BK217; clear HB; have BK217 := n0_; have HB := n1_; clear n0_ n1_; (try clear hb); (try clear hb2); (try clear hk); (try clear hi); have hcz30_0 : w29.cell? ⟨gb217, 0, none⟩ = some (.int .i64 t215) := (blk_cell BK217.out 0).trans rfl; have hcz30_1 : w29.cell? ⟨gb217, 1, none⟩ = some (.int .i64 t216) := (blk_cell BK217.out 1).trans rfl; have hfz30_0 := blk_frozen BK217.out 0; have hfz30_1 := blk_frozen BK217.out 1) | ((with_reducible refine gate_callee (f := 26) rfl ?_); refine goesL_ (some 72) rfl rfl Try.func26 (by kernel_rfl) rfl #[.agg #[.int .i64 t215, .int .i64 t216], .int .i64 t218, .int .i64 t220] rfl (by (try simp only [List.map_toArray, List.map_cons, List.map_nil]); first | done | rfl | (simp only [List.length_drop, List.length_take]; rfl)) ?_; (with_reducible refine (impl_MulIn.calls k t215 t216 t218 t220 t225 t226 _ A14.out).mono ?_); rintro e w31 ⟨rfl, hb⟩; refine ⟨_, rfl, ?_⟩; have n0_ := Aside0.mk (blk_below (g := gb217) (o := .cells #[.int .i64 t215, .int .i64 t216] 33 (0, 0)) (by (with_reducible repeat (first | refine blk_drewN ?_ _ | refine blk_drew ?_ | refine blk_alloc ?_ _)); exact BK217.out) hb); have n1_ := Aside0.mk (below_step (by repeat (first | (with_reducible first | exact HB.out | apply below_alloc | apply pw_below_drewN | apply below_drew1 | refine below_set ?_ GE217.out) | exact HB.out)) hb); clear BK217; clear HB; have BK217 := n0_; have HB := n1_; clear n0_ n1_; (try clear hb); (try clear hb2); (try clear hk); (try clear hi); have hcz32_0 : w31.cell? ⟨gb217, 0, none⟩ = some (.int .i64 t215) := (blk_cell BK217.out 0).trans rfl; have hcz32_1 : w31.cell? ⟨gb217, 1, none⟩ = some (.int .i64 t216) := (blk_cell BK217.out 1).trans rfl; have hfz32_0 := blk_frozen BK217.out 0; have hfz32_1 := blk_frozen BK217.out 1) | ((with_reducible refine gate_callee (f := 26) rfl ?_); refine goesL_ (some 81) rfl rfl Try.func26 (by kernel_rfl) rfl #[.agg #[.int .i64 t215, .int .i64 t216], .int .i64 t218, .int .i64 (Go.bits .xor .i64 t219 t220)] rfl (by (try simp only [List.map_toArray, List.map_cons, List.map_nil]); first | done | rfl | (simp only [List.length_drop, List.length_take]; rfl)) ?_; (with_reducible refine (impl_MulIn.calls k t215 t216 t218 (Go.bits .xor .i64 t219 t220) t227 t228 _ A15.out).mono ?_); rintro e w33 ⟨rfl, hb⟩; refine ⟨_, rfl, ?_⟩; have n0_ := Aside0.mk (blk_below (g := gb217) (o := .cells #[.int .i64 t215, .int .i64 t216] 33 (0, 0)) (by (with_reducible repeat (first | refine blk_drewN ?_ _ | refine blk_drew ?_ | refine blk_alloc ?_ _)); exact BK217.out) hb); have n1_ := Aside0.mk (below_step (by repeat (first | (with_reducible first | exact HB.out | apply below_alloc | apply pw_below_drewN | apply below_drew1 | refine below_set ?_ GE217.out) | exact HB.out)) hb); clear BK217; clear HB; have BK217 := n0_; have HB := n1_; clear n0_ n1_; (try clear hb); (try clear hb2); (try clear hk); (try clear hi); have hcz34_0 : w33.cell? ⟨gb217, 0, none⟩ = some (.int .i64 t215) := (blk_cell BK217.out 0).trans rfl; have hcz34_1 : w33.cell? ⟨gb217, 1, none⟩ = some (.int .i64 t216) := (blk_cell BK217.out 1).trans rfl; have hfz34_0 := blk_frozen BK217.out 0; have hfz34_1 := blk_frozen BK217.out 1) | ((with_reducible refine gate_callee (f := 26) rfl ?_); refine goesL_ (some 88) rfl rfl Try.func26 (by kernel_rfl) rfl #[.agg #[.int .i64 t215, .int .i64 t216], .int .i64 t219, .int .i64 t220] rfl (by (try simp only [List.map_toArray, List.map_cons, List.map_nil]); first | done | rfl | (simp only [List.length_drop, List.length_take]; rfl)) ?_; (with_reducible refine (impl_MulIn.calls k t215 t216 t219 t220 t229 t230 _ A16.out).mono ?_); rintro e w35 ⟨rfl, hb⟩; refine ⟨_, rfl, ?_⟩; have n0_ := Aside0.mk (blk_below (g := gb217) (o := .cells #[.int .i64 t215, .int .i64 t216] 33 (0, 0)) (by (with_reducible repeat (first | refine blk_drewN ?_ _ | refine blk_drew ?_ | refine blk_alloc ?_ _)); exact BK217.out) hb); have n1_ := Aside0.mk (below_step (by repeat (first | (with_reducible first | exact HB.out | apply below_alloc | apply pw_below_drewN | apply below_drew1 | refine below_set ?_ GE217.out) | exact HB.out)) hb); clear BK217; clear HB; have BK217 := n0_; have HB := n1_; clear n0_ n1_; (try clear hb); (try clear hb2); (try clear hk); (try clear hi)))
      (try simp only [Act.put, List.setIfInBounds_toArray, List.set_cons_zero, List.set_cons_succ])
      go_cut [138] (fun v138 wc => ∃ (kq : Nat) (x138_16 : Bool), v138 = .bool x138_16 ∧ Aside0 (laws_FnFields.j0 kq ji8 t218 t219 t220 t221 t229 x138_16 t215 t216 = some r) ∧ Aside0 (kq ≤ k) ∧ Aside0 (wc.heap[gb217]? = some (.cells #[.int .i64 t215, .int .i64 t216] 33 (0, 0))) ∧ Aside0 (Below w.heap.size w wc))
      case first =>
        have H := HC17.out
        clear HC17
        by_cases c36 : t222 = 0
        · rw [if_pos c36] at H
          have c36b0 : (t222 == 0) = true := beq_iff_eq.mpr c36
          have c36b1 : (t222 != 0) = false := bne_eq_false_iff_eq.mpr c36
          clear c36
          (first | rw [c36b0] | (simp only [i64_w, i32_w]; rw [c36b0]) | rw [c36b8] | skip)
          by_cases c37 : t224 = 0
          · rw [if_pos c37] at H
            have c37b0 : (t224 == 0) = true := beq_iff_eq.mpr c37
            have c37b1 : (t224 != 0) = false := bne_eq_false_iff_eq.mpr c37
            clear c37
            by_cases c38 : t226 = 0
            · rw [if_pos c38] at H
              have c38b0 : (t226 == 0) = true := beq_iff_eq.mpr c38
              have c38b1 : (t226 != 0) = false := bne_eq_false_iff_eq.mpr c38
              clear c38
              by_cases c39 : t228 = 0
              · rw [if_pos c39] at H
                have c39b0 : (t228 == 0) = true := beq_iff_eq.mpr c39
                have c39b1 : (t228 != 0) = false := bne_eq_false_iff_eq.mpr c39
                clear c39
                by_cases c40 : t230 = 0
                · rw [if_pos c40] at H
                  have c40b0 : (t230 == 0) = true := beq_iff_eq.mpr c40
                  have c40b1 : (t230 != 0) = false := bne_eq_false_iff_eq.mpr c40
                  clear c40
                  by_cases c41 : t221 = t223
                  · rw [if_pos c41] at H
                    have c41b0 : (t221 == t223) = true := beq_iff_eq.mpr c41
                    have c41b1 : (t221 != t223) = false := bne_eq_false_iff_eq.mpr c41
                    clear c41
                    by_cases c42 : t227 = (Go.bits .xor .i64 t221 t225)
                    · rw [if_pos c42] at H
                      have c42b0 : (t227 == (Go.bits .xor .i64 t221 t225)) = true := beq_iff_eq.mpr c42
                      have c42b1 : (t227 != (Go.bits .xor .i64 t221 t225)) = false := bne_eq_false_iff_eq.mpr c42
                      clear c42
                      by_cases c43 : t221 < 0
                      · rw [if_pos c43] at H
                        have c43b0 : decide (t221 < 0) = true := decide_eq_true c43
                        clear c43
                        have H' := Aside0.mk H
                        clear H
                        go_wp2
                        go_meet
                        case rel => exact ⟨_, (true), (by first | rfl | (simp; done) | (simp [*]; done)), H', ⟨by first | omega | exact Nat.le_refl _⟩, ⟨by (with_reducible repeat (first | refine blk_drewN ?_ _ | refine blk_drew ?_ | refine blk_alloc ?_ _)); exact BK217.out⟩, ⟨by repeat (first | (with_reducible first | exact HB.out | apply below_alloc | apply pw_below_drewN | apply below_drew1 | refine below_set ?_ GE217.out) | exact HB.out)⟩⟩
                      · rw [if_neg c43] at H
                        have c43b0 : decide (t221 < 0) = false := decide_eq_false c43
                        clear c43
                        by_cases c44 : t221 ≥ (ji8)
                        · rw [if_pos c44] at H
                          have c44b0 : decide ((ji8) ≤ t221) = true := decide_eq_true c44
                          clear c44
                          have H' := Aside0.mk H
                          clear H
                          go_wp2
                          go_meet
                          case rel => exact ⟨_, (true), (by first | rfl | (simp; done) | (simp [*]; done)), H', ⟨by first | omega | exact Nat.le_refl _⟩, ⟨by (with_reducible repeat (first | refine blk_drewN ?_ _ | refine blk_drew ?_ | refine blk_alloc ?_ _)); exact BK217.out⟩, ⟨by repeat (first | (with_reducible first | exact HB.out | apply below_alloc | apply pw_below_drewN | apply below_drew1 | refine below_set ?_ GE217.out) | exact HB.out)⟩⟩
                        · rw [if_neg c44] at H
                          have c44b0 : decide ((ji8) ≤ t221) = false := decide_eq_false c44
                          clear c44
                          by_cases c45 : t229 < 0
                          · rw [if_pos c45] at H
                            have c45b0 : decide (t229 < 0) = true := decide_eq_true c45
                            clear c45
                            have H' := Aside0.mk H
                            clear H
                            go_wp2
                            go_meet
                            case rel => exact ⟨_, (true), (by first | rfl | (simp; done) | (simp [*]; done)), H', ⟨by first | omega | exact Nat.le_refl _⟩, ⟨by (with_reducible repeat (first | refine blk_drewN ?_ _ | refine blk_drew ?_ | refine blk_alloc ?_ _)); exact BK217.out⟩, ⟨by repeat (first | (with_reducible first | exact HB.out | apply below_alloc | apply pw_below_drewN | apply below_drew1 | refine below_set ?_ GE217.out) | exact HB.out)⟩⟩
                          · rw [if_neg c45] at H
                            have c45b0 : decide (t229 < 0) = false := decide_eq_false c45
                            clear c45
                            have H' := Aside0.mk H
                            clear H
                            go_wp2
                            go_meet
                            case rel => exact ⟨_, (decide (t229 ≥ (ji8))), (by first | rfl | (simp; done) | (simp only [← hji8] <;> (first | rfl | simp)) | (simp [*]; done)), H', ⟨by first | omega | exact Nat.le_refl _⟩, ⟨by (with_reducible repeat (first | refine blk_drewN ?_ _ | refine blk_drew ?_ | refine blk_alloc ?_ _)); exact BK217.out⟩, ⟨by repeat (first | (with_reducible first | exact HB.out | apply below_alloc | apply pw_below_drewN | apply below_drew1 | refine below_set ?_ GE217.out) | exact HB.out)⟩⟩
                    · rw [if_neg c42] at H
                      have c42b0 : (t227 == (Go.bits .xor .i64 t221 t225)) = false := beq_eq_false_iff_ne.mpr c42
                      have c42b1 : (t227 != (Go.bits .xor .i64 t221 t225)) = true := bne_iff_ne.mpr c42
                      have H' := Aside0.mk H
                      clear H
                      go_wp2
                      go_meet
                      case rel => exact ⟨_, (true), (by first | rfl | (simp; done) | (simp [*]; done)), H', ⟨by first | omega | exact Nat.le_refl _⟩, ⟨by (with_reducible repeat (first | refine blk_drewN ?_ _ | refine blk_drew ?_ | refine blk_alloc ?_ _)); exact BK217.out⟩, ⟨by repeat (first | (with_reducible first | exact HB.out | apply below_alloc | apply pw_below_drewN | apply below_drew1 | refine below_set ?_ GE217.out) | exact HB.out)⟩⟩
                  · rw [if_neg c41] at H
                    have c41b0 : (t221 == t223) = false := beq_eq_false_iff_ne.mpr c41
                    have c41b1 : (t221 != t223) = true := bne_iff_ne.mpr c41
                    have H' := Aside0.mk H
                    clear H
                    go_wp2
                    go_meet
                    case rel => exact ⟨_, (true), (by first | rfl | (simp; done) | (simp [*]; done)), H', ⟨by first | omega | exact Nat.le_refl _⟩, ⟨by (with_reducible repeat (first | refine blk_drewN ?_ _ | refine blk_drew ?_ | refine blk_alloc ?_ _)); exact BK217.out⟩, ⟨by repeat (first | (with_reducible first | exact HB.out | apply below_alloc | apply pw_below_drewN | apply below_drew1 | refine below_set ?_ GE217.out) | exact HB.out)⟩⟩
                · rw [if_neg c40] at H
                  have c40b0 : (t230 == 0) = false := beq_eq_false_iff_ne.mpr c40
                  have c40b1 : (t230 != 0) = true := bne_iff_ne.mpr c40
                  have H' := Aside0.mk H
                  clear H
                  go_wp2
                  go_meet
                  case rel => exact ⟨_, (true), (by first | rfl | (simp; done) | (simp [*]; done)), H', ⟨by first | omega | exact Nat.le_refl _⟩, ⟨by (with_reducible repeat (first | refine blk_drewN ?_ _ | refine blk_drew ?_ | refine blk_alloc ?_ _)); exact BK217.out⟩, ⟨by repeat (first | (with_reducible first | exact HB.out | apply below_alloc | apply pw_below_drewN | apply below_drew1 | refine below_set ?_ GE217.out) | exact HB.out)⟩⟩
              · rw [if_neg c39] at H
                have c39b0 : (t228 == 0) = false := beq_eq_false_iff_ne.mpr c39
                have c39b1 : (t228 != 0) = true := bne_iff_ne.mpr c39
                have H' := Aside0.mk H
                clear H
                go_wp2
                go_meet
                case rel => exact ⟨_, (true), (by first | rfl | (simp; done) | (simp [*]; done)), H', ⟨by first | omega | exact Nat.le_refl _⟩, ⟨by (with_reducible repeat (first | refine blk_drewN ?_ _ | refine blk_drew ?_ | refine blk_alloc ?_ _)); exact BK217.out⟩, ⟨by repeat (first | (with_reducible first | exact HB.out | apply below_alloc | apply pw_below_drewN | apply below_drew1 | refine below_set ?_ GE217.out) | exact HB.out)⟩⟩
            · rw [if_neg c38] at H
              have c38b0 : (t226 == 0) = false := beq_eq_false_iff_ne.mpr c38
              have c38b1 : (t226 != 0) = true := bne_iff_ne.mpr c38
              have H' := Aside0.mk H
              clear H
              go_wp2
              go_meet
              case rel => exact ⟨_, (true), (by first | rfl | (simp; done) | (simp [*]; done)), H', ⟨by first | omega | exact Nat.le_refl _⟩, ⟨by (with_reducible repeat (first | refine blk_drewN ?_ _ | refine blk_drew ?_ | refine blk_alloc ?_ _)); exact BK217.out⟩, ⟨by repeat (first | (with_reducible first | exact HB.out | apply below_alloc | apply pw_below_drewN | apply below_drew1 | refine below_set ?_ GE217.out) | exact HB.out)⟩⟩
          · rw [if_neg c37] at H
            have c37b0 : (t224 == 0) = false := beq_eq_false_iff_ne.mpr c37
            have c37b1 : (t224 != 0) = true := bne_iff_ne.mpr c37
            have H' := Aside0.mk H
            clear H
            go_wp2
            go_meet
            case rel => exact ⟨_, (true), (by first | rfl | (simp; done) | (simp [*]; done)), H', ⟨by first | omega | exact Nat.le_refl _⟩, ⟨by (with_reducible repeat (first | refine blk_drewN ?_ _ | refine blk_drew ?_ | refine blk_alloc ?_ _)); exact BK217.out⟩, ⟨by repeat (first | (with_reducible first | exact HB.out | apply below_alloc | apply pw_below_drewN | apply below_drew1 | refine below_set ?_ GE217.out) | exact HB.out)⟩⟩
        · rw [if_neg c36] at H
          have c36b0 : (t222 == 0) = false := beq_eq_false_iff_ne.mpr c36
          have c36b1 : (t222 != 0) = true := bne_iff_ne.mpr c36
          (first | rw [c36b0] | (simp only [i64_w, i32_w]; rw [c36b0]) | rw [c36b8] | skip)
          have H' := Aside0.mk H
          clear H
          go_wp2
          go_meet
          case rel => exact ⟨_, (true), (by first | rfl | (simp; done) | (simp [*]; done)), H', ⟨by first | omega | exact Nat.le_refl _⟩, ⟨by (with_reducible repeat (first | refine blk_drewN ?_ _ | refine blk_drew ?_ | refine blk_alloc ?_ _)); exact BK217.out⟩, ⟨by repeat (first | (with_reducible first | exact HB.out | apply below_alloc | apply pw_below_drewN | apply below_drew1 | refine below_set ?_ GE217.out) | exact HB.out)⟩⟩
      case rest =>
        clear HC17
        try clear c1
        try clear c2
        try clear p2
        try clear c3
        try clear c4
        try clear p6
        try clear c7
        try clear c7b0
        try clear c7b1
        try clear c8
        try clear c23
        try clear c24
        try clear c25
        try clear c26
        try clear c36
        try clear c36b0
        try clear c36b1
        try clear c37
        try clear c37b0
        try clear c37b1
        try clear c38
        try clear c38b0
        try clear c38b1
        try clear c39
        try clear c39b0
        try clear c39b1
        try clear c40
        try clear c40b0
        try clear c40b1
        try clear c41
        try clear c41b0
        try clear c41b1
        try clear c42
        try clear c42b0
        try clear c42b1
        try clear c43
        try clear c43b0
        try clear c44
        try clear c44b0
        try clear c45
        try clear c45b0
        try clear hcz20_0
        try clear hcz20_1
        try clear hcz22_0
        try clear hcz22_1
        try clear hcz24_0
        try clear hcz24_1
        try clear hcz26_0
        try clear hcz26_1
        try clear hcz28_0
        try clear hcz28_1
        try clear hcz30_0
        try clear hcz30_1
        try clear hcz32_0
        try clear hcz32_1
        try clear hcz34_0
        try clear hcz34_1
        try clear hfz20_0
        try clear hfz20_1
        try clear hfz22_0
        try clear hfz22_1
        try clear hfz24_0
        try clear hfz24_1
        try clear hfz26_0
        try clear hfz26_1
        try clear hfz28_0
        try clear hfz28_1
        try clear hfz30_0
        try clear hfz30_1
        try clear hfz32_0
        try clear hfz32_1
        try clear hfz34_0
        try clear hfz34_1
        rename_i zz1_1 zz1_2 zz1_3 zz1_4 zz1_5 zz1_6
        revert k A0 c0 l0 A1 c1 l1 r w hu33 HR0 HC0 HR1 HC1 A3 t215 t216 A5 ji6 hji6 ji8 hji8 hji8_ hji8z hji8u hji8v hji8y hji8x t218 A9 t219 A10 t220 A11 t221 t222 A12 t223 t224 A13 t225 t226 A14 t227 t228 A15 t229 t230 A16 zz1_1 nd zz1_2 w18 gb217 w19 GW217 GE217 w21 w23 w25 w27 w29 w31 w33 w35 BK217 HB zz1_3 zz1_4 zz1_5 zz1_6 wc u36 u37 u38 u39 u40 u41 u42 u43 u44 u45 u46 u47 u48 u49 u50 u51 u52 u53 u54 u55 u56 u57 u58 u59 u60 u61 u62 u63 u64 u65 u66 u67 u68 u69 u70 u71 u72 u73 u74 u75 u76 u77 u78 u79 u80 u81 u82 u83 u84 u85 u86 u87 u88 u89 u90 u91 u92 u93 u94 u95 u96 u97 u98 u99 u100 u101 u102 u103 u104 u105 u106 u107 u108 u109 u110 u111 u112 u113 u114 u115 u116 u117 u118 u119 u120 u121 u122 u123 u124 u125 u126 u127 u128 u129 u130 u131 u132 u133 u134 u135 u136 u137 u138 u139 u140 u141 u142 u143 u144 u145 u146 u147 u148 u149 u150 u151 u152 u153 u154 u155 u156 u157 u158 u159 u160 u161 u162 u163 u164 u165 u166 u167 u168 u169 u170 u171 u172 u173 u174 u175 u176 u177 u178 u179 u180 u181 u182 u183 u184 u185 u186 u187 u188 u189 u190 u191 u192 u193 u194 u195 u196 u197 u198 u199 u200 u201 u202 u203 u204 u205 u206 u207 u208 u209 u210 u211 u212 u213 u214 u215 u216 u217 u218 u219 u220 u221 u222 u223 u224 u225 u226 u227 u228 u229 u230 u231 u232 u233 u234 u235 u236 u237 u238 u239 u240 u241 u242 u243 u244 u245 u246 u247 u248 u249 u250 u251 u252 u253 u254 u255 u256 u257 u258 u259 u260 u261 u262 u263 u264 u265 u266 u267 u268 u269 u270 u271 u272 u273 u274 u275 u276 u277 u278 u279 u280 u281 u282 u283 u284 u285 u286 u287 u288 u289 u290 u291 u292 u293 u294 u295 u296 hcut
        exact HLATER1.out
    · rw [if_neg c7] at H
      exact absurd H (by simp)


end Go.Proofs.Ytkebapmicgkcdaa.PFnFields
