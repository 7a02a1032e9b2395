-- Written by this session's driver wip/tools/myprint.py over the kit's print, out of Lean's print of the translation, with own texts for what the print does not take. Lean checks it.
import Derived.Test.YtddaiejpdiibkaaPFnExactMulMatricesx5
namespace Go.Proofs.Ytddaiejpdiibkaa.PFnExactMulMatrices
open Go.RowKit Go.Proofs.YtddaiejpdiibkaaW.PrintWords Go.Proofs.YtddaiejpdiibkaaW.PrintLast Go.Proofs.YtddaiejpdiibkaaW.PrintMore
attribute [local go_sem] max2_int min2_int max_two min_two max_three min_three max_four min_four   -- for this text's walks alone
set_option linter.unusedVariables false
set_option linter.unusedSimpArgs false

set_option maxHeartbeats 8000000 in
set_option maxRecDepth 100000 in
def laws_FnExactMulMatrices.part2 : Σ' X : Prop, (Later X → laws_FnExactMulMatrices.part1.1) := by
  apply PSigma.mk
  case snd =>
  intro HLATER2 
  intro k a0_0 A0_1 c0_1 l0_1 a1_0 A1_1 c1_1 l1_1 r w hu41 hu33 HR0_1 HC0_1 HR1_1 HC1_1 t179 A3 c4b0 t180 A10 c11b0 t181 t182 A19 t185 t186 A20 t189 t190 t193 A21 t195 t196 A22 t200 t201 A23 t205 t206 t209 A24 zz1_1 gb177 w26 GW177 GE177 gb178 w27 GW178 GE178 NB177_178 NB178_177 hnb28 hnc28 hcz29_0 hcz29_1 hfz29_0 hfz29_1 w30 hcz31_0 hcz31_1 hfz31_0 hfz31_1 w32 HT_ HW_ w33 zz1_2 v183 v187 gb194 w40 hS_ GW194 GE194 NB177_194 NB194_177 NB178_194 NB194_178 zz1_3 Ao42 co42 hs41 hfs41 hns41_0 hns41_1 hms41_0 hms41_1 hs43 hfs43 hns43_0 hns43_1 hms43_0 hms43_1 hHeld hnb44 hnc44 w46 gb199 w47 GW199 GE199 NB177_199 NB199_177 NB178_199 NB199_178 NB194_199 NB199_194 hnb48 hnc48 hnb49 hnc49 hnb50 hnc50 Ao52 co52 hnb53 hnc53 w55 gb204 w56 GW204 GE204 NB177_204 NB204_177 NB178_204 NB204_178 NB194_204 NB204_194 NB199_204 NB204_199 hnb57 hnc57 hnb58 hnc58 hnb59 hnc59 hnb60 hnc60 Ao62 co62 w63 w66 gb210 w67 BK177 BK178 BK194 BK199 BK204 HB BK210 GW210 GE210 NB177_210 NB210_177 NB178_210 NB210_178 NB194_210 NB210_194 NB199_210 NB210_199 NB204_210 NB210_204 hnb68 hnc68 hnb69 hnc69 hnb70 hnc70 hnb71 hnc71 hnb72 hnc72 Ao74 co74 HO184 HO188 HO192 HO198 HO203 HO208 zz1_4 zz1_5 zz1_6 zz1_7 wc u17 u18 u19 u20 u21 u22 u23 u24 u25 u26 u27 u28 u29 u30 u31 u32 u33 u34 u35 u36 u37 u38 u39 u40 u41 u42 u43 u44 u45 u46 u47 u48 u49 u50 u51 u52 u53 u54 u55 u56 u57 u58 u59 u60 u61 u62 u63 u64 u65 u66 u67 u68 u69 u70 u71 u72 u73 u74 u75 u76 u77 u78 u79 u80 u81 u82 u83 u84 u85 u86 u87 u88 u89 u90 u91 u92 u93 u94 u95 u96 u97 u98 u99 u100 u101 u102 u103 u104 u105 u106 u107 u108 u109 u110 u111 u112 u113 u114 u115 u116 u117 u118 hcut
  obtain ⟨kq, x53_24, rfl, HA, HJ24, HO_195001, HO_200001, HO_205001, HO_211001, BK177, BK178, BK194, BK199, BK204, BK210, HB⟩ := hcut
  cases kq with
  | zero => exact absurd HA.out (by simp [laws_FnExactMulMatrices.j0])
  | succ kj24 =>
    have H := HA.out
    clear HA
    simp only [laws_FnExactMulMatrices.j0] at H
    by_cases c101 : x53_24 = true
    · subst c101
      have H1 : (some false) = some r := by rw [if_pos rfl] at H; exact H
      clear H
      have H := H1
      clear H1
      obtain rfl := Option.some.inj H
      go_wp2
      go_ret
      exact ⟨by first | rfl | (simp [errW_none, errW_some] <;> rfl) | (simp [*, errW_none, errW_some] <;> rfl), by repeat (first | (with_reducible first | exact HB.out | apply below_alloc | apply pw_below_drewN | apply below_drew1 | refine below_set ?_ GE177.out | refine below_set ?_ GE178.out | refine below_set ?_ GE194.out | refine below_set ?_ GE199.out | refine below_set ?_ GE204.out | refine below_set ?_ GE210.out) | exact HB.out)⟩
    · replace c101 := Bool.eq_false_iff.mpr c101
      subst c101
      have H1 : ((laws_toMatrix.f kj24 a0_0 l0_1).bind fun bt212 => ((laws_eqMatrix.f kj24 t195 t196 bt212.1 bt212.2).bind fun t216 => (if t216 = true then ((laws_toMatrix.f kj24 a1_0 l1_1).bind fun bt217 => ((laws_eqMatrix.f kj24 t200 t201 bt217.1 bt217.2).bind fun t221 => (if t221 = true then ((laws_markMatrix.f kj24 t195 t196 1).bind fun bt222 => ((laws_markMatrix.f kj24 t200 t201 bt222.1).bind fun bt224 => (if bt224.1 < 0 then (laws_FnExactMulMatrices.j1 kj24 t193 true a0_0 l0_1 a1_0 l1_1 t189 t190 t205 t206) else ((laws_eqMatrix.f kj24 t205 t206 t189 t190).bind fun t226 => (if t226 = true then (laws_FnExactMulMatrices.j1 kj24 t193 (t209 != t193) a0_0 l0_1 a1_0 l1_1 t189 t190 t205 t206) else (laws_FnExactMulMatrices.j1 kj24 t193 true a0_0 l0_1 a1_0 l1_1 t189 t190 t205 t206)))))) else (some false)))) else (some false)))) = some r := by rw [if_neg (show ¬ (false = true) by decide)] at H; exact H
      clear H
      have H := H1
      clear H1
      replace H := Option.bind_eq_some_iff.mp H
      obtain ⟨⟨t212, t213⟩, A1020, H⟩ := H
      replace H : ((laws_eqMatrix.f kj24 t195 t196 t212 t213).bind fun t216 => (if t216 = true then ((laws_toMatrix.f kj24 a1_0 l1_1).bind fun bt217 => ((laws_eqMatrix.f kj24 t200 t201 bt217.1 bt217.2).bind fun t221 => (if t221 = true then ((laws_markMatrix.f kj24 t195 t196 1).bind fun bt222 => ((laws_markMatrix.f kj24 t200 t201 bt222.1).bind fun bt224 => (if bt224.1 < 0 then (laws_FnExactMulMatrices.j1 kj24 t193 true a0_0 l0_1 a1_0 l1_1 t189 t190 t205 t206) else ((laws_eqMatrix.f kj24 t205 t206 t189 t190).bind fun t226 => (if t226 = true then (laws_FnExactMulMatrices.j1 kj24 t193 (t209 != t193) a0_0 l0_1 a1_0 l1_1 t189 t190 t205 t206) else (laws_FnExactMulMatrices.j1 kj24 t193 true a0_0 l0_1 a1_0 l1_1 t189 t190 t205 t206)))))) else (some false)))) else (some false))) = some r := H
      have A102 := Aside0.mk A1020
      clear A1020
      replace H := Option.bind_eq_some_iff.mp H
      obtain ⟨t216, A1030, H⟩ := H
      replace H : (if t216 = true then ((laws_toMatrix.f kj24 a1_0 l1_1).bind fun bt217 => ((laws_eqMatrix.f kj24 t200 t201 bt217.1 bt217.2).bind fun t221 => (if t221 = true then ((laws_markMatrix.f kj24 t195 t196 1).bind fun bt222 => ((laws_markMatrix.f kj24 t200 t201 bt222.1).bind fun bt224 => (if bt224.1 < 0 then (laws_FnExactMulMatrices.j1 kj24 t193 true a0_0 l0_1 a1_0 l1_1 t189 t190 t205 t206) else ((laws_eqMatrix.f kj24 t205 t206 t189 t190).bind fun t226 => (if t226 = true then (laws_FnExactMulMatrices.j1 kj24 t193 (t209 != t193) a0_0 l0_1 a1_0 l1_1 t189 t190 t205 t206) else (laws_FnExactMulMatrices.j1 kj24 t193 true a0_0 l0_1 a1_0 l1_1 t189 t190 t205 t206)))))) else (some false)))) else (some false)) = some r := H
      have A103 := Aside0.mk A1030
      clear A1030
      by_cases c104 : t216 = true
      · subst c104
        have H1 : ((laws_toMatrix.f kj24 a1_0 l1_1).bind fun bt217 => ((laws_eqMatrix.f kj24 t200 t201 bt217.1 bt217.2).bind fun t221 => (if t221 = true then ((laws_markMatrix.f kj24 t195 t196 1).bind fun bt222 => ((laws_markMatrix.f kj24 t200 t201 bt222.1).bind fun bt224 => (if bt224.1 < 0 then (laws_FnExactMulMatrices.j1 kj24 t193 true a0_0 l0_1 a1_0 l1_1 t189 t190 t205 t206) else ((laws_eqMatrix.f kj24 t205 t206 t189 t190).bind fun t226 => (if t226 = true then (laws_FnExactMulMatrices.j1 kj24 t193 (t209 != t193) a0_0 l0_1 a1_0 l1_1 t189 t190 t205 t206) else (laws_FnExactMulMatrices.j1 kj24 t193 true a0_0 l0_1 a1_0 l1_1 t189 t190 t205 t206)))))) else (some false)))) = some r := by rw [if_pos rfl] at H; exact H
        clear H
        have H := H1
        clear H1
        replace H := Option.bind_eq_some_iff.mp H
        obtain ⟨⟨t217, t218⟩, A1050, H⟩ := H
        replace H : ((laws_eqMatrix.f kj24 t200 t201 t217 t218).bind fun t221 => (if t221 = true then ((laws_markMatrix.f kj24 t195 t196 1).bind fun bt222 => ((laws_markMatrix.f kj24 t200 t201 bt222.1).bind fun bt224 => (if bt224.1 < 0 then (laws_FnExactMulMatrices.j1 kj24 t193 true a0_0 l0_1 a1_0 l1_1 t189 t190 t205 t206) else ((laws_eqMatrix.f kj24 t205 t206 t189 t190).bind fun t226 => (if t226 = true then (laws_FnExactMulMatrices.j1 kj24 t193 (t209 != t193) a0_0 l0_1 a1_0 l1_1 t189 t190 t205 t206) else (laws_FnExactMulMatrices.j1 kj24 t193 true a0_0 l0_1 a1_0 l1_1 t189 t190 t205 t206)))))) else (some false))) = some r := H
        have A105 := Aside0.mk A1050
        clear A1050
        replace H := Option.bind_eq_some_iff.mp H
        obtain ⟨t221, A1060, H⟩ := H
        replace H : (if t221 = true then ((laws_markMatrix.f kj24 t195 t196 1).bind fun bt222 => ((laws_markMatrix.f kj24 t200 t201 bt222.1).bind fun bt224 => (if bt224.1 < 0 then (laws_FnExactMulMatrices.j1 kj24 t193 true a0_0 l0_1 a1_0 l1_1 t189 t190 t205 t206) else ((laws_eqMatrix.f kj24 t205 t206 t189 t190).bind fun t226 => (if t226 = true then (laws_FnExactMulMatrices.j1 kj24 t193 (t209 != t193) a0_0 l0_1 a1_0 l1_1 t189 t190 t205 t206) else (laws_FnExactMulMatrices.j1 kj24 t193 true a0_0 l0_1 a1_0 l1_1 t189 t190 t205 t206)))))) else (some false)) = some r := H
        have A106 := Aside0.mk A1060
        clear A1060
        by_cases c107 : t221 = true
        · subst c107
          have H1 : ((laws_markMatrix.f kj24 t195 t196 1).bind fun bt222 => ((laws_markMatrix.f kj24 t200 t201 bt222.1).bind fun bt224 => (if bt224.1 < 0 then (laws_FnExactMulMatrices.j1 kj24 t193 true a0_0 l0_1 a1_0 l1_1 t189 t190 t205 t206) else ((laws_eqMatrix.f kj24 t205 t206 t189 t190).bind fun t226 => (if t226 = true then (laws_FnExactMulMatrices.j1 kj24 t193 (t209 != t193) a0_0 l0_1 a1_0 l1_1 t189 t190 t205 t206) else (laws_FnExactMulMatrices.j1 kj24 t193 true a0_0 l0_1 a1_0 l1_1 t189 t190 t205 t206)))))) = some r := by rw [if_pos rfl] at H; exact H
          clear H
          have H := H1
          clear H1
          replace H := Option.bind_eq_some_iff.mp H
          obtain ⟨⟨t222, t223⟩, A1080, H⟩ := H
          replace H : ((laws_markMatrix.f kj24 t200 t201 t222).bind fun bt224 => (if bt224.1 < 0 then (laws_FnExactMulMatrices.j1 kj24 t193 true a0_0 l0_1 a1_0 l1_1 t189 t190 t205 t206) else ((laws_eqMatrix.f kj24 t205 t206 t189 t190).bind fun t226 => (if t226 = true then (laws_FnExactMulMatrices.j1 kj24 t193 (t209 != t193) a0_0 l0_1 a1_0 l1_1 t189 t190 t205 t206) else (laws_FnExactMulMatrices.j1 kj24 t193 true a0_0 l0_1 a1_0 l1_1 t189 t190 t205 t206))))) = some r := H
          have A108 := Aside0.mk A1080
          clear A1080
          replace H := Option.bind_eq_some_iff.mp H
          obtain ⟨⟨t224, t225⟩, A1090, H⟩ := H
          replace H : (if t224 < 0 then (laws_FnExactMulMatrices.j1 kj24 t193 true a0_0 l0_1 a1_0 l1_1 t189 t190 t205 t206) else ((laws_eqMatrix.f kj24 t205 t206 t189 t190).bind fun t226 => (if t226 = true then (laws_FnExactMulMatrices.j1 kj24 t193 (t209 != t193) a0_0 l0_1 a1_0 l1_1 t189 t190 t205 t206) else (laws_FnExactMulMatrices.j1 kj24 t193 true a0_0 l0_1 a1_0 l1_1 t189 t190 t205 t206)))) = some r := H
          have A109 := Aside0.mk A1090
          clear A1090
          have HC110 := Aside0.mk H
          clear H
          try go_wp2
          have n0_ := Aside0.mk (Kd.R_drew HO_195001.out)
          have n1_ := Aside0.mk (Kd.R_drew HO_200001.out)
          have n2_ := Aside0.mk (Kd.R_drew HO_205001.out)
          have n3_ := Aside0.mk (Kd.R_drew HO_211001.out)
          have n4_ := Aside0.mk (blk_drew BK177.out)
          have n5_ := Aside0.mk (blk_drew BK178.out)
          have n6_ := Aside0.mk (blk_drew BK194.out)
          have n7_ := Aside0.mk (blk_drew BK199.out)
          have n8_ := Aside0.mk (blk_drew BK204.out)
          have n9_ := Aside0.mk (blk_drew BK210.out)
          have n10_ := Aside0.mk (below_drew1 HB.out)
          clear HO_195001
          clear HO_200001
          clear HO_205001
          clear HO_211001
          clear BK177
          clear BK178
          clear BK194
          clear BK199
          clear BK204
          clear BK210
          clear HB
          have HO_195001 := n0_
          have HO_200001 := n1_
          have HO_205001 := n2_
          have HO_211001 := n3_
          have BK177 := n4_
          have BK178 := n5_
          have BK194 := n6_
          have BK199 := n7_
          have BK204 := n8_
          have BK210 := n9_
          have HB := n10_
          clear n0_ n1_ n2_ n3_ n4_ n5_ n6_ n7_ n8_ n9_ n10_
          refine start_ (n := 5) (S := fun w' => w'.cell? ⟨gb199, 0, none⟩ = some (.int .i64 t195) ∧ w'.cell? ⟨gb199, 1, none⟩ = some (.slice Ao52 t196.length co52) ∧ w'.cell? ⟨gb177, 0, none⟩ = some (.int .i64 a0_0) ∧ w'.cell? ⟨gb177, 1, none⟩ = some (.slice A0_1 l0_1.length c0_1)) (ds := []) #[false, false, false, false, false] (by kernel_rfl) rfl rfl ⟨(blk_cell BK199.out 0).trans rfl, (blk_cell BK199.out 1).trans rfl, (blk_cell BK177.out 0).trans rfl, (blk_cell BK177.out 1).trans rfl⟩ (fun hHeld => ?_)
          generalize wc.drew = w111 at HO_195001 HO_200001 HO_205001 HO_211001 BK177 BK178 BK194 BK199 BK204 BK210 HB hHeld ⊢
          refine take_ (i := 0) (N := some 54) (v := ?_) (a' := ?_) #[true, false, false, false, false] rfl rfl (by kernel_rfl) (fun _ _ _ h => h) (Or.inl ⟨by rfl, ?_⟩) hHeld ?_ ?_
          rotate_left
          · rintro w' ⟨s0, s1, s2, s3⟩
            go_simp
            with_reducible rfl
          rotate_left
          · simp only [Act.put, List.setIfInBounds_toArray, List.set_cons_zero, List.set_cons_succ, i64_w, i32_w]
            rfl
          refine take_ (i := 1) (N := some 55) (v := ?_) (a' := ?_) #[true, true, false, false, false] rfl rfl (by kernel_rfl) (fun _ _ _ h => h) (Or.inl ⟨by rfl, ?_⟩) hHeld ?_ ?_
          rotate_left
          · rintro w' ⟨s0, s1, s2, s3⟩
            go_simp
            with_reducible rfl
          rotate_left
          · simp only [Act.put, List.setIfInBounds_toArray, List.set_cons_zero, List.set_cons_succ, i64_w, i32_w]
            rfl
          refine one_ (i := 2) (N := some 56) #[true, true, true, false, false] rfl rfl (by kernel_rfl) (by decide) (fun K hK => ?_)
          refine goes_ Try.func26 (by kernel_rfl) rfl #[.agg #[.int .i64 a0_0, .slice A0_1 l0_1.length c0_1]] (by rfl) rfl rfl (by (try simp only [List.map_toArray, List.map_cons, List.map_nil]); first | done | rfl | (simp only [List.length_drop, List.length_take]; rfl)) ?_
          with_reducible refine (laws_toMatrix.calls kj24 a0_0 _ _ l0_1 t212 t213 _ ?side1 ?side2 A102.out).mono ?_
          (case side1 => repeat (first | exact (Kd.C_below HR0_1.out HB.out) | (with_reducible refine Kd.C_alloc ?_ _) | (with_reducible refine Kd.C_drewN ?_ _) | (with_reducible refine Kd.C_drew ?_)))
          (case side2 => exact HC0_1.out)
          rintro e w112 ⟨v214, rfl, ho0, hb⟩
          refine ⟨_, rfl, ?_⟩
          have n0_ := Aside0.mk (Kd.R_elder' (by (with_reducible repeat (first | apply Kd.R_alloc | apply Kd.R_drewN | apply Kd.R_drew)); exact HO_195001.out) (Kd.R_base ho0) hb)
          have n1_ := Aside0.mk (Kd.R_elder' (by (with_reducible repeat (first | apply Kd.R_alloc | apply Kd.R_drewN | apply Kd.R_drew)); exact HO_200001.out) (Kd.R_base ho0) hb)
          have n2_ := Aside0.mk (Kd.R_elder' (by (with_reducible repeat (first | apply Kd.R_alloc | apply Kd.R_drewN | apply Kd.R_drew)); exact HO_205001.out) (Kd.R_base ho0) hb)
          have n3_ := Aside0.mk (Kd.R_elder' (by (with_reducible repeat (first | apply Kd.R_alloc | apply Kd.R_drewN | apply Kd.R_drew)); exact HO_211001.out) (Kd.R_base ho0) hb)
          have n4_ := Aside0.mk (Kd.R_lower (Kd.R_new' (Kd.R_new' (Kd.R_new' (Kd.R_new' ho0 (Kd.R_lt (by (with_reducible repeat (first | apply Kd.R_alloc | apply Kd.R_drewN | apply Kd.R_drew)); exact HO_195001.out))) (Kd.R_lt (by (with_reducible repeat (first | apply Kd.R_alloc | apply Kd.R_drewN | apply Kd.R_drew)); exact HO_200001.out))) (Kd.R_lt (by (with_reducible repeat (first | apply Kd.R_alloc | apply Kd.R_drewN | apply Kd.R_drew)); exact HO_205001.out))) (Kd.R_lt (by (with_reducible repeat (first | apply Kd.R_alloc | apply Kd.R_drewN | apply Kd.R_drew)); exact HO_211001.out))) (below_size (by repeat (first | (with_reducible first | exact HB.out | apply below_alloc | apply pw_below_drewN | apply below_drew1 | refine below_set ?_ GE177.out | refine below_set ?_ GE178.out | refine below_set ?_ GE194.out | refine below_set ?_ GE199.out | refine below_set ?_ GE204.out | refine below_set ?_ GE210.out) | exact HB.out))))
          have n5_ := Aside0.mk (blk_below (g := gb177) (o := .cells #[.int .i64 a0_0, .slice A0_1 l0_1.length c0_1] 41 (0, 0)) (by (with_reducible repeat (first | refine blk_drewN ?_ _ | refine blk_drew ?_ | refine blk_alloc ?_ _)); exact BK177.out) hb)
          have n6_ := Aside0.mk (blk_below (g := gb178) (o := .cells #[.int .i64 a1_0, .slice A1_1 l1_1.length c1_1] 41 (0, 0)) (by (with_reducible repeat (first | refine blk_drewN ?_ _ | refine blk_drew ?_ | refine blk_alloc ?_ _)); exact BK178.out) hb)
          have n7_ := Aside0.mk (blk_below (g := gb194) (o := .cells #[.int .i64 t189, .slice Ao42 t190.length co42] 33 (0, 0)) (by (with_reducible repeat (first | refine blk_drewN ?_ _ | refine blk_drew ?_ | refine blk_alloc ?_ _)); exact BK194.out) hb)
          have n8_ := Aside0.mk (blk_below (g := gb199) (o := .cells #[.int .i64 t195, .slice Ao52 t196.length co52] 33 (0, 0)) (by (with_reducible repeat (first | refine blk_drewN ?_ _ | refine blk_drew ?_ | refine blk_alloc ?_ _)); exact BK199.out) hb)
          have n9_ := Aside0.mk (blk_below (g := gb204) (o := .cells #[.int .i64 t200, .slice Ao62 t201.length co62] 33 (0, 0)) (by (with_reducible repeat (first | refine blk_drewN ?_ _ | refine blk_drew ?_ | refine blk_alloc ?_ _)); exact BK204.out) hb)
          have n10_ := Aside0.mk (blk_below (g := gb210) (o := .cells #[.int .i64 t205, .slice Ao74 t206.length co74] 33 (0, 0)) (by (with_reducible repeat (first | refine blk_drewN ?_ _ | refine blk_drew ?_ | refine blk_alloc ?_ _)); exact BK210.out) hb)
          have n11_ := Aside0.mk (below_step (by repeat (first | (with_reducible first | exact HB.out | apply below_alloc | apply pw_below_drewN | apply below_drew1 | refine below_set ?_ GE177.out | refine below_set ?_ GE178.out | refine below_set ?_ GE194.out | refine below_set ?_ GE199.out | refine below_set ?_ GE204.out | refine below_set ?_ GE210.out) | exact HB.out)) hb)
          clear HO_195001
          clear HO_200001
          clear HO_205001
          clear HO_211001
          clear BK177
          clear BK178
          clear BK194
          clear BK199
          clear BK204
          clear BK210
          clear HB
          have HO_195001 := n0_
          have HO_200001 := n1_
          have HO_205001 := n2_
          have HO_211001 := n3_
          have HO215 := n4_
          have BK177 := n5_
          have BK178 := n6_
          have BK194 := n7_
          have BK199 := n8_
          have BK204 := n9_
          have BK210 := n10_
          have HB := n11_
          clear n0_ n1_ n2_ n3_ n4_ n5_ n6_ n7_ n8_ n9_ n10_ n11_
          (try clear hb)
          (try clear hb2)
          (try clear hk)
          (try clear hi)
          (try clear ho0)
          obtain ⟨Ao113, co113, eo113⟩ := Kd.R_slice HO215.out
          (first | subst eo113 | (injection eo113 with f1_ f2_ f3_; have f4_ := f1_.symm; have f5_ := f3_.symm; clear f1_ f2_ f3_; subst f4_; subst f5_))
          refine hK.out _ _ ⟨(blk_cell BK199.out 0).trans rfl, (blk_cell BK199.out 1).trans rfl, (blk_cell BK177.out 0).trans rfl, (blk_cell BK177.out 1).trans rfl⟩ (fun hHeld => ?_)
          clear hK K
          refine norm_ (a' := ?_) ?_ ?_
          rotate_left
          · show Act.put _ (some 56) _ = _
            simp only [Act.put, List.setIfInBounds_toArray, List.set_cons_zero, List.set_cons_succ, i64_w, i32_w]
            rfl
          refine one_ (i := 3) (N := some 57) #[true, true, true, true, false] rfl rfl (by kernel_rfl) (by decide) (fun K hK => ?_)
          refine goes_ Try.func28 (by kernel_rfl) rfl #[.agg #[.int .i64 t195, .slice Ao52 t196.length co52], .agg #[.int .i64 t212, .slice Ao113 t213.length co113]] (by rfl) rfl rfl (by (try simp only [List.map_toArray, List.map_cons, List.map_nil]); first | done | rfl | (simp only [List.length_drop, List.length_take]; rfl)) ?_
          with_reducible refine (laws_eqMatrix.calls kj24 t195 _ _ t196 t212 _ _ t213 true _ ?side1 ?side2 ?side3 ?side4 A103.out).mono ?_
          (case side1 => repeat (first | exact (Kd.R_reads' HO_200001.out).2.2 | (with_reducible refine Kd.C_alloc ?_ _) | (with_reducible refine Kd.C_drewN ?_ _) | (with_reducible refine Kd.C_drew ?_)))
          (case side2 => exact (Kd.R_reads' HO_200001.out).2.1)
          (case side3 => repeat (first | exact (Kd.R_reads' HO215.out).2.2 | (with_reducible refine Kd.C_alloc ?_ _) | (with_reducible refine Kd.C_drewN ?_ _) | (with_reducible refine Kd.C_drew ?_)))
          (case side4 => exact (Kd.R_reads' HO215.out).2.1)
          rintro e w114 ⟨rfl, hb⟩
          refine ⟨_, rfl, ?_⟩
          have n0_ := Aside0.mk (Kd.R_below (by (with_reducible repeat (first | apply Kd.R_alloc | apply Kd.R_drewN | apply Kd.R_drew)); exact HO_195001.out) hb)
          have n1_ := Aside0.mk (Kd.R_below (by (with_reducible repeat (first | apply Kd.R_alloc | apply Kd.R_drewN | apply Kd.R_drew)); exact HO_200001.out) hb)
          have n2_ := Aside0.mk (Kd.R_below (by (with_reducible repeat (first | apply Kd.R_alloc | apply Kd.R_drewN | apply Kd.R_drew)); exact HO_205001.out) hb)
          have n3_ := Aside0.mk (Kd.R_below (by (with_reducible repeat (first | apply Kd.R_alloc | apply Kd.R_drewN | apply Kd.R_drew)); exact HO_211001.out) hb)
          have n4_ := Aside0.mk (Kd.R_below (by (with_reducible repeat (first | apply Kd.R_alloc | apply Kd.R_drewN | apply Kd.R_drew)); exact HO215.out) hb)
          have n5_ := Aside0.mk (blk_below (g := gb177) (o := .cells #[.int .i64 a0_0, .slice A0_1 l0_1.length c0_1] 41 (0, 0)) (by (with_reducible repeat (first | refine blk_drewN ?_ _ | refine blk_drew ?_ | refine blk_alloc ?_ _)); exact BK177.out) hb)
          have n6_ := Aside0.mk (blk_below (g := gb178) (o := .cells #[.int .i64 a1_0, .slice A1_1 l1_1.length c1_1] 41 (0, 0)) (by (with_reducible repeat (first | refine blk_drewN ?_ _ | refine blk_drew ?_ | refine blk_alloc ?_ _)); exact BK178.out) hb)
          have n7_ := Aside0.mk (blk_below (g := gb194) (o := .cells #[.int .i64 t189, .slice Ao42 t190.length co42] 33 (0, 0)) (by (with_reducible repeat (first | refine blk_drewN ?_ _ | refine blk_drew ?_ | refine blk_alloc ?_ _)); exact BK194.out) hb)
          have n8_ := Aside0.mk (blk_below (g := gb199) (o := .cells #[.int .i64 t195, .slice Ao52 t196.length co52] 33 (0, 0)) (by (with_reducible repeat (first | refine blk_drewN ?_ _ | refine blk_drew ?_ | refine blk_alloc ?_ _)); exact BK199.out) hb)
          have n9_ := Aside0.mk (blk_below (g := gb204) (o := .cells #[.int .i64 t200, .slice Ao62 t201.length co62] 33 (0, 0)) (by (with_reducible repeat (first | refine blk_drewN ?_ _ | refine blk_drew ?_ | refine blk_alloc ?_ _)); exact BK204.out) hb)
          have n10_ := Aside0.mk (blk_below (g := gb210) (o := .cells #[.int .i64 t205, .slice Ao74 t206.length co74] 33 (0, 0)) (by (with_reducible repeat (first | refine blk_drewN ?_ _ | refine blk_drew ?_ | refine blk_alloc ?_ _)); exact BK210.out) hb)
          have n11_ := Aside0.mk (below_step (by repeat (first | (with_reducible first | exact HB.out | apply below_alloc | apply pw_below_drewN | apply below_drew1 | refine below_set ?_ GE177.out | refine below_set ?_ GE178.out | refine below_set ?_ GE194.out | refine below_set ?_ GE199.out | refine below_set ?_ GE204.out | refine below_set ?_ GE210.out) | exact HB.out)) hb)
          clear HO_195001
          clear HO_200001
          clear HO_205001
          clear HO_211001
          clear HO215
          clear BK177
          clear BK178
          clear BK194
          clear BK199
          clear BK204
          clear BK210
          clear HB
          have HO_195001 := n0_
          have HO_200001 := n1_
          have HO_205001 := n2_
          have HO_211001 := n3_
          have HO215 := n4_
          have BK177 := n5_
          have BK178 := n6_
          have BK194 := n7_
          have BK199 := n8_
          have BK204 := n9_
          have BK210 := n10_
          have HB := n11_
          clear n0_ n1_ n2_ n3_ n4_ n5_ n6_ n7_ n8_ n9_ n10_ n11_
          (try clear hb)
          (try clear hb2)
          (try clear hk)
          (try clear hi)
          refine hK.out _ _ ⟨(blk_cell BK199.out 0).trans rfl, (blk_cell BK199.out 1).trans rfl, (blk_cell BK177.out 0).trans rfl, (blk_cell BK177.out 1).trans rfl⟩ (fun hHeld => ?_)
          clear hK K
          refine norm_ (a' := ?_) ?_ ?_
          rotate_left
          · show Act.put _ (some 57) _ = _
            simp only [Act.put, List.setIfInBounds_toArray, List.set_cons_zero, List.set_cons_succ, i64_w, i32_w]
            rfl
          refine pure_ (i := 4) (N := some 58) (v := ?_) (a' := ?_) #[true, true, true, true, true] rfl rfl (by kernel_rfl) (fun _ _ _ h => h) (Or.inl ⟨by rfl, ?_⟩) ?_ ?_
          rotate_left
          · intro w'
            go_simp
            with_reducible rfl
          rotate_left
          · simp only [Act.put, List.setIfInBounds_toArray, List.set_cons_zero, List.set_cons_succ, i64_w, i32_w]
            rfl
          refine done_ (by kernel_rfl) ?_
          try go_wp2
          have n0_ := Aside0.mk (Kd.R_drew HO_195001.out)
          have n1_ := Aside0.mk (Kd.R_drew HO_200001.out)
          have n2_ := Aside0.mk (Kd.R_drew HO_205001.out)
          have n3_ := Aside0.mk (Kd.R_drew HO_211001.out)
          have n4_ := Aside0.mk (Kd.R_drew HO215.out)
          have n5_ := Aside0.mk (blk_drew BK177.out)
          have n6_ := Aside0.mk (blk_drew BK178.out)
          have n7_ := Aside0.mk (blk_drew BK194.out)
          have n8_ := Aside0.mk (blk_drew BK199.out)
          have n9_ := Aside0.mk (blk_drew BK204.out)
          have n10_ := Aside0.mk (blk_drew BK210.out)
          have n11_ := Aside0.mk (below_drew1 HB.out)
          clear HO_195001
          clear HO_200001
          clear HO_205001
          clear HO_211001
          clear HO215
          clear BK177
          clear BK178
          clear BK194
          clear BK199
          clear BK204
          clear BK210
          clear HB
          have HO_195001 := n0_
          have HO_200001 := n1_
          have HO_205001 := n2_
          have HO_211001 := n3_
          have HO215 := n4_
          have BK177 := n5_
          have BK178 := n6_
          have BK194 := n7_
          have BK199 := n8_
          have BK204 := n9_
          have BK210 := n10_
          have HB := n11_
          clear n0_ n1_ n2_ n3_ n4_ n5_ n6_ n7_ n8_ n9_ n10_ n11_
          refine start_ (n := 5) (S := fun w' => w'.cell? ⟨gb204, 0, none⟩ = some (.int .i64 t200) ∧ w'.cell? ⟨gb204, 1, none⟩ = some (.slice Ao62 t201.length co62) ∧ w'.cell? ⟨gb178, 0, none⟩ = some (.int .i64 a1_0) ∧ w'.cell? ⟨gb178, 1, none⟩ = some (.slice A1_1 l1_1.length c1_1)) (ds := []) #[false, false, false, false, false] (by kernel_rfl) rfl rfl ⟨(blk_cell BK204.out 0).trans rfl, (blk_cell BK204.out 1).trans rfl, (blk_cell BK178.out 0).trans rfl, (blk_cell BK178.out 1).trans rfl⟩ (fun hHeld => ?_)
          generalize w114.drew = w115 at HO_195001 HO_200001 HO_205001 HO_211001 HO215 BK177 BK178 BK194 BK199 BK204 BK210 HB hHeld ⊢
          refine take_ (i := 0) (N := some 59) (v := ?_) (a' := ?_) #[true, false, false, false, false] rfl rfl (by kernel_rfl) (fun _ _ _ h => h) (Or.inl ⟨by rfl, ?_⟩) hHeld ?_ ?_
          rotate_left
          · rintro w' ⟨s0, s1, s2, s3⟩
            go_simp
            with_reducible rfl
          rotate_left
          · simp only [Act.put, List.setIfInBounds_toArray, List.set_cons_zero, List.set_cons_succ, i64_w, i32_w]
            rfl
          refine take_ (i := 1) (N := some 60) (v := ?_) (a' := ?_) #[true, true, false, false, false] rfl rfl (by kernel_rfl) (fun _ _ _ h => h) (Or.inl ⟨by rfl, ?_⟩) hHeld ?_ ?_
          rotate_left
          · rintro w' ⟨s0, s1, s2, s3⟩
            go_simp
            with_reducible rfl
          rotate_left
          · simp only [Act.put, List.setIfInBounds_toArray, List.set_cons_zero, List.set_cons_succ, i64_w, i32_w]
            rfl
          refine one_ (i := 2) (N := some 61) #[true, true, true, false, false] rfl rfl (by kernel_rfl) (by decide) (fun K hK => ?_)
          refine goes_ Try.func26 (by kernel_rfl) rfl #[.agg #[.int .i64 a1_0, .slice A1_1 l1_1.length c1_1]] (by rfl) rfl rfl (by (try simp only [List.map_toArray, List.map_cons, List.map_nil]); first | done | rfl | (simp only [List.length_drop, List.length_take]; rfl)) ?_
          with_reducible refine (laws_toMatrix.calls kj24 a1_0 _ _ l1_1 t217 t218 _ ?side1 ?side2 A105.out).mono ?_
          (case side1 => repeat (first | exact (Kd.C_below HR1_1.out HB.out) | (with_reducible refine Kd.C_alloc ?_ _) | (with_reducible refine Kd.C_drewN ?_ _) | (with_reducible refine Kd.C_drew ?_)))
          (case side2 => exact HC1_1.out)
          rintro e w116 ⟨v219, rfl, ho0, hb⟩
          refine ⟨_, rfl, ?_⟩
          have n0_ := Aside0.mk (Kd.R_elder' (by (with_reducible repeat (first | apply Kd.R_alloc | apply Kd.R_drewN | apply Kd.R_drew)); exact HO_195001.out) (Kd.R_base ho0) hb)
          have n1_ := Aside0.mk (Kd.R_elder' (by (with_reducible repeat (first | apply Kd.R_alloc | apply Kd.R_drewN | apply Kd.R_drew)); exact HO_200001.out) (Kd.R_base ho0) hb)
          have n2_ := Aside0.mk (Kd.R_elder' (by (with_reducible repeat (first | apply Kd.R_alloc | apply Kd.R_drewN | apply Kd.R_drew)); exact HO_205001.out) (Kd.R_base ho0) hb)
          have n3_ := Aside0.mk (Kd.R_elder' (by (with_reducible repeat (first | apply Kd.R_alloc | apply Kd.R_drewN | apply Kd.R_drew)); exact HO_211001.out) (Kd.R_base ho0) hb)
          have n4_ := Aside0.mk (Kd.R_elder' (by (with_reducible repeat (first | apply Kd.R_alloc | apply Kd.R_drewN | apply Kd.R_drew)); exact HO215.out) (Kd.R_base ho0) hb)
          have n5_ := Aside0.mk (Kd.R_lower (Kd.R_new' (Kd.R_new' (Kd.R_new' (Kd.R_new' (Kd.R_new' ho0 (Kd.R_lt (by (with_reducible repeat (first | apply Kd.R_alloc | apply Kd.R_drewN | apply Kd.R_drew)); exact HO_195001.out))) (Kd.R_lt (by (with_reducible repeat (first | apply Kd.R_alloc | apply Kd.R_drewN | apply Kd.R_drew)); exact HO_200001.out))) (Kd.R_lt (by (with_reducible repeat (first | apply Kd.R_alloc | apply Kd.R_drewN | apply Kd.R_drew)); exact HO_205001.out))) (Kd.R_lt (by (with_reducible repeat (first | apply Kd.R_alloc | apply Kd.R_drewN | apply Kd.R_drew)); exact HO_211001.out))) (Kd.R_lt (by (with_reducible repeat (first | apply Kd.R_alloc | apply Kd.R_drewN | apply Kd.R_drew)); exact HO215.out))) (below_size (by repeat (first | (with_reducible first | exact HB.out | apply below_alloc | apply pw_below_drewN | apply below_drew1 | refine below_set ?_ GE177.out | refine below_set ?_ GE178.out | refine below_set ?_ GE194.out | refine below_set ?_ GE199.out | refine below_set ?_ GE204.out | refine below_set ?_ GE210.out) | exact HB.out))))
          have n6_ := Aside0.mk (blk_below (g := gb177) (o := .cells #[.int .i64 a0_0, .slice A0_1 l0_1.length c0_1] 41 (0, 0)) (by (with_reducible repeat (first | refine blk_drewN ?_ _ | refine blk_drew ?_ | refine blk_alloc ?_ _)); exact BK177.out) hb)
          have n7_ := Aside0.mk (blk_below (g := gb178) (o := .cells #[.int .i64 a1_0, .slice A1_1 l1_1.length c1_1] 41 (0, 0)) (by (with_reducible repeat (first | refine blk_drewN ?_ _ | refine blk_drew ?_ | refine blk_alloc ?_ _)); exact BK178.out) hb)
          have n8_ := Aside0.mk (blk_below (g := gb194) (o := .cells #[.int .i64 t189, .slice Ao42 t190.length co42] 33 (0, 0)) (by (with_reducible repeat (first | refine blk_drewN ?_ _ | refine blk_drew ?_ | refine blk_alloc ?_ _)); exact BK194.out) hb)
          have n9_ := Aside0.mk (blk_below (g := gb199) (o := .cells #[.int .i64 t195, .slice Ao52 t196.length co52] 33 (0, 0)) (by (with_reducible repeat (first | refine blk_drewN ?_ _ | refine blk_drew ?_ | refine blk_alloc ?_ _)); exact BK199.out) hb)
          have n10_ := Aside0.mk (blk_below (g := gb204) (o := .cells #[.int .i64 t200, .slice Ao62 t201.length co62] 33 (0, 0)) (by (with_reducible repeat (first | refine blk_drewN ?_ _ | refine blk_drew ?_ | refine blk_alloc ?_ _)); exact BK204.out) hb)
          have n11_ := Aside0.mk (blk_below (g := gb210) (o := .cells #[.int .i64 t205, .slice Ao74 t206.length co74] 33 (0, 0)) (by (with_reducible repeat (first | refine blk_drewN ?_ _ | refine blk_drew ?_ | refine blk_alloc ?_ _)); exact BK210.out) hb)
          have n12_ := Aside0.mk (below_step (by repeat (first | (with_reducible first | exact HB.out | apply below_alloc | apply pw_below_drewN | apply below_drew1 | refine below_set ?_ GE177.out | refine below_set ?_ GE178.out | refine below_set ?_ GE194.out | refine below_set ?_ GE199.out | refine below_set ?_ GE204.out | refine below_set ?_ GE210.out) | exact HB.out)) hb)
          clear HO_195001
          clear HO_200001
          clear HO_205001
          clear HO_211001
          clear HO215
          clear BK177
          clear BK178
          clear BK194
          clear BK199
          clear BK204
          clear BK210
          clear HB
          have HO_195001 := n0_
          have HO_200001 := n1_
          have HO_205001 := n2_
          have HO_211001 := n3_
          have HO215 := n4_
          have HO220 := n5_
          have BK177 := n6_
          have BK178 := n7_
          have BK194 := n8_
          have BK199 := n9_
          have BK204 := n10_
          have BK210 := n11_
          have HB := n12_
          clear n0_ n1_ n2_ n3_ n4_ n5_ n6_ n7_ n8_ n9_ n10_ n11_ n12_
          (try clear hb)
          (try clear hb2)
          (try clear hk)
          (try clear hi)
          (try clear ho0)
          obtain ⟨Ao117, co117, eo117⟩ := Kd.R_slice HO220.out
          (first | subst eo117 | (injection eo117 with f1_ f2_ f3_; have f4_ := f1_.symm; have f5_ := f3_.symm; clear f1_ f2_ f3_; subst f4_; subst f5_))
          refine hK.out _ _ ⟨(blk_cell BK204.out 0).trans rfl, (blk_cell BK204.out 1).trans rfl, (blk_cell BK178.out 0).trans rfl, (blk_cell BK178.out 1).trans rfl⟩ (fun hHeld => ?_)
          clear hK K
          refine norm_ (a' := ?_) ?_ ?_
          rotate_left
          · show Act.put _ (some 61) _ = _
            simp only [Act.put, List.setIfInBounds_toArray, List.set_cons_zero, List.set_cons_succ, i64_w, i32_w]
            rfl
          refine one_ (i := 3) (N := some 62) #[true, true, true, true, false] rfl rfl (by kernel_rfl) (by decide) (fun K hK => ?_)
          refine goes_ Try.func28 (by kernel_rfl) rfl #[.agg #[.int .i64 t200, .slice Ao62 t201.length co62], .agg #[.int .i64 t217, .slice Ao117 t218.length co117]] (by rfl) rfl rfl (by (try simp only [List.map_toArray, List.map_cons, List.map_nil]); first | done | rfl | (simp only [List.length_drop, List.length_take]; rfl)) ?_
          with_reducible refine (laws_eqMatrix.calls kj24 t200 _ _ t201 t217 _ _ t218 true _ ?side1 ?side2 ?side3 ?side4 A106.out).mono ?_
          (case side1 => repeat (first | exact (Kd.R_reads' HO_205001.out).2.2 | (with_reducible refine Kd.C_alloc ?_ _) | (with_reducible refine Kd.C_drewN ?_ _) | (with_reducible refine Kd.C_drew ?_)))
          (case side2 => exact (Kd.R_reads' HO_205001.out).2.1)
          (case side3 => repeat (first | exact (Kd.R_reads' HO220.out).2.2 | (with_reducible refine Kd.C_alloc ?_ _) | (with_reducible refine Kd.C_drewN ?_ _) | (with_reducible refine Kd.C_drew ?_)))
          (case side4 => exact (Kd.R_reads' HO220.out).2.1)
          rintro e w118 ⟨rfl, hb⟩
          refine ⟨_, rfl, ?_⟩
          have n0_ := Aside0.mk (Kd.R_below (by (with_reducible repeat (first | apply Kd.R_alloc | apply Kd.R_drewN | apply Kd.R_drew)); exact HO_195001.out) hb)
          have n1_ := Aside0.mk (Kd.R_below (by (with_reducible repeat (first | apply Kd.R_alloc | apply Kd.R_drewN | apply Kd.R_drew)); exact HO_200001.out) hb)
          have n2_ := Aside0.mk (Kd.R_below (by (with_reducible repeat (first | apply Kd.R_alloc | apply Kd.R_drewN | apply Kd.R_drew)); exact HO_205001.out) hb)
          have n3_ := Aside0.mk (Kd.R_below (by (with_reducible repeat (first | apply Kd.R_alloc | apply Kd.R_drewN | apply Kd.R_drew)); exact HO_211001.out) hb)
          have n4_ := Aside0.mk (Kd.R_below (by (with_reducible repeat (first | apply Kd.R_alloc | apply Kd.R_drewN | apply Kd.R_drew)); exact HO215.out) hb)
          have n5_ := Aside0.mk (Kd.R_below (by (with_reducible repeat (first | apply Kd.R_alloc | apply Kd.R_drewN | apply Kd.R_drew)); exact HO220.out) hb)
          have n6_ := Aside0.mk (blk_below (g := gb177) (o := .cells #[.int .i64 a0_0, .slice A0_1 l0_1.length c0_1] 41 (0, 0)) (by (with_reducible repeat (first | refine blk_drewN ?_ _ | refine blk_drew ?_ | refine blk_alloc ?_ _)); exact BK177.out) hb)
          have n7_ := Aside0.mk (blk_below (g := gb178) (o := .cells #[.int .i64 a1_0, .slice A1_1 l1_1.length c1_1] 41 (0, 0)) (by (with_reducible repeat (first | refine blk_drewN ?_ _ | refine blk_drew ?_ | refine blk_alloc ?_ _)); exact BK178.out) hb)
          have n8_ := Aside0.mk (blk_below (g := gb194) (o := .cells #[.int .i64 t189, .slice Ao42 t190.length co42] 33 (0, 0)) (by (with_reducible repeat (first | refine blk_drewN ?_ _ | refine blk_drew ?_ | refine blk_alloc ?_ _)); exact BK194.out) hb)
          have n9_ := Aside0.mk (blk_below (g := gb199) (o := .cells #[.int .i64 t195, .slice Ao52 t196.length co52] 33 (0, 0)) (by (with_reducible repeat (first | refine blk_drewN ?_ _ | refine blk_drew ?_ | refine blk_alloc ?_ _)); exact BK199.out) hb)
          have n10_ := Aside0.mk (blk_below (g := gb204) (o := .cells #[.int .i64 t200, .slice Ao62 t201.length co62] 33 (0, 0)) (by (with_reducible repeat (first | refine blk_drewN ?_ _ | refine blk_drew ?_ | refine blk_alloc ?_ _)); exact BK204.out) hb)
          have n11_ := Aside0.mk (blk_below (g := gb210) (o := .cells #[.int .i64 t205, .slice Ao74 t206.length co74] 33 (0, 0)) (by (with_reducible repeat (first | refine blk_drewN ?_ _ | refine blk_drew ?_ | refine blk_alloc ?_ _)); exact BK210.out) hb)
          have n12_ := Aside0.mk (below_step (by repeat (first | (with_reducible first | exact HB.out | apply below_alloc | apply pw_below_drewN | apply below_drew1 | refine below_set ?_ GE177.out | refine below_set ?_ GE178.out | refine below_set ?_ GE194.out | refine below_set ?_ GE199.out | refine below_set ?_ GE204.out | refine below_set ?_ GE210.out) | exact HB.out)) hb)
          clear HO_195001
          clear HO_200001
          clear HO_205001
          clear HO_211001
          clear HO215
          clear HO220
          clear BK177
          clear BK178
          clear BK194
          clear BK199
          clear BK204
          clear BK210
          clear HB
          have HO_195001 := n0_
          have HO_200001 := n1_
          have HO_205001 := n2_
          have HO_211001 := n3_
          have HO215 := n4_
          have HO220 := n5_
          have BK177 := n6_
          have BK178 := n7_
          have BK194 := n8_
          have BK199 := n9_
          have BK204 := n10_
          have BK210 := n11_
          have HB := n12_
          clear n0_ n1_ n2_ n3_ n4_ n5_ n6_ n7_ n8_ n9_ n10_ n11_ n12_
          (try clear hb)
          (try clear hb2)
          (try clear hk)
          (try clear hi)
          refine hK.out _ _ ⟨(blk_cell BK204.out 0).trans rfl, (blk_cell BK204.out 1).trans rfl, (blk_cell BK178.out 0).trans rfl, (blk_cell BK178.out 1).trans rfl⟩ (fun hHeld => ?_)
          clear hK K
          refine norm_ (a' := ?_) ?_ ?_
          rotate_left
          · show Act.put _ (some 62) _ = _
            simp only [Act.put, List.setIfInBounds_toArray, List.set_cons_zero, List.set_cons_succ, i64_w, i32_w]
            rfl
          refine pure_ (i := 4) (N := some 63) (v := ?_) (a' := ?_) #[true, true, true, true, true] rfl rfl (by kernel_rfl) (fun _ _ _ h => h) (Or.inl ⟨by rfl, ?_⟩) ?_ ?_
          rotate_left
          · intro w'
            go_simp
            with_reducible rfl
          rotate_left
          · simp only [Act.put, List.setIfInBounds_toArray, List.set_cons_zero, List.set_cons_succ, i64_w, i32_w]
            rfl
          refine done_ (by kernel_rfl) ?_
          have hnb119 := NB199_177.out
          have hnc119 := NB177_199.out
          have hnb120 := NB199_178.out
          have hnc120 := NB178_199.out
          have hnb121 := NB199_194.out
          have hnc121 := NB194_199.out
          have hnb122 := NB199_204.out
          have hnc122 := NB204_199.out
          have hnb123 := NB199_210.out
          have hnc123 := NB210_199.out
          have hcz124_0 : w118.cell? ⟨gb199, 0, none⟩ = some (.int .i64 t195) := (blk_cell BK199.out 0).trans rfl
          have hcz124_1 : w118.cell? ⟨gb199, 1, none⟩ = some (.slice Ao52 t196.length co52) := (blk_cell BK199.out 1).trans rfl
          have hfz124_0 := blk_frozen BK199.out 0
          have hfz124_1 := blk_frozen BK199.out 1
          go_upto_region 21 with (first | ((with_reducible refine gate_callee (f := 29) rfl ?_); refine goesL_ (some 66) rfl rfl Try.func29 (by kernel_rfl) rfl #[.agg #[.int .i64 t195, .slice Ao52 t196.length co52], .int .i64 1] rfl (by (try simp only [List.map_toArray, List.map_cons, List.map_nil]); first | done | rfl | (simp only [List.length_drop, List.length_take]; rfl)) ?_; (with_reducible refine (laws_markMatrix.calls kj24 t195 (fun k_ => some k_ = (.slice Ao52 t196.length co52 : Value).ownBlock) (.slice Ao52 t196.length co52) t196 1 t222 t223 w _ ?side1 ?side2 A108.out).mono ?_); (case side1 => repeat (first | (with_reducible first | exact HB.out | apply below_alloc | apply pw_below_drewN | apply below_drew1 | refine below_set ?_ GE177.out | refine below_set ?_ GE178.out | refine below_set ?_ GE194.out | refine below_set ?_ GE199.out | refine below_set ?_ GE204.out | refine below_set ?_ GE210.out) | exact HB.out)); (case side2 => exact Kd.R_tight rfl HO_200001.out); rintro e w125 ⟨rfl, hy0, hb, hkp⟩; refine ⟨_, rfl, ?_⟩; have n0_ := Aside0.mk (Kd.R_mono (ok' := fun k_ => some k_ ≠ (.slice Ao52 t196.length co52 : Value).ownBlock ∧ some k_ ≠ (.slice Ao62 t201.length co62 : Value).ownBlock ∧ some k_ ≠ (.slice Ao74 t206.length co74 : Value).ownBlock ∧ some k_ ≠ (.slice Ao113 t213.length co113 : Value).ownBlock ∧ some k_ ≠ (.slice Ao117 t218.length co117 : Value).ownBlock) (Kd.R_keptB (HO_195001.out) hkp (fun k_ hk_ hs_ => (hk_.1.1.1) hs_)) (fun k_ hk_ => ⟨hk_.1.1.1.1, hk_.1.1.1.2.1, hk_.1.1.1.2.2, hk_.1.1.2, hk_.1.2⟩)); have n1_ := Aside0.mk (Kd.R_reok rfl hy0 (fun k_ e_ => HO_200001.out.1 k_ e_)); have n2_ := Aside0.mk (Kd.R_mono (ok' := fun k_ => some k_ ≠ (.slice Ao42 t190.length co42 : Value).ownBlock ∧ some k_ ≠ (.slice Ao52 t196.length co52 : Value).ownBlock ∧ some k_ ≠ (.slice Ao74 t206.length co74 : Value).ownBlock ∧ some k_ ≠ (.slice Ao113 t213.length co113 : Value).ownBlock ∧ some k_ ≠ (.slice Ao117 t218.length co117 : Value).ownBlock) (Kd.R_keptB (HO_205001.out) hkp (fun k_ hk_ hs_ => (hk_.1.1.2.1) hs_)) (fun k_ hk_ => ⟨hk_.1.1.1.1, hk_.1.1.1.2.1, hk_.1.1.1.2.2, hk_.1.1.2, hk_.1.2⟩)); have n3_ := Aside0.mk (Kd.R_mono (ok' := fun k_ => some k_ ≠ (.slice Ao42 t190.length co42 : Value).ownBlock ∧ some k_ ≠ (.slice Ao52 t196.length co52 : Value).ownBlock ∧ some k_ ≠ (.slice Ao62 t201.length co62 : Value).ownBlock ∧ some k_ ≠ (.slice Ao113 t213.length co113 : Value).ownBlock ∧ some k_ ≠ (.slice Ao117 t218.length co117 : Value).ownBlock) (Kd.R_keptB (HO_211001.out) hkp (fun k_ hk_ hs_ => (hk_.1.1.2.1) hs_)) (fun k_ hk_ => ⟨hk_.1.1.1.1, hk_.1.1.1.2.1, hk_.1.1.1.2.2, hk_.1.1.2, hk_.1.2⟩)); have n4_ := Aside0.mk (blk_kept (by (with_reducible repeat (first | refine blk_drewN ?_ _ | refine blk_drew ?_ | refine blk_alloc ?_ _)); exact BK177.out) hkp (fun hs_ => (fun e_ => (Kd.R_ne HO_200001.out BK177.out (by decide)) e_) hs_)); have n5_ := Aside0.mk (blk_kept (by (with_reducible repeat (first | refine blk_drewN ?_ _ | refine blk_drew ?_ | refine blk_alloc ?_ _)); exact BK178.out) hkp (fun hs_ => (fun e_ => (Kd.R_ne HO_200001.out BK178.out (by decide)) e_) hs_)); have n6_ := Aside0.mk (blk_kept (by (with_reducible repeat (first | refine blk_drewN ?_ _ | refine blk_drew ?_ | refine blk_alloc ?_ _)); exact BK194.out) hkp (fun hs_ => (fun e_ => (Kd.R_ne HO_200001.out BK194.out (by decide)) e_) hs_)); have n7_ := Aside0.mk (blk_kept (by (with_reducible repeat (first | refine blk_drewN ?_ _ | refine blk_drew ?_ | refine blk_alloc ?_ _)); exact BK199.out) hkp (fun hs_ => (fun e_ => (Kd.R_ne HO_200001.out BK199.out (by decide)) e_) hs_)); have n8_ := Aside0.mk (blk_kept (by (with_reducible repeat (first | refine blk_drewN ?_ _ | refine blk_drew ?_ | refine blk_alloc ?_ _)); exact BK204.out) hkp (fun hs_ => (fun e_ => (Kd.R_ne HO_200001.out BK204.out (by decide)) e_) hs_)); have n9_ := Aside0.mk (blk_kept (by (with_reducible repeat (first | refine blk_drewN ?_ _ | refine blk_drew ?_ | refine blk_alloc ?_ _)); exact BK210.out) hkp (fun hs_ => (fun e_ => (Kd.R_ne HO_200001.out BK210.out (by decide)) e_) hs_)); have n10_ := Aside0.mk (Kd.R_mono (ok' := fun k_ => some k_ ≠ (.slice Ao42 t190.length co42 : Value).ownBlock ∧ some k_ ≠ (.slice Ao52 t196.length co52 : Value).ownBlock ∧ some k_ ≠ (.slice Ao62 t201.length co62 : Value).ownBlock ∧ some k_ ≠ (.slice Ao74 t206.length co74 : Value).ownBlock ∧ some k_ ≠ (.slice Ao117 t218.length co117 : Value).ownBlock) (Kd.R_keptB (HO215.out) hkp (fun k_ hk_ hs_ => (hk_.1.1.1.2) hs_)) (fun k_ hk_ => ⟨hk_.1.1.1.1.1.2, hk_.1.1.1.1.2, hk_.1.1.1.2, hk_.1.1.2, hk_.1.2⟩)); have n11_ := Aside0.mk (Kd.R_mono (ok' := fun k_ => some k_ ≠ (.slice Ao42 t190.length co42 : Value).ownBlock ∧ some k_ ≠ (.slice Ao52 t196.length co52 : Value).ownBlock ∧ some k_ ≠ (.slice Ao62 t201.length co62 : Value).ownBlock ∧ some k_ ≠ (.slice Ao74 t206.length co74 : Value).ownBlock ∧ some k_ ≠ (.slice Ao113 t213.length co113 : Value).ownBlock) (Kd.R_keptB (HO220.out) hkp (fun k_ hk_ hs_ => (hk_.1.1.1.2) hs_)) (fun k_ hk_ => ⟨hk_.1.1.1.1.1.2, hk_.1.1.1.1.2, hk_.1.1.1.2, hk_.1.1.2, hk_.1.2⟩)); have n12_ := Aside0.mk (hb); clear HO_195001; clear HO_200001; clear HO_205001; clear HO_211001; clear BK177; clear BK178; clear BK194; clear BK199; clear BK204; clear BK210; clear HO215; clear HO220; clear HB; have HO_195001 := n0_; have HO_200001 := n1_; have HO_205001 := n2_; have HO_211001 := n3_; have BK177 := n4_; have BK178 := n5_; have BK194 := n6_; have BK199 := n7_; have BK204 := n8_; have BK210 := n9_; have HO215 := n10_; have HO220 := n11_; have HB := n12_; clear n0_ n1_ n2_ n3_ n4_ n5_ n6_ n7_ n8_ n9_ n10_ n11_ n12_; (try clear hb); (try clear hkp); (try clear hy0); have hnb126 := NB204_177.out; have hnc126 := NB177_204.out; have hnb127 := NB204_178.out; have hnc127 := NB178_204.out; have hnb128 := NB204_194.out; have hnc128 := NB194_204.out; have hnb129 := NB204_210.out; have hnc129 := NB210_204.out; have hcz130_0 : w125.cell? ⟨gb204, 0, none⟩ = some (.int .i64 t200) := (blk_cell BK204.out 0).trans rfl; have hcz130_1 : w125.cell? ⟨gb204, 1, none⟩ = some (.slice Ao62 t201.length co62) := (blk_cell BK204.out 1).trans rfl; have hfz130_0 := blk_frozen BK204.out 0; have hfz130_1 := blk_frozen BK204.out 1) | ((with_reducible refine gate_callee (f := 29) rfl ?_); refine goesL_ (some 69) rfl rfl Try.func29 (by kernel_rfl) rfl #[.agg #[.int .i64 t200, .slice Ao62 t201.length co62], .int .i64 t222] rfl (by (try simp only [List.map_toArray, List.map_cons, List.map_nil]); first | done | rfl | (simp only [List.length_drop, List.length_take]; rfl)) ?_; (with_reducible refine (laws_markMatrix.calls kj24 t200 (fun k_ => some k_ = (.slice Ao62 t201.length co62 : Value).ownBlock) (.slice Ao62 t201.length co62) t201 t222 t224 t225 w _ ?side1 ?side2 A109.out).mono ?_); (case side1 => repeat (first | (with_reducible first | exact HB.out | apply below_alloc | apply pw_below_drewN | apply below_drew1 | refine below_set ?_ GE177.out | refine below_set ?_ GE178.out | refine below_set ?_ GE194.out | refine below_set ?_ GE199.out | refine below_set ?_ GE204.out | refine below_set ?_ GE210.out) | exact HB.out)); (case side2 => exact Kd.R_tight rfl HO_205001.out); rintro e w131 ⟨rfl, hy0, hb, hkp⟩; refine ⟨_, rfl, ?_⟩; have n0_ := Aside0.mk (Kd.R_mono (ok' := fun k_ => some k_ ≠ (.slice Ao52 t196.length co52 : Value).ownBlock ∧ some k_ ≠ (.slice Ao62 t201.length co62 : Value).ownBlock ∧ some k_ ≠ (.slice Ao74 t206.length co74 : Value).ownBlock ∧ some k_ ≠ (.slice Ao113 t213.length co113 : Value).ownBlock ∧ some k_ ≠ (.slice Ao117 t218.length co117 : Value).ownBlock) (Kd.R_keptB (HO_195001.out) hkp (fun k_ hk_ hs_ => (hk_.2.1) hs_)) (fun k_ hk_ => ⟨hk_.1.1, hk_.1.2.1, hk_.1.2.2.1, hk_.1.2.2.2.1, hk_.1.2.2.2.2⟩)); have n1_ := Aside0.mk (Kd.R_mono (ok' := fun k_ => some k_ ≠ (.slice Ao42 t190.length co42 : Value).ownBlock ∧ some k_ ≠ (.slice Ao62 t201.length co62 : Value).ownBlock ∧ some k_ ≠ (.slice Ao74 t206.length co74 : Value).ownBlock ∧ some k_ ≠ (.slice Ao113 t213.length co113 : Value).ownBlock ∧ some k_ ≠ (.slice Ao117 t218.length co117 : Value).ownBlock) (Kd.R_keptB (HO_200001.out) hkp (fun k_ hk_ hs_ => (hk_.1.1.2.1) hs_)) (fun k_ hk_ => ⟨hk_.1.1.1.1, hk_.1.1.1.2.1, hk_.1.1.1.2.2, hk_.1.1.2, hk_.1.2⟩)); have n2_ := Aside0.mk (Kd.R_reok rfl hy0 (fun k_ e_ => HO_205001.out.1 k_ e_)); have n3_ := Aside0.mk (Kd.R_mono (ok' := fun k_ => some k_ ≠ (.slice Ao42 t190.length co42 : Value).ownBlock ∧ some k_ ≠ (.slice Ao52 t196.length co52 : Value).ownBlock ∧ some k_ ≠ (.slice Ao62 t201.length co62 : Value).ownBlock ∧ some k_ ≠ (.slice Ao113 t213.length co113 : Value).ownBlock ∧ some k_ ≠ (.slice Ao117 t218.length co117 : Value).ownBlock) (Kd.R_keptB (HO_211001.out) hkp (fun k_ hk_ hs_ => (hk_.2.2.1) hs_)) (fun k_ hk_ => ⟨hk_.1.1, hk_.1.2.1, hk_.1.2.2.1, hk_.1.2.2.2.1, hk_.1.2.2.2.2⟩)); have n4_ := Aside0.mk (blk_kept (by (with_reducible repeat (first | refine blk_drewN ?_ _ | refine blk_drew ?_ | refine blk_alloc ?_ _)); exact BK177.out) hkp (fun hs_ => (fun e_ => (Kd.R_ne HO_205001.out BK177.out (by decide)) e_) hs_)); have n5_ := Aside0.mk (blk_kept (by (with_reducible repeat (first | refine blk_drewN ?_ _ | refine blk_drew ?_ | refine blk_alloc ?_ _)); exact BK178.out) hkp (fun hs_ => (fun e_ => (Kd.R_ne HO_205001.out BK178.out (by decide)) e_) hs_)); have n6_ := Aside0.mk (blk_kept (by (with_reducible repeat (first | refine blk_drewN ?_ _ | refine blk_drew ?_ | refine blk_alloc ?_ _)); exact BK194.out) hkp (fun hs_ => (fun e_ => (Kd.R_ne HO_205001.out BK194.out (by decide)) e_) hs_)); have n7_ := Aside0.mk (blk_kept (by (with_reducible repeat (first | refine blk_drewN ?_ _ | refine blk_drew ?_ | refine blk_alloc ?_ _)); exact BK199.out) hkp (fun hs_ => (fun e_ => (Kd.R_ne HO_205001.out BK199.out (by decide)) e_) hs_)); have n8_ := Aside0.mk (blk_kept (by (with_reducible repeat (first | refine blk_drewN ?_ _ | refine blk_drew ?_ | refine blk_alloc ?_ _)); exact BK204.out) hkp (fun hs_ => (fun e_ => (Kd.R_ne HO_205001.out BK204.out (by decide)) e_) hs_)); have n9_ := Aside0.mk (blk_kept (by (with_reducible repeat (first | refine blk_drewN ?_ _ | refine blk_drew ?_ | refine blk_alloc ?_ _)); exact BK210.out) hkp (fun hs_ => (fun e_ => (Kd.R_ne HO_205001.out BK210.out (by decide)) e_) hs_)); have n10_ := Aside0.mk (Kd.R_mono (ok' := fun k_ => some k_ ≠ (.slice Ao42 t190.length co42 : Value).ownBlock ∧ some k_ ≠ (.slice Ao52 t196.length co52 : Value).ownBlock ∧ some k_ ≠ (.slice Ao62 t201.length co62 : Value).ownBlock ∧ some k_ ≠ (.slice Ao74 t206.length co74 : Value).ownBlock ∧ some k_ ≠ (.slice Ao117 t218.length co117 : Value).ownBlock) (Kd.R_keptB (HO215.out) hkp (fun k_ hk_ hs_ => (hk_.2.2.1) hs_)) (fun k_ hk_ => ⟨hk_.1.1, hk_.1.2.1, hk_.1.2.2.1, hk_.1.2.2.2.1, hk_.1.2.2.2.2⟩)); have n11_ := Aside0.mk (Kd.R_mono (ok' := fun k_ => some k_ ≠ (.slice Ao42 t190.length co42 : Value).ownBlock ∧ some k_ ≠ (.slice Ao52 t196.length co52 : Value).ownBlock ∧ some k_ ≠ (.slice Ao62 t201.length co62 : Value).ownBlock ∧ some k_ ≠ (.slice Ao74 t206.length co74 : Value).ownBlock ∧ some k_ ≠ (.slice Ao113 t213.length co113 : Value).ownBlock) (Kd.R_keptB (HO220.out) hkp (fun k_ hk_ hs_ => (hk_.2.2.1) hs_)) (fun k_ hk_ => ⟨hk_.1.1, hk_.1.2.1, hk_.1.2.2.1, hk_.1.2.2.2.1, hk_.1.2.2.2.2⟩)); have n12_ := Aside0.mk (hb); clear HO_195001; clear HO_200001; clear HO_205001; clear HO_211001; clear BK177; clear BK178; clear BK194; clear BK199; clear BK204; clear BK210; clear HO215; clear HO220; clear HB; have HO_195001 := n0_; have HO_200001 := n1_; have HO_205001 := n2_; have HO_211001 := n3_; have BK177 := n4_; have BK178 := n5_; have BK194 := n6_; have BK199 := n7_; have BK204 := n8_; have BK210 := n9_; have HO215 := n10_; have HO220 := n11_; have HB := n12_; clear n0_ n1_ n2_ n3_ n4_ n5_ n6_ n7_ n8_ n9_ n10_ n11_ n12_; (try clear hb); (try clear hkp); (try clear hy0)))
          (try simp only [Act.put, List.setIfInBounds_toArray, List.set_cons_zero, List.set_cons_succ])
          go_cut [82] (fun v82 wc => ∃ (kq : Nat) (x82_109 : Bool), v82 = .bool x82_109 ∧ Aside0 (laws_FnExactMulMatrices.j1 kq t193 x82_109 a0_0 l0_1 a1_0 l1_1 t189 t190 t205 t206 = some r) ∧ Aside0 (kq ≤ kj24) ∧ Aside0 (Kd.R (Kd.int .i64) 2 wc w.heap.size (fun k_ => some k_ ≠ ((.slice Ao52 t196.length co52) : Value).ownBlock ∧ some k_ ≠ ((.slice Ao62 t201.length co62) : Value).ownBlock ∧ some k_ ≠ ((.slice Ao74 t206.length co74) : Value).ownBlock) (.slice Ao42 t190.length co42) t190) ∧ Aside0 (Kd.R (Kd.int .i64) 2 wc w.heap.size (fun k_ => some k_ ≠ ((.slice Ao42 t190.length co42) : Value).ownBlock ∧ some k_ ≠ ((.slice Ao62 t201.length co62) : Value).ownBlock ∧ some k_ ≠ ((.slice Ao74 t206.length co74) : Value).ownBlock) (.slice Ao52 t196.length co52) t223) ∧ Aside0 (Kd.R (Kd.int .i64) 2 wc w.heap.size (fun k_ => some k_ ≠ ((.slice Ao42 t190.length co42) : Value).ownBlock ∧ some k_ ≠ ((.slice Ao52 t196.length co52) : Value).ownBlock ∧ some k_ ≠ ((.slice Ao74 t206.length co74) : Value).ownBlock) (.slice Ao62 t201.length co62) t225) ∧ Aside0 (Kd.R (Kd.int .i64) 2 wc w.heap.size (fun k_ => some k_ ≠ ((.slice Ao42 t190.length co42) : Value).ownBlock ∧ some k_ ≠ ((.slice Ao52 t196.length co52) : Value).ownBlock ∧ some k_ ≠ ((.slice Ao62 t201.length co62) : Value).ownBlock) (.slice Ao74 t206.length co74) t206) ∧ Aside0 (wc.heap[gb177]? = some (.cells #[.int .i64 a0_0, (.slice A0_1 l0_1.length c0_1)] 41 (0, 0))) ∧ Aside0 (wc.heap[gb178]? = some (.cells #[.int .i64 a1_0, (.slice A1_1 l1_1.length c1_1)] 41 (0, 0))) ∧ Aside0 (wc.heap[gb194]? = some (.cells #[.int .i64 t189, (.slice Ao42 t190.length co42)] 33 (0, 0))) ∧ Aside0 (wc.heap[gb199]? = some (.cells #[.int .i64 t195, (.slice Ao52 t196.length co52)] 33 (0, 0))) ∧ Aside0 (wc.heap[gb204]? = some (.cells #[.int .i64 t200, (.slice Ao62 t201.length co62)] 33 (0, 0))) ∧ Aside0 (wc.heap[gb210]? = some (.cells #[.int .i64 t205, (.slice Ao74 t206.length co74)] 33 (0, 0))) ∧ Aside0 (Below w.heap.size w wc))
          case first =>
            have H := HC110.out
            clear HC110
            by_cases c132 : t224 < 0
            · rw [if_pos c132] at H
              have c132b0 : decide (t224 < 0) = true := decide_eq_true c132
              clear c132
              (first | rw [c132b0] | (simp only [i64_w, i32_w]; rw [c132b0]) | rw [c132b8] | skip)
              have H' := Aside0.mk H
              clear H
              go_wp2
              go_meet
              case rel => exact ⟨_, (true), (by first | rfl | (simp; done) | (simp [*]; done)), H', ⟨by have := HJ24.out; first | omega | exact Nat.le_refl _⟩, ⟨by (with_reducible repeat (first | apply Kd.R_alloc | apply Kd.R_drewN | apply Kd.R_drew)); exact Kd.R_mono HO_195001.out (fun _ hk => ⟨hk.1, ⟨hk.2.1, hk.2.2.1⟩⟩)⟩, ⟨by (with_reducible repeat (first | apply Kd.R_alloc | apply Kd.R_drewN | apply Kd.R_drew)); exact Kd.R_mono HO_200001.out (fun _ hk => ⟨hk.1, ⟨hk.2.1, hk.2.2.1⟩⟩)⟩, ⟨by (with_reducible repeat (first | apply Kd.R_alloc | apply Kd.R_drewN | apply Kd.R_drew)); exact Kd.R_mono HO_205001.out (fun _ hk => ⟨hk.1, ⟨hk.2.1, hk.2.2.1⟩⟩)⟩, ⟨by (with_reducible repeat (first | apply Kd.R_alloc | apply Kd.R_drewN | apply Kd.R_drew)); exact Kd.R_mono HO_211001.out (fun _ hk => ⟨hk.1, ⟨hk.2.1, hk.2.2.1⟩⟩)⟩, ⟨by (with_reducible repeat (first | refine blk_drewN ?_ _ | refine blk_drew ?_ | refine blk_alloc ?_ _)); exact BK177.out⟩, ⟨by (with_reducible repeat (first | refine blk_drewN ?_ _ | refine blk_drew ?_ | refine blk_alloc ?_ _)); exact BK178.out⟩, ⟨by (with_reducible repeat (first | refine blk_drewN ?_ _ | refine blk_drew ?_ | refine blk_alloc ?_ _)); exact BK194.out⟩, ⟨by (with_reducible repeat (first | refine blk_drewN ?_ _ | refine blk_drew ?_ | refine blk_alloc ?_ _)); exact BK199.out⟩, ⟨by (with_reducible repeat (first | refine blk_drewN ?_ _ | refine blk_drew ?_ | refine blk_alloc ?_ _)); exact BK204.out⟩, ⟨by (with_reducible repeat (first | refine blk_drewN ?_ _ | refine blk_drew ?_ | refine blk_alloc ?_ _)); exact BK210.out⟩, ⟨by repeat (first | (with_reducible first | exact HB.out | apply below_alloc | apply pw_below_drewN | apply below_drew1 | refine below_set ?_ GE177.out | refine below_set ?_ GE178.out | refine below_set ?_ GE194.out | refine below_set ?_ GE199.out | refine below_set ?_ GE204.out | refine below_set ?_ GE210.out) | exact HB.out)⟩⟩
            · rw [if_neg c132] at H
              have c132b0 : decide (t224 < 0) = false := decide_eq_false c132
              clear c132
              (first | rw [c132b0] | (simp only [i64_w, i32_w]; rw [c132b0]) | rw [c132b8] | skip)
              replace H := Option.bind_eq_some_iff.mp H
              obtain ⟨t226, A1330, H⟩ := H
              replace H : (if t226 = true then (laws_FnExactMulMatrices.j1 kj24 t193 (t209 != t193) a0_0 l0_1 a1_0 l1_1 t189 t190 t205 t206) else (laws_FnExactMulMatrices.j1 kj24 t193 true a0_0 l0_1 a1_0 l1_1 t189 t190 t205 t206)) = some r := H
              have A133 := Aside0.mk A1330
              clear A1330
              by_cases c134 : t226 = true
              · subst c134
                have H1 : (laws_FnExactMulMatrices.j1 kj24 t193 (t209 != t193) a0_0 l0_1 a1_0 l1_1 t189 t190 t205 t206) = some r := by rw [if_pos rfl] at H; exact H
                clear H
                have H := H1
                clear H1
                have H' := Aside0.mk H
                clear H
                have hnb135 := NB210_177.out
                have hnc135 := NB177_210.out
                have hnb136 := NB210_178.out
                have hnc136 := NB178_210.out
                have hnb137 := NB210_194.out
                have hnc137 := NB194_210.out
                have hnb138 := NB210_199.out
                have hnc138 := NB199_210.out
                have hnb139 := NB210_204.out
                have hnc139 := NB204_210.out
                have hcz140_0 : w131.cell? ⟨gb210, 0, none⟩ = some (.int .i64 t205) := (blk_cell BK210.out 0).trans rfl
                have hcz140_1 : w131.cell? ⟨gb210, 1, none⟩ = some (.slice Ao74 t206.length co74) := (blk_cell BK210.out 1).trans rfl
                have hfz140_0 := blk_frozen BK210.out 0
                have hfz140_1 := blk_frozen BK210.out 1
                have hnb141 := NB194_177.out
                have hnc141 := NB177_194.out
                have hnb142 := NB194_178.out
                have hnc142 := NB178_194.out
                have hnb143 := NB194_199.out
                have hnc143 := NB199_194.out
                have hnb144 := NB194_204.out
                have hnc144 := NB204_194.out
                have hcz145_0 : w131.cell? ⟨gb194, 0, none⟩ = some (.int .i64 t189) := (blk_cell BK194.out 0).trans rfl
                have hcz145_1 : w131.cell? ⟨gb194, 1, none⟩ = some (.slice Ao42 t190.length co42) := (blk_cell BK194.out 1).trans rfl
                have hfz145_0 := blk_frozen BK194.out 0
                have hfz145_1 := blk_frozen BK194.out 1
                go_wp2_with (first | (go_at_call 28; (with_reducible refine (laws_eqMatrix.calls kj24 t205 _ _ t206 t189 _ _ t190 true _ ?side1 ?side2 ?side3 ?side4 A133.out).mono ?_); (case side1 => repeat (first | exact (Kd.R_reads' HO_211001.out).2.2 | (with_reducible refine Kd.C_alloc ?_ _) | (with_reducible refine Kd.C_drewN ?_ _) | (with_reducible refine Kd.C_drew ?_))); (case side2 => exact (Kd.R_reads' HO_211001.out).2.1); (case side3 => repeat (first | exact (Kd.R_reads' HO_195001.out).2.2 | (with_reducible refine Kd.C_alloc ?_ _) | (with_reducible refine Kd.C_drewN ?_ _) | (with_reducible refine Kd.C_drew ?_))); (case side4 => exact (Kd.R_reads' HO_195001.out).2.1); rintro e w146 ⟨rfl, hb⟩; have n0_ := Aside0.mk (Kd.R_below (by (with_reducible repeat (first | apply Kd.R_alloc | apply Kd.R_drewN | apply Kd.R_drew)); exact HO_195001.out) hb); have n1_ := Aside0.mk (Kd.R_below (by (with_reducible repeat (first | apply Kd.R_alloc | apply Kd.R_drewN | apply Kd.R_drew)); exact HO_200001.out) hb); have n2_ := Aside0.mk (Kd.R_below (by (with_reducible repeat (first | apply Kd.R_alloc | apply Kd.R_drewN | apply Kd.R_drew)); exact HO_205001.out) hb); have n3_ := Aside0.mk (Kd.R_below (by (with_reducible repeat (first | apply Kd.R_alloc | apply Kd.R_drewN | apply Kd.R_drew)); exact HO_211001.out) hb); have n4_ := Aside0.mk (Kd.R_below (by (with_reducible repeat (first | apply Kd.R_alloc | apply Kd.R_drewN | apply Kd.R_drew)); exact HO215.out) hb); have n5_ := Aside0.mk (Kd.R_below (by (with_reducible repeat (first | apply Kd.R_alloc | apply Kd.R_drewN | apply Kd.R_drew)); exact HO220.out) hb); have n6_ := Aside0.mk (blk_below (g := gb177) (o := .cells #[.int .i64 a0_0, .slice A0_1 l0_1.length c0_1] 41 (0, 0)) (by (with_reducible repeat (first | refine blk_drewN ?_ _ | refine blk_drew ?_ | refine blk_alloc ?_ _)); exact BK177.out) hb); have n7_ := Aside0.mk (blk_below (g := gb178) (o := .cells #[.int .i64 a1_0, .slice A1_1 l1_1.length c1_1] 41 (0, 0)) (by (with_reducible repeat (first | refine blk_drewN ?_ _ | refine blk_drew ?_ | refine blk_alloc ?_ _)); exact BK178.out) hb); have n8_ := Aside0.mk (blk_below (g := gb194) (o := .cells #[.int .i64 t189, .slice Ao42 t190.length co42] 33 (0, 0)) (by (with_reducible repeat (first | refine blk_drewN ?_ _ | refine blk_drew ?_ | refine blk_alloc ?_ _)); exact BK194.out) hb); have n9_ := Aside0.mk (blk_below (g := gb199) (o := .cells #[.int .i64 t195, .slice Ao52 t196.length co52] 33 (0, 0)) (by (with_reducible repeat (first | refine blk_drewN ?_ _ | refine blk_drew ?_ | refine blk_alloc ?_ _)); exact BK199.out) hb); have n10_ := Aside0.mk (blk_below (g := gb204) (o := .cells #[.int .i64 t200, .slice Ao62 t201.length co62] 33 (0, 0)) (by (with_reducible repeat (first | refine blk_drewN ?_ _ | refine blk_drew ?_ | refine blk_alloc ?_ _)); exact BK204.out) hb); have n11_ := Aside0.mk (blk_below (g := gb210) (o := .cells #[.int .i64 t205, .slice Ao74 t206.length co74] 33 (0, 0)) (by (with_reducible repeat (first | refine blk_drewN ?_ _ | refine blk_drew ?_ | refine blk_alloc ?_ _)); exact BK210.out) hb); have n12_ := Aside0.mk (below_step (by repeat (first | (with_reducible first | exact HB.out | apply below_alloc | apply pw_below_drewN | apply below_drew1 | refine below_set ?_ GE177.out | refine below_set ?_ GE178.out | refine below_set ?_ GE194.out | refine below_set ?_ GE199.out | refine below_set ?_ GE204.out | refine below_set ?_ GE210.out) | exact HB.out)) hb); clear HO_195001; clear HO_200001; clear HO_205001; clear HO_211001; clear HO215; clear HO220; clear BK177; clear BK178; clear BK194; clear BK199; clear BK204; clear BK210; clear HB; have HO_195001 := n0_; have HO_200001 := n1_; have HO_205001 := n2_; have HO_211001 := n3_; have HO215 := n4_; have HO220 := n5_; have BK177 := n6_; have BK178 := n7_; have BK194 := n8_; have BK199 := n9_; have BK204 := n10_; have BK210 := n11_; have HB := n12_; clear n0_ n1_ n2_ n3_ n4_ n5_ n6_ n7_ n8_ n9_ n10_ n11_ n12_; (try clear hb); (try clear hb2); (try clear hk); (try clear hi)))
                go_meet
                case rel => exact ⟨_, ((t209 != t193)), (by first | rfl | (simp; done) | (simp [*]; done)), H', ⟨by have := HJ24.out; first | omega | exact Nat.le_refl _⟩, ⟨by (with_reducible repeat (first | apply Kd.R_alloc | apply Kd.R_drewN | apply Kd.R_drew)); exact Kd.R_mono HO_195001.out (fun _ hk => ⟨hk.1, ⟨hk.2.1, hk.2.2.1⟩⟩)⟩, ⟨by (with_reducible repeat (first | apply Kd.R_alloc | apply Kd.R_drewN | apply Kd.R_drew)); exact Kd.R_mono HO_200001.out (fun _ hk => ⟨hk.1, ⟨hk.2.1, hk.2.2.1⟩⟩)⟩, ⟨by (with_reducible repeat (first | apply Kd.R_alloc | apply Kd.R_drewN | apply Kd.R_drew)); exact Kd.R_mono HO_205001.out (fun _ hk => ⟨hk.1, ⟨hk.2.1, hk.2.2.1⟩⟩)⟩, ⟨by (with_reducible repeat (first | apply Kd.R_alloc | apply Kd.R_drewN | apply Kd.R_drew)); exact Kd.R_mono HO_211001.out (fun _ hk => ⟨hk.1, ⟨hk.2.1, hk.2.2.1⟩⟩)⟩, ⟨by (with_reducible repeat (first | refine blk_drewN ?_ _ | refine blk_drew ?_ | refine blk_alloc ?_ _)); exact BK177.out⟩, ⟨by (with_reducible repeat (first | refine blk_drewN ?_ _ | refine blk_drew ?_ | refine blk_alloc ?_ _)); exact BK178.out⟩, ⟨by (with_reducible repeat (first | refine blk_drewN ?_ _ | refine blk_drew ?_ | refine blk_alloc ?_ _)); exact BK194.out⟩, ⟨by (with_reducible repeat (first | refine blk_drewN ?_ _ | refine blk_drew ?_ | refine blk_alloc ?_ _)); exact BK199.out⟩, ⟨by (with_reducible repeat (first | refine blk_drewN ?_ _ | refine blk_drew ?_ | refine blk_alloc ?_ _)); exact BK204.out⟩, ⟨by (with_reducible repeat (first | refine blk_drewN ?_ _ | refine blk_drew ?_ | refine blk_alloc ?_ _)); exact BK210.out⟩, ⟨by repeat (first | (with_reducible first | exact HB.out | apply below_alloc | apply pw_below_drewN | apply below_drew1 | refine below_set ?_ GE177.out | refine below_set ?_ GE178.out | refine below_set ?_ GE194.out | refine below_set ?_ GE199.out | refine below_set ?_ GE204.out | refine below_set ?_ GE210.out) | exact HB.out)⟩⟩
              · replace c134 := Bool.eq_false_iff.mpr c134
                subst c134
                have H1 : (laws_FnExactMulMatrices.j1 kj24 t193 true a0_0 l0_1 a1_0 l1_1 t189 t190 t205 t206) = some r := by rw [if_neg (show ¬ (false = true) by decide)] at H; exact H
                clear H
                have H := H1
                clear H1
                have H' := Aside0.mk H
                clear H
                have hnb147 := NB210_177.out
                have hnc147 := NB177_210.out
                have hnb148 := NB210_178.out
                have hnc148 := NB178_210.out
                have hnb149 := NB210_194.out
                have hnc149 := NB194_210.out
                have hnb150 := NB210_199.out
                have hnc150 := NB199_210.out
                have hnb151 := NB210_204.out
                have hnc151 := NB204_210.out
                have hcz152_0 : w131.cell? ⟨gb210, 0, none⟩ = some (.int .i64 t205) := (blk_cell BK210.out 0).trans rfl
                have hcz152_1 : w131.cell? ⟨gb210, 1, none⟩ = some (.slice Ao74 t206.length co74) := (blk_cell BK210.out 1).trans rfl
                have hfz152_0 := blk_frozen BK210.out 0
                have hfz152_1 := blk_frozen BK210.out 1
                have hnb153 := NB194_177.out
                have hnc153 := NB177_194.out
                have hnb154 := NB194_178.out
                have hnc154 := NB178_194.out
                have hnb155 := NB194_199.out
                have hnc155 := NB199_194.out
                have hnb156 := NB194_204.out
                have hnc156 := NB204_194.out
                have hcz157_0 : w131.cell? ⟨gb194, 0, none⟩ = some (.int .i64 t189) := (blk_cell BK194.out 0).trans rfl
                have hcz157_1 : w131.cell? ⟨gb194, 1, none⟩ = some (.slice Ao42 t190.length co42) := (blk_cell BK194.out 1).trans rfl
                have hfz157_0 := blk_frozen BK194.out 0
                have hfz157_1 := blk_frozen BK194.out 1
                go_wp2_with (first | (go_at_call 28; (with_reducible refine (laws_eqMatrix.calls kj24 t205 _ _ t206 t189 _ _ t190 false _ ?side1 ?side2 ?side3 ?side4 A133.out).mono ?_); (case side1 => repeat (first | exact (Kd.R_reads' HO_211001.out).2.2 | (with_reducible refine Kd.C_alloc ?_ _) | (with_reducible refine Kd.C_drewN ?_ _) | (with_reducible refine Kd.C_drew ?_))); (case side2 => exact (Kd.R_reads' HO_211001.out).2.1); (case side3 => repeat (first | exact (Kd.R_reads' HO_195001.out).2.2 | (with_reducible refine Kd.C_alloc ?_ _) | (with_reducible refine Kd.C_drewN ?_ _) | (with_reducible refine Kd.C_drew ?_))); (case side4 => exact (Kd.R_reads' HO_195001.out).2.1); rintro e w158 ⟨rfl, hb⟩; have n0_ := Aside0.mk (Kd.R_below (by (with_reducible repeat (first | apply Kd.R_alloc | apply Kd.R_drewN | apply Kd.R_drew)); exact HO_195001.out) hb); have n1_ := Aside0.mk (Kd.R_below (by (with_reducible repeat (first | apply Kd.R_alloc | apply Kd.R_drewN | apply Kd.R_drew)); exact HO_200001.out) hb); have n2_ := Aside0.mk (Kd.R_below (by (with_reducible repeat (first | apply Kd.R_alloc | apply Kd.R_drewN | apply Kd.R_drew)); exact HO_205001.out) hb); have n3_ := Aside0.mk (Kd.R_below (by (with_reducible repeat (first | apply Kd.R_alloc | apply Kd.R_drewN | apply Kd.R_drew)); exact HO_211001.out) hb); have n4_ := Aside0.mk (Kd.R_below (by (with_reducible repeat (first | apply Kd.R_alloc | apply Kd.R_drewN | apply Kd.R_drew)); exact HO215.out) hb); have n5_ := Aside0.mk (Kd.R_below (by (with_reducible repeat (first | apply Kd.R_alloc | apply Kd.R_drewN | apply Kd.R_drew)); exact HO220.out) hb); have n6_ := Aside0.mk (blk_below (g := gb177) (o := .cells #[.int .i64 a0_0, .slice A0_1 l0_1.length c0_1] 41 (0, 0)) (by (with_reducible repeat (first | refine blk_drewN ?_ _ | refine blk_drew ?_ | refine blk_alloc ?_ _)); exact BK177.out) hb); have n7_ := Aside0.mk (blk_below (g := gb178) (o := .cells #[.int .i64 a1_0, .slice A1_1 l1_1.length c1_1] 41 (0, 0)) (by (with_reducible repeat (first | refine blk_drewN ?_ _ | refine blk_drew ?_ | refine blk_alloc ?_ _)); exact BK178.out) hb); have n8_ := Aside0.mk (blk_below (g := gb194) (o := .cells #[.int .i64 t189, .slice Ao42 t190.length co42] 33 (0, 0)) (by (with_reducible repeat (first | refine blk_drewN ?_ _ | refine blk_drew ?_ | refine blk_alloc ?_ _)); exact BK194.out) hb); have n9_ := Aside0.mk (blk_below (g := gb199) (o := .cells #[.int .i64 t195, .slice Ao52 t196.length co52] 33 (0, 0)) (by (with_reducible repeat (first | refine blk_drewN ?_ _ | refine blk_drew ?_ | refine blk_alloc ?_ _)); exact BK199.out) hb); have n10_ := Aside0.mk (blk_below (g := gb204) (o := .cells #[.int .i64 t200, .slice Ao62 t201.length co62] 33 (0, 0)) (by (with_reducible repeat (first | refine blk_drewN ?_ _ | refine blk_drew ?_ | refine blk_alloc ?_ _)); exact BK204.out) hb); have n11_ := Aside0.mk (blk_below (g := gb210) (o := .cells #[.int .i64 t205, .slice Ao74 t206.length co74] 33 (0, 0)) (by (with_reducible repeat (first | refine blk_drewN ?_ _ | refine blk_drew ?_ | refine blk_alloc ?_ _)); exact BK210.out) hb); have n12_ := Aside0.mk (below_step (by repeat (first | (with_reducible first | exact HB.out | apply below_alloc | apply pw_below_drewN | apply below_drew1 | refine below_set ?_ GE177.out | refine below_set ?_ GE178.out | refine below_set ?_ GE194.out | refine below_set ?_ GE199.out | refine below_set ?_ GE204.out | refine below_set ?_ GE210.out) | exact HB.out)) hb); clear HO_195001; clear HO_200001; clear HO_205001; clear HO_211001; clear HO215; clear HO220; clear BK177; clear BK178; clear BK194; clear BK199; clear BK204; clear BK210; clear HB; have HO_195001 := n0_; have HO_200001 := n1_; have HO_205001 := n2_; have HO_211001 := n3_; have HO215 := n4_; have HO220 := n5_; have BK177 := n6_; have BK178 := n7_; have BK194 := n8_; have BK199 := n9_; have BK204 := n10_; have BK210 := n11_; have HB := n12_; clear n0_ n1_ n2_ n3_ n4_ n5_ n6_ n7_ n8_ n9_ n10_ n11_ n12_; (try clear hb); (try clear hb2); (try clear hk); (try clear hi)))
                go_meet
                case rel => exact ⟨_, (true), (by first | rfl | (simp; done) | (simp [*]; done)), H', ⟨by have := HJ24.out; first | omega | exact Nat.le_refl _⟩, ⟨by (with_reducible repeat (first | apply Kd.R_alloc | apply Kd.R_drewN | apply Kd.R_drew)); exact Kd.R_mono HO_195001.out (fun _ hk => ⟨hk.1, ⟨hk.2.1, hk.2.2.1⟩⟩)⟩, ⟨by (with_reducible repeat (first | apply Kd.R_alloc | apply Kd.R_drewN | apply Kd.R_drew)); exact Kd.R_mono HO_200001.out (fun _ hk => ⟨hk.1, ⟨hk.2.1, hk.2.2.1⟩⟩)⟩, ⟨by (with_reducible repeat (first | apply Kd.R_alloc | apply Kd.R_drewN | apply Kd.R_drew)); exact Kd.R_mono HO_205001.out (fun _ hk => ⟨hk.1, ⟨hk.2.1, hk.2.2.1⟩⟩)⟩, ⟨by (with_reducible repeat (first | apply Kd.R_alloc | apply Kd.R_drewN | apply Kd.R_drew)); exact Kd.R_mono HO_211001.out (fun _ hk => ⟨hk.1, ⟨hk.2.1, hk.2.2.1⟩⟩)⟩, ⟨by (with_reducible repeat (first | refine blk_drewN ?_ _ | refine blk_drew ?_ | refine blk_alloc ?_ _)); exact BK177.out⟩, ⟨by (with_reducible repeat (first | refine blk_drewN ?_ _ | refine blk_drew ?_ | refine blk_alloc ?_ _)); exact BK178.out⟩, ⟨by (with_reducible repeat (first | refine blk_drewN ?_ _ | refine blk_drew ?_ | refine blk_alloc ?_ _)); exact BK194.out⟩, ⟨by (with_reducible repeat (first | refine blk_drewN ?_ _ | refine blk_drew ?_ | refine blk_alloc ?_ _)); exact BK199.out⟩, ⟨by (with_reducible repeat (first | refine blk_drewN ?_ _ | refine blk_drew ?_ | refine blk_alloc ?_ _)); exact BK204.out⟩, ⟨by (with_reducible repeat (first | refine blk_drewN ?_ _ | refine blk_drew ?_ | refine blk_alloc ?_ _)); exact BK210.out⟩, ⟨by repeat (first | (with_reducible first | exact HB.out | apply below_alloc | apply pw_below_drewN | apply below_drew1 | refine below_set ?_ GE177.out | refine below_set ?_ GE178.out | refine below_set ?_ GE194.out | refine below_set ?_ GE199.out | refine below_set ?_ GE204.out | refine below_set ?_ GE210.out) | exact HB.out)⟩⟩
          case rest =>
            clear HC110
            try clear c1
            try clear c2
            try clear p2
            try clear c8
            try clear c9
            try clear c10
            try clear c11
            try clear c12
            try clear c13
            try clear c14
            try clear c15
            try clear c26
            try clear c28
            try clear c29
            try clear c83
            try clear c84
            try clear c85
            try clear c86
            try clear c89
            try clear c90
            try clear c91
            try clear c92
            try clear c93
            try clear c95
            try clear c96
            try clear c97
            try clear c98
            try clear c101
            try clear c104
            try clear c107
            try clear c119
            try clear c120
            try clear c121
            try clear c122
            try clear c123
            try clear c126
            try clear c127
            try clear c128
            try clear c129
            try clear c132
            try clear c132b0
            try clear c134
            try clear c135
            try clear c136
            try clear c137
            try clear c138
            try clear c139
            try clear c141
            try clear c142
            try clear c143
            try clear c144
            try clear c147
            try clear c148
            try clear c149
            try clear c150
            try clear c151
            try clear c153
            try clear c154
            try clear c155
            try clear c156
            try clear hcz124_0
            try clear hcz124_1
            try clear hcz130_0
            try clear hcz130_1
            try clear hcz140_0
            try clear hcz140_1
            try clear hcz145_0
            try clear hcz145_1
            try clear hcz152_0
            try clear hcz152_1
            try clear hcz157_0
            try clear hcz157_1
            try clear hcz45_0
            try clear hcz45_1
            try clear hcz51_0
            try clear hcz51_1
            try clear hcz54_0
            try clear hcz54_1
            try clear hcz61_0
            try clear hcz61_1
            try clear hcz64_0
            try clear hcz64_1
            try clear hcz65_0
            try clear hcz65_1
            try clear hcz73_0
            try clear hcz73_1
            try clear hcz82_0
            try clear hcz82_1
            try clear hcz87_0
            try clear hcz87_1
            try clear hcz94_0
            try clear hcz94_1
            try clear hcz99_0
            try clear hcz99_1
            try clear hfz124_0
            try clear hfz124_1
            try clear hfz130_0
            try clear hfz130_1
            try clear hfz140_0
            try clear hfz140_1
            try clear hfz145_0
            try clear hfz145_1
            try clear hfz152_0
            try clear hfz152_1
            try clear hfz157_0
            try clear hfz157_1
            try clear hfz45_0
            try clear hfz45_1
            try clear hfz51_0
            try clear hfz51_1
            try clear hfz54_0
            try clear hfz54_1
            try clear hfz61_0
            try clear hfz61_1
            try clear hfz64_0
            try clear hfz64_1
            try clear hfz65_0
            try clear hfz65_1
            try clear hfz73_0
            try clear hfz73_1
            try clear hfz82_0
            try clear hfz82_1
            try clear hfz87_0
            try clear hfz87_1
            try clear hfz94_0
            try clear hfz94_1
            try clear hfz99_0
            try clear hfz99_1
            rename_i zz2_1 zz2_2 zz2_3 zz2_4 zz2_5 zz2_6 zz2_7 zz2_8 zz2_9 zz2_10 zz2_11 zz2_12 zz2_13 zz2_14 zz2_15 zz2_16 zz2_17 zz2_18 zz2_19 zz2_20 zz2_21 zz2_22 zz2_23 zz2_24 zz2_25 zz2_26 zz2_27 zz2_28 zz2_29 zz2_30 zz2_31 zz2_32 zz2_33 zz2_34 zz2_35 zz2_36 zz2_37 zz2_38 zz2_39 zz2_40 zz2_41 zz2_42 zz2_43 zz2_44 zz2_45 zz2_46 zz2_47 zz2_48 zz2_49 zz2_50 zz2_51 zz2_52 zz2_53 zz2_54 zz2_55 zz2_56 zz2_57 zz2_58 zz2_59 zz2_60 zz2_61 zz2_62 zz2_63 zz2_64 zz2_65 zz2_66 zz2_67 zz2_68 zz2_69 zz2_70 zz2_71 zz2_72 zz2_73 zz2_74 zz2_75 zz2_76 zz2_77 zz2_78 zz2_79 zz2_80 zz2_81 zz2_82 zz2_83 zz2_84 zz2_85 zz2_86 zz2_87 zz2_88 zz2_89 zz2_90 zz2_91 zz2_92 zz2_93 zz2_94 zz2_95 zz2_96 zz2_97 zz2_98 zz2_99 zz2_100 zz2_101 zz2_102 zz2_103 zz2_104 zz2_105 zz2_106 zz2_107 zz2_108 zz2_109 zz2_110 zz2_111 zz2_112 zz2_113 zz2_114 zz2_115 zz2_116 zz2_117 zz2_118 zz2_119
            revert k a0_0 A0_1 c0_1 l0_1 a1_0 A1_1 c1_1 l1_1 r w hu41 hu33 HR0_1 HC0_1 HR1_1 HC1_1 t179 A3 c4b0 t180 A10 c11b0 t181 t182 A19 t185 t186 A20 t189 t190 t193 A21 t195 t196 A22 t200 t201 A23 t205 t206 t209 A24 zz1_1 gb177 w26 GW177 GE177 gb178 w27 GW178 GE178 NB177_178 NB178_177 hnb28 hnc28 hcz29_0 hcz29_1 hfz29_0 hfz29_1 w30 hcz31_0 hcz31_1 hfz31_0 hfz31_1 w32 HT_ HW_ w33 zz1_2 v183 v187 gb194 w40 hS_ GW194 GE194 NB177_194 NB194_177 NB178_194 NB194_178 zz1_3 Ao42 co42 hs41 hfs41 hns41_0 hns41_1 hms41_0 hms41_1 hs43 hfs43 hns43_0 hns43_1 hms43_0 hms43_1 zz2_1 hnb44 hnc44 w46 gb199 w47 GW199 GE199 NB177_199 NB199_177 NB178_199 NB199_178 NB194_199 NB199_194 hnb48 hnc48 hnb49 hnc49 hnb50 hnc50 Ao52 co52 hnb53 hnc53 w55 gb204 w56 GW204 GE204 NB177_204 NB204_177 NB178_204 NB204_178 NB194_204 NB204_194 NB199_204 NB204_199 hnb57 hnc57 hnb58 hnc58 hnb59 hnc59 hnb60 hnc60 Ao62 co62 w63 w66 gb210 w67 zz2_2 zz2_3 zz2_4 zz2_5 zz2_6 zz2_7 zz2_8 GW210 GE210 NB177_210 NB210_177 NB178_210 NB210_178 NB194_210 NB210_194 NB199_210 NB210_199 NB204_210 NB210_204 hnb68 hnc68 hnb69 hnc69 hnb70 hnc70 hnb71 hnc71 hnb72 hnc72 Ao74 co74 HO184 HO188 HO192 HO198 HO203 HO208 zz2_9 zz2_10 zz2_11 zz2_12 zz2_13 zz2_14 zz2_15 zz2_16 zz2_17 zz2_18 zz2_19 zz2_20 zz2_21 zz2_22 zz2_23 zz2_24 zz2_25 zz2_26 zz2_27 zz2_28 zz2_29 zz2_30 zz2_31 zz2_32 zz2_33 zz2_34 zz2_35 zz2_36 zz2_37 zz2_38 zz2_39 zz2_40 zz2_41 zz2_42 zz2_43 zz2_44 zz2_45 zz2_46 zz2_47 zz2_48 zz2_49 zz2_50 zz2_51 zz2_52 zz2_53 zz2_54 zz2_55 zz2_56 zz2_57 zz2_58 zz2_59 zz2_60 zz2_61 zz2_62 zz2_63 zz2_64 zz2_65 zz2_66 zz2_67 zz2_68 zz2_69 zz2_70 zz2_71 zz2_72 zz2_73 zz2_74 zz2_75 zz2_76 zz2_77 zz2_78 zz2_79 zz2_80 zz2_81 zz2_82 zz2_83 zz2_84 zz2_85 zz2_86 zz2_87 zz2_88 zz2_89 zz2_90 zz2_91 zz2_92 zz2_93 zz2_94 zz2_95 zz2_96 zz2_97 zz2_98 zz2_99 zz2_100 zz2_101 zz2_102 zz2_103 zz2_104 zz2_105 zz2_106 zz2_107 zz2_108 zz2_109 zz2_110 kj24 HJ24 t212 t213 A102 A103 t217 t218 A105 A106 t222 t223 A108 t224 t225 A109 w111 zz2_111 w112 Ao113 co113 zz2_112 w114 zz2_113 w115 zz2_114 w116 Ao117 co117 zz2_115 w118 hHeld hnb119 hnc119 hnb120 hnc120 hnb121 hnc121 hnb122 hnc122 hnb123 hnc123 w125 hnb126 hnc126 hnb127 hnc127 hnb128 hnc128 hnb129 hnc129 w131 HO_195001 HO_200001 HO_205001 HO_211001 BK177 BK178 BK194 BK199 BK204 BK210 HO215 HO220 HB zz2_116 zz2_117 zz2_118 zz2_119 wc u17 u18 u19 u20 u21 u22 u23 u24 u25 u26 u27 u28 u29 u30 u31 u32 u33 u34 u35 u36 u37 u38 u39 u40 u41 u42 u43 u44 u45 u46 u47 u48 u49 u50 u51 u52 u53 u54 u55 u56 u57 u58 u59 u60 u61 u62 u63 u64 u65 u66 u67 u68 u69 u70 u71 u72 u73 u74 u75 u76 u77 u78 u79 u80 u81 u82 u83 u84 u85 u86 u87 u88 u89 u90 u91 u92 u93 u94 u95 u96 u97 u98 u99 u100 u101 u102 u103 u104 u105 u106 u107 u108 u109 u110 u111 u112 u113 u114 u115 u116 u117 u118 hcut
            exact HLATER2.out
        · replace c107 := Bool.eq_false_iff.mpr c107
          subst c107
          have H1 : (some false) = some r := by rw [if_neg (show ¬ (false = true) by decide)] at H; exact H
          clear H
          have H := H1
          clear H1
          obtain rfl := Option.some.inj H
          try go_wp2
          have n0_ := Aside0.mk (Kd.R_drew HO_195001.out)
          have n1_ := Aside0.mk (Kd.R_drew HO_200001.out)
          have n2_ := Aside0.mk (Kd.R_drew HO_205001.out)
          have n3_ := Aside0.mk (Kd.R_drew HO_211001.out)
          have n4_ := Aside0.mk (blk_drew BK177.out)
          have n5_ := Aside0.mk (blk_drew BK178.out)
          have n6_ := Aside0.mk (blk_drew BK194.out)
          have n7_ := Aside0.mk (blk_drew BK199.out)
          have n8_ := Aside0.mk (blk_drew BK204.out)
          have n9_ := Aside0.mk (blk_drew BK210.out)
          have n10_ := Aside0.mk (below_drew1 HB.out)
          clear HO_195001
          clear HO_200001
          clear HO_205001
          clear HO_211001
          clear BK177
          clear BK178
          clear BK194
          clear BK199
          clear BK204
          clear BK210
          clear HB
          have HO_195001 := n0_
          have HO_200001 := n1_
          have HO_205001 := n2_
          have HO_211001 := n3_
          have BK177 := n4_
          have BK178 := n5_
          have BK194 := n6_
          have BK199 := n7_
          have BK204 := n8_
          have BK210 := n9_
          have HB := n10_
          clear n0_ n1_ n2_ n3_ n4_ n5_ n6_ n7_ n8_ n9_ n10_
          refine start_ (n := 5) (S := fun w' => w'.cell? ⟨gb199, 0, none⟩ = some (.int .i64 t195) ∧ w'.cell? ⟨gb199, 1, none⟩ = some (.slice Ao52 t196.length co52) ∧ w'.cell? ⟨gb177, 0, none⟩ = some (.int .i64 a0_0) ∧ w'.cell? ⟨gb177, 1, none⟩ = some (.slice A0_1 l0_1.length c0_1)) (ds := []) #[false, false, false, false, false] (by kernel_rfl) rfl rfl ⟨(blk_cell BK199.out 0).trans rfl, (blk_cell BK199.out 1).trans rfl, (blk_cell BK177.out 0).trans rfl, (blk_cell BK177.out 1).trans rfl⟩ (fun hHeld => ?_)
          generalize wc.drew = w264 at HO_195001 HO_200001 HO_205001 HO_211001 BK177 BK178 BK194 BK199 BK204 BK210 HB hHeld ⊢
          refine take_ (i := 0) (N := some 54) (v := ?_) (a' := ?_) #[true, false, false, false, false] rfl rfl (by kernel_rfl) (fun _ _ _ h => h) (Or.inl ⟨by rfl, ?_⟩) hHeld ?_ ?_
          rotate_left
          · rintro w' ⟨s0, s1, s2, s3⟩
            go_simp
            with_reducible rfl
          rotate_left
          · simp only [Act.put, List.setIfInBounds_toArray, List.set_cons_zero, List.set_cons_succ, i64_w, i32_w]
            rfl
          refine take_ (i := 1) (N := some 55) (v := ?_) (a' := ?_) #[true, true, false, false, false] rfl rfl (by kernel_rfl) (fun _ _ _ h => h) (Or.inl ⟨by rfl, ?_⟩) hHeld ?_ ?_
          rotate_left
          · rintro w' ⟨s0, s1, s2, s3⟩
            go_simp
            with_reducible rfl
          rotate_left
          · simp only [Act.put, List.setIfInBounds_toArray, List.set_cons_zero, List.set_cons_succ, i64_w, i32_w]
            rfl
          refine one_ (i := 2) (N := some 56) #[true, true, true, false, false] rfl rfl (by kernel_rfl) (by decide) (fun K hK => ?_)
          refine goes_ Try.func26 (by kernel_rfl) rfl #[.agg #[.int .i64 a0_0, .slice A0_1 l0_1.length c0_1]] (by rfl) rfl rfl (by (try simp only [List.map_toArray, List.map_cons, List.map_nil]); first | done | rfl | (simp only [List.length_drop, List.length_take]; rfl)) ?_
          with_reducible refine (laws_toMatrix.calls kj24 a0_0 _ _ l0_1 t212 t213 _ ?side1 ?side2 A102.out).mono ?_
          (case side1 => repeat (first | exact (Kd.C_below HR0_1.out HB.out) | (with_reducible refine Kd.C_alloc ?_ _) | (with_reducible refine Kd.C_drewN ?_ _) | (with_reducible refine Kd.C_drew ?_)))
          (case side2 => exact HC0_1.out)
          rintro e w265 ⟨v214, rfl, ho0, hb⟩
          refine ⟨_, rfl, ?_⟩
          have n0_ := Aside0.mk (Kd.R_elder' (by (with_reducible repeat (first | apply Kd.R_alloc | apply Kd.R_drewN | apply Kd.R_drew)); exact HO_195001.out) (Kd.R_base ho0) hb)
          have n1_ := Aside0.mk (Kd.R_elder' (by (with_reducible repeat (first | apply Kd.R_alloc | apply Kd.R_drewN | apply Kd.R_drew)); exact HO_200001.out) (Kd.R_base ho0) hb)
          have n2_ := Aside0.mk (Kd.R_elder' (by (with_reducible repeat (first | apply Kd.R_alloc | apply Kd.R_drewN | apply Kd.R_drew)); exact HO_205001.out) (Kd.R_base ho0) hb)
          have n3_ := Aside0.mk (Kd.R_elder' (by (with_reducible repeat (first | apply Kd.R_alloc | apply Kd.R_drewN | apply Kd.R_drew)); exact HO_211001.out) (Kd.R_base ho0) hb)
          have n4_ := Aside0.mk (Kd.R_lower (Kd.R_new' (Kd.R_new' (Kd.R_new' (Kd.R_new' ho0 (Kd.R_lt (by (with_reducible repeat (first | apply Kd.R_alloc | apply Kd.R_drewN | apply Kd.R_drew)); exact HO_195001.out))) (Kd.R_lt (by (with_reducible repeat (first | apply Kd.R_alloc | apply Kd.R_drewN | apply Kd.R_drew)); exact HO_200001.out))) (Kd.R_lt (by (with_reducible repeat (first | apply Kd.R_alloc | apply Kd.R_drewN | apply Kd.R_drew)); exact HO_205001.out))) (Kd.R_lt (by (with_reducible repeat (first | apply Kd.R_alloc | apply Kd.R_drewN | apply Kd.R_drew)); exact HO_211001.out))) (below_size (by repeat (first | (with_reducible first | exact HB.out | apply below_alloc | apply pw_below_drewN | apply below_drew1 | refine below_set ?_ GE177.out | refine below_set ?_ GE178.out | refine below_set ?_ GE194.out | refine below_set ?_ GE199.out | refine below_set ?_ GE204.out | refine below_set ?_ GE210.out) | exact HB.out))))
          have n5_ := Aside0.mk (blk_below (g := gb177) (o := .cells #[.int .i64 a0_0, .slice A0_1 l0_1.length c0_1] 41 (0, 0)) (by (with_reducible repeat (first | refine blk_drewN ?_ _ | refine blk_drew ?_ | refine blk_alloc ?_ _)); exact BK177.out) hb)
          have n6_ := Aside0.mk (blk_below (g := gb178) (o := .cells #[.int .i64 a1_0, .slice A1_1 l1_1.length c1_1] 41 (0, 0)) (by (with_reducible repeat (first | refine blk_drewN ?_ _ | refine blk_drew ?_ | refine blk_alloc ?_ _)); exact BK178.out) hb)
          have n7_ := Aside0.mk (blk_below (g := gb194) (o := .cells #[.int .i64 t189, .slice Ao42 t190.length co42] 33 (0, 0)) (by (with_reducible repeat (first | refine blk_drewN ?_ _ | refine blk_drew ?_ | refine blk_alloc ?_ _)); exact BK194.out) hb)
          have n8_ := Aside0.mk (blk_below (g := gb199) (o := .cells #[.int .i64 t195, .slice Ao52 t196.length co52] 33 (0, 0)) (by (with_reducible repeat (first | refine blk_drewN ?_ _ | refine blk_drew ?_ | refine blk_alloc ?_ _)); exact BK199.out) hb)
          have n9_ := Aside0.mk (blk_below (g := gb204) (o := .cells #[.int .i64 t200, .slice Ao62 t201.length co62] 33 (0, 0)) (by (with_reducible repeat (first | refine blk_drewN ?_ _ | refine blk_drew ?_ | refine blk_alloc ?_ _)); exact BK204.out) hb)
          have n10_ := Aside0.mk (blk_below (g := gb210) (o := .cells #[.int .i64 t205, .slice Ao74 t206.length co74] 33 (0, 0)) (by (with_reducible repeat (first | refine blk_drewN ?_ _ | refine blk_drew ?_ | refine blk_alloc ?_ _)); exact BK210.out) hb)
          have n11_ := Aside0.mk (below_step (by repeat (first | (with_reducible first | exact HB.out | apply below_alloc | apply pw_below_drewN | apply below_drew1 | refine below_set ?_ GE177.out | refine below_set ?_ GE178.out | refine below_set ?_ GE194.out | refine below_set ?_ GE199.out | refine below_set ?_ GE204.out | refine below_set ?_ GE210.out) | exact HB.out)) hb)
          clear HO_195001
          clear HO_200001
          clear HO_205001
          clear HO_211001
          clear BK177
          clear BK178
          clear BK194
          clear BK199
          clear BK204
          clear BK210
          clear HB
          have HO_195001 := n0_
          have HO_200001 := n1_
          have HO_205001 := n2_
          have HO_211001 := n3_
          have HO215 := n4_
          have BK177 := n5_
          have BK178 := n6_
          have BK194 := n7_
          have BK199 := n8_
          have BK204 := n9_
          have BK210 := n10_
          have HB := n11_
          clear n0_ n1_ n2_ n3_ n4_ n5_ n6_ n7_ n8_ n9_ n10_ n11_
          (try clear hb)
          (try clear hb2)
          (try clear hk)
          (try clear hi)
          (try clear ho0)
          obtain ⟨Ao266, co266, eo266⟩ := Kd.R_slice HO215.out
          (first | subst eo266 | (injection eo266 with f1_ f2_ f3_; have f4_ := f1_.symm; have f5_ := f3_.symm; clear f1_ f2_ f3_; subst f4_; subst f5_))
          refine hK.out _ _ ⟨(blk_cell BK199.out 0).trans rfl, (blk_cell BK199.out 1).trans rfl, (blk_cell BK177.out 0).trans rfl, (blk_cell BK177.out 1).trans rfl⟩ (fun hHeld => ?_)
          clear hK K
          refine norm_ (a' := ?_) ?_ ?_
          rotate_left
          · show Act.put _ (some 56) _ = _
            simp only [Act.put, List.setIfInBounds_toArray, List.set_cons_zero, List.set_cons_succ, i64_w, i32_w]
            rfl
          refine one_ (i := 3) (N := some 57) #[true, true, true, true, false] rfl rfl (by kernel_rfl) (by decide) (fun K hK => ?_)
          refine goes_ Try.func28 (by kernel_rfl) rfl #[.agg #[.int .i64 t195, .slice Ao52 t196.length co52], .agg #[.int .i64 t212, .slice Ao266 t213.length co266]] (by rfl) rfl rfl (by (try simp only [List.map_toArray, List.map_cons, List.map_nil]); first | done | rfl | (simp only [List.length_drop, List.length_take]; rfl)) ?_
          with_reducible refine (laws_eqMatrix.calls kj24 t195 _ _ t196 t212 _ _ t213 true _ ?side1 ?side2 ?side3 ?side4 A103.out).mono ?_
          (case side1 => repeat (first | exact (Kd.R_reads' HO_200001.out).2.2 | (with_reducible refine Kd.C_alloc ?_ _) | (with_reducible refine Kd.C_drewN ?_ _) | (with_reducible refine Kd.C_drew ?_)))
          (case side2 => exact (Kd.R_reads' HO_200001.out).2.1)
          (case side3 => repeat (first | exact (Kd.R_reads' HO215.out).2.2 | (with_reducible refine Kd.C_alloc ?_ _) | (with_reducible refine Kd.C_drewN ?_ _) | (with_reducible refine Kd.C_drew ?_)))
          (case side4 => exact (Kd.R_reads' HO215.out).2.1)
          rintro e w267 ⟨rfl, hb⟩
          refine ⟨_, rfl, ?_⟩
          have n0_ := Aside0.mk (Kd.R_below (by (with_reducible repeat (first | apply Kd.R_alloc | apply Kd.R_drewN | apply Kd.R_drew)); exact HO_195001.out) hb)
          have n1_ := Aside0.mk (Kd.R_below (by (with_reducible repeat (first | apply Kd.R_alloc | apply Kd.R_drewN | apply Kd.R_drew)); exact HO_200001.out) hb)
          have n2_ := Aside0.mk (Kd.R_below (by (with_reducible repeat (first | apply Kd.R_alloc | apply Kd.R_drewN | apply Kd.R_drew)); exact HO_205001.out) hb)
          have n3_ := Aside0.mk (Kd.R_below (by (with_reducible repeat (first | apply Kd.R_alloc | apply Kd.R_drewN | apply Kd.R_drew)); exact HO_211001.out) hb)
          have n4_ := Aside0.mk (Kd.R_below (by (with_reducible repeat (first | apply Kd.R_alloc | apply Kd.R_drewN | apply Kd.R_drew)); exact HO215.out) hb)
          have n5_ := Aside0.mk (blk_below (g := gb177) (o := .cells #[.int .i64 a0_0, .slice A0_1 l0_1.length c0_1] 41 (0, 0)) (by (with_reducible repeat (first | refine blk_drewN ?_ _ | refine blk_drew ?_ | refine blk_alloc ?_ _)); exact BK177.out) hb)
          have n6_ := Aside0.mk (blk_below (g := gb178) (o := .cells #[.int .i64 a1_0, .slice A1_1 l1_1.length c1_1] 41 (0, 0)) (by (with_reducible repeat (first | refine blk_drewN ?_ _ | refine blk_drew ?_ | refine blk_alloc ?_ _)); exact BK178.out) hb)
          have n7_ := Aside0.mk (blk_below (g := gb194) (o := .cells #[.int .i64 t189, .slice Ao42 t190.length co42] 33 (0, 0)) (by (with_reducible repeat (first | refine blk_drewN ?_ _ | refine blk_drew ?_ | refine blk_alloc ?_ _)); exact BK194.out) hb)
          have n8_ := Aside0.mk (blk_below (g := gb199) (o := .cells #[.int .i64 t195, .slice Ao52 t196.length co52] 33 (0, 0)) (by (with_reducible repeat (first | refine blk_drewN ?_ _ | refine blk_drew ?_ | refine blk_alloc ?_ _)); exact BK199.out) hb)
          have n9_ := Aside0.mk (blk_below (g := gb204) (o := .cells #[.int .i64 t200, .slice Ao62 t201.length co62] 33 (0, 0)) (by (with_reducible repeat (first | refine blk_drewN ?_ _ | refine blk_drew ?_ | refine blk_alloc ?_ _)); exact BK204.out) hb)
          have n10_ := Aside0.mk (blk_below (g := gb210) (o := .cells #[.int .i64 t205, .slice Ao74 t206.length co74] 33 (0, 0)) (by (with_reducible repeat (first | refine blk_drewN ?_ _ | refine blk_drew ?_ | refine blk_alloc ?_ _)); exact BK210.out) hb)
          have n11_ := Aside0.mk (below_step (by repeat (first | (with_reducible first | exact HB.out | apply below_alloc | apply pw_below_drewN | apply below_drew1 | refine below_set ?_ GE177.out | refine below_set ?_ GE178.out | refine below_set ?_ GE194.out | refine below_set ?_ GE199.out | refine below_set ?_ GE204.out | refine below_set ?_ GE210.out) | exact HB.out)) hb)
          clear HO_195001
          clear HO_200001
          clear HO_205001
          clear HO_211001
          clear HO215
          clear BK177
          clear BK178
          clear BK194
          clear BK199
          clear BK204
          clear BK210
          clear HB
          have HO_195001 := n0_
          have HO_200001 := n1_
          have HO_205001 := n2_
          have HO_211001 := n3_
          have HO215 := n4_
          have BK177 := n5_
          have BK178 := n6_
          have BK194 := n7_
          have BK199 := n8_
          have BK204 := n9_
          have BK210 := n10_
          have HB := n11_
          clear n0_ n1_ n2_ n3_ n4_ n5_ n6_ n7_ n8_ n9_ n10_ n11_
          (try clear hb)
          (try clear hb2)
          (try clear hk)
          (try clear hi)
          refine hK.out _ _ ⟨(blk_cell BK199.out 0).trans rfl, (blk_cell BK199.out 1).trans rfl, (blk_cell BK177.out 0).trans rfl, (blk_cell BK177.out 1).trans rfl⟩ (fun hHeld => ?_)
          clear hK K
          refine norm_ (a' := ?_) ?_ ?_
          rotate_left
          · show Act.put _ (some 57) _ = _
            simp only [Act.put, List.setIfInBounds_toArray, List.set_cons_zero, List.set_cons_succ, i64_w, i32_w]
            rfl
          refine pure_ (i := 4) (N := some 58) (v := ?_) (a' := ?_) #[true, true, true, true, true] rfl rfl (by kernel_rfl) (fun _ _ _ h => h) (Or.inl ⟨by rfl, ?_⟩) ?_ ?_
          rotate_left
          · intro w'
            go_simp
            with_reducible rfl
          rotate_left
          · simp only [Act.put, List.setIfInBounds_toArray, List.set_cons_zero, List.set_cons_succ, i64_w, i32_w]
            rfl
          refine done_ (by kernel_rfl) ?_
          try go_wp2
          have n0_ := Aside0.mk (Kd.R_drew HO_195001.out)
          have n1_ := Aside0.mk (Kd.R_drew HO_200001.out)
          have n2_ := Aside0.mk (Kd.R_drew HO_205001.out)
          have n3_ := Aside0.mk (Kd.R_drew HO_211001.out)
          have n4_ := Aside0.mk (Kd.R_drew HO215.out)
          have n5_ := Aside0.mk (blk_drew BK177.out)
          have n6_ := Aside0.mk (blk_drew BK178.out)
          have n7_ := Aside0.mk (blk_drew BK194.out)
          have n8_ := Aside0.mk (blk_drew BK199.out)
          have n9_ := Aside0.mk (blk_drew BK204.out)
          have n10_ := Aside0.mk (blk_drew BK210.out)
          have n11_ := Aside0.mk (below_drew1 HB.out)
          clear HO_195001
          clear HO_200001
          clear HO_205001
          clear HO_211001
          clear HO215
          clear BK177
          clear BK178
          clear BK194
          clear BK199
          clear BK204
          clear BK210
          clear HB
          have HO_195001 := n0_
          have HO_200001 := n1_
          have HO_205001 := n2_
          have HO_211001 := n3_
          have HO215 := n4_
          have BK177 := n5_
          have BK178 := n6_
          have BK194 := n7_
          have BK199 := n8_
          have BK204 := n9_
          have BK210 := n10_
          have HB := n11_
          clear n0_ n1_ n2_ n3_ n4_ n5_ n6_ n7_ n8_ n9_ n10_ n11_
          refine start_ (n := 5) (S := fun w' => w'.cell? ⟨gb204, 0, none⟩ = some (.int .i64 t200) ∧ w'.cell? ⟨gb204, 1, none⟩ = some (.slice Ao62 t201.length co62) ∧ w'.cell? ⟨gb178, 0, none⟩ = some (.int .i64 a1_0) ∧ w'.cell? ⟨gb178, 1, none⟩ = some (.slice A1_1 l1_1.length c1_1)) (ds := []) #[false, false, false, false, false] (by kernel_rfl) rfl rfl ⟨(blk_cell BK204.out 0).trans rfl, (blk_cell BK204.out 1).trans rfl, (blk_cell BK178.out 0).trans rfl, (blk_cell BK178.out 1).trans rfl⟩ (fun hHeld => ?_)
          generalize w267.drew = w268 at HO_195001 HO_200001 HO_205001 HO_211001 HO215 BK177 BK178 BK194 BK199 BK204 BK210 HB hHeld ⊢
          refine take_ (i := 0) (N := some 59) (v := ?_) (a' := ?_) #[true, false, false, false, false] rfl rfl (by kernel_rfl) (fun _ _ _ h => h) (Or.inl ⟨by rfl, ?_⟩) hHeld ?_ ?_
          rotate_left
          · rintro w' ⟨s0, s1, s2, s3⟩
            go_simp
            with_reducible rfl
          rotate_left
          · simp only [Act.put, List.setIfInBounds_toArray, List.set_cons_zero, List.set_cons_succ, i64_w, i32_w]
            rfl
          refine take_ (i := 1) (N := some 60) (v := ?_) (a' := ?_) #[true, true, false, false, false] rfl rfl (by kernel_rfl) (fun _ _ _ h => h) (Or.inl ⟨by rfl, ?_⟩) hHeld ?_ ?_
          rotate_left
          · rintro w' ⟨s0, s1, s2, s3⟩
            go_simp
            with_reducible rfl
          rotate_left
          · simp only [Act.put, List.setIfInBounds_toArray, List.set_cons_zero, List.set_cons_succ, i64_w, i32_w]
            rfl
          refine one_ (i := 2) (N := some 61) #[true, true, true, false, false] rfl rfl (by kernel_rfl) (by decide) (fun K hK => ?_)
          refine goes_ Try.func26 (by kernel_rfl) rfl #[.agg #[.int .i64 a1_0, .slice A1_1 l1_1.length c1_1]] (by rfl) rfl rfl (by (try simp only [List.map_toArray, List.map_cons, List.map_nil]); first | done | rfl | (simp only [List.length_drop, List.length_take]; rfl)) ?_
          with_reducible refine (laws_toMatrix.calls kj24 a1_0 _ _ l1_1 t217 t218 _ ?side1 ?side2 A105.out).mono ?_
          (case side1 => repeat (first | exact (Kd.C_below HR1_1.out HB.out) | (with_reducible refine Kd.C_alloc ?_ _) | (with_reducible refine Kd.C_drewN ?_ _) | (with_reducible refine Kd.C_drew ?_)))
          (case side2 => exact HC1_1.out)
          rintro e w269 ⟨v219, rfl, ho0, hb⟩
          refine ⟨_, rfl, ?_⟩
          have n0_ := Aside0.mk (Kd.R_elder' (by (with_reducible repeat (first | apply Kd.R_alloc | apply Kd.R_drewN | apply Kd.R_drew)); exact HO_195001.out) (Kd.R_base ho0) hb)
          have n1_ := Aside0.mk (Kd.R_elder' (by (with_reducible repeat (first | apply Kd.R_alloc | apply Kd.R_drewN | apply Kd.R_drew)); exact HO_200001.out) (Kd.R_base ho0) hb)
          have n2_ := Aside0.mk (Kd.R_elder' (by (with_reducible repeat (first | apply Kd.R_alloc | apply Kd.R_drewN | apply Kd.R_drew)); exact HO_205001.out) (Kd.R_base ho0) hb)
          have n3_ := Aside0.mk (Kd.R_elder' (by (with_reducible repeat (first | apply Kd.R_alloc | apply Kd.R_drewN | apply Kd.R_drew)); exact HO_211001.out) (Kd.R_base ho0) hb)
          have n4_ := Aside0.mk (Kd.R_elder' (by (with_reducible repeat (first | apply Kd.R_alloc | apply Kd.R_drewN | apply Kd.R_drew)); exact HO215.out) (Kd.R_base ho0) hb)
          have n5_ := Aside0.mk (Kd.R_lower (Kd.R_new' (Kd.R_new' (Kd.R_new' (Kd.R_new' (Kd.R_new' ho0 (Kd.R_lt (by (with_reducible repeat (first | apply Kd.R_alloc | apply Kd.R_drewN | apply Kd.R_drew)); exact HO_195001.out))) (Kd.R_lt (by (with_reducible repeat (first | apply Kd.R_alloc | apply Kd.R_drewN | apply Kd.R_drew)); exact HO_200001.out))) (Kd.R_lt (by (with_reducible repeat (first | apply Kd.R_alloc | apply Kd.R_drewN | apply Kd.R_drew)); exact HO_205001.out))) (Kd.R_lt (by (with_reducible repeat (first | apply Kd.R_alloc | apply Kd.R_drewN | apply Kd.R_drew)); exact HO_211001.out))) (Kd.R_lt (by (with_reducible repeat (first | apply Kd.R_alloc | apply Kd.R_drewN | apply Kd.R_drew)); exact HO215.out))) (below_size (by repeat (first | (with_reducible first | exact HB.out | apply below_alloc | apply pw_below_drewN | apply below_drew1 | refine below_set ?_ GE177.out | refine below_set ?_ GE178.out | refine below_set ?_ GE194.out | refine below_set ?_ GE199.out | refine below_set ?_ GE204.out | refine below_set ?_ GE210.out) | exact HB.out))))
          have n6_ := Aside0.mk (blk_below (g := gb177) (o := .cells #[.int .i64 a0_0, .slice A0_1 l0_1.length c0_1] 41 (0, 0)) (by (with_reducible repeat (first | refine blk_drewN ?_ _ | refine blk_drew ?_ | refine blk_alloc ?_ _)); exact BK177.out) hb)
          have n7_ := Aside0.mk (blk_below (g := gb178) (o := .cells #[.int .i64 a1_0, .slice A1_1 l1_1.length c1_1] 41 (0, 0)) (by (with_reducible repeat (first | refine blk_drewN ?_ _ | refine blk_drew ?_ | refine blk_alloc ?_ _)); exact BK178.out) hb)
          have n8_ := Aside0.mk (blk_below (g := gb194) (o := .cells #[.int .i64 t189, .slice Ao42 t190.length co42] 33 (0, 0)) (by (with_reducible repeat (first | refine blk_drewN ?_ _ | refine blk_drew ?_ | refine blk_alloc ?_ _)); exact BK194.out) hb)
          have n9_ := Aside0.mk (blk_below (g := gb199) (o := .cells #[.int .i64 t195, .slice Ao52 t196.length co52] 33 (0, 0)) (by (with_reducible repeat (first | refine blk_drewN ?_ _ | refine blk_drew ?_ | refine blk_alloc ?_ _)); exact BK199.out) hb)
          have n10_ := Aside0.mk (blk_below (g := gb204) (o := .cells #[.int .i64 t200, .slice Ao62 t201.length co62] 33 (0, 0)) (by (with_reducible repeat (first | refine blk_drewN ?_ _ | refine blk_drew ?_ | refine blk_alloc ?_ _)); exact BK204.out) hb)
          have n11_ := Aside0.mk (blk_below (g := gb210) (o := .cells #[.int .i64 t205, .slice Ao74 t206.length co74] 33 (0, 0)) (by (with_reducible repeat (first | refine blk_drewN ?_ _ | refine blk_drew ?_ | refine blk_alloc ?_ _)); exact BK210.out) hb)
          have n12_ := Aside0.mk (below_step (by repeat (first | (with_reducible first | exact HB.out | apply below_alloc | apply pw_below_drewN | apply below_drew1 | refine below_set ?_ GE177.out | refine below_set ?_ GE178.out | refine below_set ?_ GE194.out | refine below_set ?_ GE199.out | refine below_set ?_ GE204.out | refine below_set ?_ GE210.out) | exact HB.out)) hb)
          clear HO_195001
          clear HO_200001
          clear HO_205001
          clear HO_211001
          clear HO215
          clear BK177
          clear BK178
          clear BK194
          clear BK199
          clear BK204
          clear BK210
          clear HB
          have HO_195001 := n0_
          have HO_200001 := n1_
          have HO_205001 := n2_
          have HO_211001 := n3_
          have HO215 := n4_
          have HO220 := n5_
          have BK177 := n6_
          have BK178 := n7_
          have BK194 := n8_
          have BK199 := n9_
          have BK204 := n10_
          have BK210 := n11_
          have HB := n12_
          clear n0_ n1_ n2_ n3_ n4_ n5_ n6_ n7_ n8_ n9_ n10_ n11_ n12_
          (try clear hb)
          (try clear hb2)
          (try clear hk)
          (try clear hi)
          (try clear ho0)
          obtain ⟨Ao270, co270, eo270⟩ := Kd.R_slice HO220.out
          (first | subst eo270 | (injection eo270 with f1_ f2_ f3_; have f4_ := f1_.symm; have f5_ := f3_.symm; clear f1_ f2_ f3_; subst f4_; subst f5_))
          refine hK.out _ _ ⟨(blk_cell BK204.out 0).trans rfl, (blk_cell BK204.out 1).trans rfl, (blk_cell BK178.out 0).trans rfl, (blk_cell BK178.out 1).trans rfl⟩ (fun hHeld => ?_)
          clear hK K
          refine norm_ (a' := ?_) ?_ ?_
          rotate_left
          · show Act.put _ (some 61) _ = _
            simp only [Act.put, List.setIfInBounds_toArray, List.set_cons_zero, List.set_cons_succ, i64_w, i32_w]
            rfl
          refine one_ (i := 3) (N := some 62) #[true, true, true, true, false] rfl rfl (by kernel_rfl) (by decide) (fun K hK => ?_)
          refine goes_ Try.func28 (by kernel_rfl) rfl #[.agg #[.int .i64 t200, .slice Ao62 t201.length co62], .agg #[.int .i64 t217, .slice Ao270 t218.length co270]] (by rfl) rfl rfl (by (try simp only [List.map_toArray, List.map_cons, List.map_nil]); first | done | rfl | (simp only [List.length_drop, List.length_take]; rfl)) ?_
          with_reducible refine (laws_eqMatrix.calls kj24 t200 _ _ t201 t217 _ _ t218 false _ ?side1 ?side2 ?side3 ?side4 A106.out).mono ?_
          (case side1 => repeat (first | exact (Kd.R_reads' HO_205001.out).2.2 | (with_reducible refine Kd.C_alloc ?_ _) | (with_reducible refine Kd.C_drewN ?_ _) | (with_reducible refine Kd.C_drew ?_)))
          (case side2 => exact (Kd.R_reads' HO_205001.out).2.1)
          (case side3 => repeat (first | exact (Kd.R_reads' HO220.out).2.2 | (with_reducible refine Kd.C_alloc ?_ _) | (with_reducible refine Kd.C_drewN ?_ _) | (with_reducible refine Kd.C_drew ?_)))
          (case side4 => exact (Kd.R_reads' HO220.out).2.1)
          rintro e w271 ⟨rfl, hb⟩
          refine ⟨_, rfl, ?_⟩
          have n0_ := Aside0.mk (Kd.R_below (by (with_reducible repeat (first | apply Kd.R_alloc | apply Kd.R_drewN | apply Kd.R_drew)); exact HO_195001.out) hb)
          have n1_ := Aside0.mk (Kd.R_below (by (with_reducible repeat (first | apply Kd.R_alloc | apply Kd.R_drewN | apply Kd.R_drew)); exact HO_200001.out) hb)
          have n2_ := Aside0.mk (Kd.R_below (by (with_reducible repeat (first | apply Kd.R_alloc | apply Kd.R_drewN | apply Kd.R_drew)); exact HO_205001.out) hb)
          have n3_ := Aside0.mk (Kd.R_below (by (with_reducible repeat (first | apply Kd.R_alloc | apply Kd.R_drewN | apply Kd.R_drew)); exact HO_211001.out) hb)
          have n4_ := Aside0.mk (Kd.R_below (by (with_reducible repeat (first | apply Kd.R_alloc | apply Kd.R_drewN | apply Kd.R_drew)); exact HO215.out) hb)
          have n5_ := Aside0.mk (Kd.R_below (by (with_reducible repeat (first | apply Kd.R_alloc | apply Kd.R_drewN | apply Kd.R_drew)); exact HO220.out) hb)
          have n6_ := Aside0.mk (blk_below (g := gb177) (o := .cells #[.int .i64 a0_0, .slice A0_1 l0_1.length c0_1] 41 (0, 0)) (by (with_reducible repeat (first | refine blk_drewN ?_ _ | refine blk_drew ?_ | refine blk_alloc ?_ _)); exact BK177.out) hb)
          have n7_ := Aside0.mk (blk_below (g := gb178) (o := .cells #[.int .i64 a1_0, .slice A1_1 l1_1.length c1_1] 41 (0, 0)) (by (with_reducible repeat (first | refine blk_drewN ?_ _ | refine blk_drew ?_ | refine blk_alloc ?_ _)); exact BK178.out) hb)
          have n8_ := Aside0.mk (blk_below (g := gb194) (o := .cells #[.int .i64 t189, .slice Ao42 t190.length co42] 33 (0, 0)) (by (with_reducible repeat (first | refine blk_drewN ?_ _ | refine blk_drew ?_ | refine blk_alloc ?_ _)); exact BK194.out) hb)
          have n9_ := Aside0.mk (blk_below (g := gb199) (o := .cells #[.int .i64 t195, .slice Ao52 t196.length co52] 33 (0, 0)) (by (with_reducible repeat (first | refine blk_drewN ?_ _ | refine blk_drew ?_ | refine blk_alloc ?_ _)); exact BK199.out) hb)
          have n10_ := Aside0.mk (blk_below (g := gb204) (o := .cells #[.int .i64 t200, .slice Ao62 t201.length co62] 33 (0, 0)) (by (with_reducible repeat (first | refine blk_drewN ?_ _ | refine blk_drew ?_ | refine blk_alloc ?_ _)); exact BK204.out) hb)
          have n11_ := Aside0.mk (blk_below (g := gb210) (o := .cells #[.int .i64 t205, .slice Ao74 t206.length co74] 33 (0, 0)) (by (with_reducible repeat (first | refine blk_drewN ?_ _ | refine blk_drew ?_ | refine blk_alloc ?_ _)); exact BK210.out) hb)
          have n12_ := Aside0.mk (below_step (by repeat (first | (with_reducible first | exact HB.out | apply below_alloc | apply pw_below_drewN | apply below_drew1 | refine below_set ?_ GE177.out | refine below_set ?_ GE178.out | refine below_set ?_ GE194.out | refine below_set ?_ GE199.out | refine below_set ?_ GE204.out | refine below_set ?_ GE210.out) | exact HB.out)) hb)
          clear HO_195001
          clear HO_200001
          clear HO_205001
          clear HO_211001
          clear HO215
          clear HO220
          clear BK177
          clear BK178
          clear BK194
          clear BK199
          clear BK204
          clear BK210
          clear HB
          have HO_195001 := n0_
          have HO_200001 := n1_
          have HO_205001 := n2_
          have HO_211001 := n3_
          have HO215 := n4_
          have HO220 := n5_
          have BK177 := n6_
          have BK178 := n7_
          have BK194 := n8_
          have BK199 := n9_
          have BK204 := n10_
          have BK210 := n11_
          have HB := n12_
          clear n0_ n1_ n2_ n3_ n4_ n5_ n6_ n7_ n8_ n9_ n10_ n11_ n12_
          (try clear hb)
          (try clear hb2)
          (try clear hk)
          (try clear hi)
          refine hK.out _ _ ⟨(blk_cell BK204.out 0).trans rfl, (blk_cell BK204.out 1).trans rfl, (blk_cell BK178.out 0).trans rfl, (blk_cell BK178.out 1).trans rfl⟩ (fun hHeld => ?_)
          clear hK K
          refine norm_ (a' := ?_) ?_ ?_
          rotate_left
          · show Act.put _ (some 62) _ = _
            simp only [Act.put, List.setIfInBounds_toArray, List.set_cons_zero, List.set_cons_succ, i64_w, i32_w]
            rfl
          refine pure_ (i := 4) (N := some 63) (v := ?_) (a' := ?_) #[true, true, true, true, true] rfl rfl (by kernel_rfl) (fun _ _ _ h => h) (Or.inl ⟨by rfl, ?_⟩) ?_ ?_
          rotate_left
          · intro w'
            go_simp
            with_reducible rfl
          rotate_left
          · simp only [Act.put, List.setIfInBounds_toArray, List.set_cons_zero, List.set_cons_succ, i64_w, i32_w]
            rfl
          refine done_ (by kernel_rfl) ?_
          try go_wp2
          go_ret
          exact ⟨by first | rfl | (simp [errW_none, errW_some] <;> rfl) | (simp [*, errW_none, errW_some] <;> rfl), by repeat (first | (with_reducible first | exact HB.out | apply below_alloc | apply pw_below_drewN | apply below_drew1 | refine below_set ?_ GE177.out | refine below_set ?_ GE178.out | refine below_set ?_ GE194.out | refine below_set ?_ GE199.out | refine below_set ?_ GE204.out | refine below_set ?_ GE210.out) | exact HB.out)⟩
      · replace c104 := Bool.eq_false_iff.mpr c104
        subst c104
        have H1 : (some false) = some r := by rw [if_neg (show ¬ (false = true) by decide)] at H; exact H
        clear H
        have H := H1
        clear H1
        obtain rfl := Option.some.inj H
        try go_wp2
        have n0_ := Aside0.mk (Kd.R_drew HO_195001.out)
        have n1_ := Aside0.mk (Kd.R_drew HO_200001.out)
        have n2_ := Aside0.mk (Kd.R_drew HO_205001.out)
        have n3_ := Aside0.mk (Kd.R_drew HO_211001.out)
        have n4_ := Aside0.mk (blk_drew BK177.out)
        have n5_ := Aside0.mk (blk_drew BK178.out)
        have n6_ := Aside0.mk (blk_drew BK194.out)
        have n7_ := Aside0.mk (blk_drew BK199.out)
        have n8_ := Aside0.mk (blk_drew BK204.out)
        have n9_ := Aside0.mk (blk_drew BK210.out)
        have n10_ := Aside0.mk (below_drew1 HB.out)
        clear HO_195001
        clear HO_200001
        clear HO_205001
        clear HO_211001
        clear BK177
        clear BK178
        clear BK194
        clear BK199
        clear BK204
        clear BK210
        clear HB
        have HO_195001 := n0_
        have HO_200001 := n1_
        have HO_205001 := n2_
        have HO_211001 := n3_
        have BK177 := n4_
        have BK178 := n5_
        have BK194 := n6_
        have BK199 := n7_
        have BK204 := n8_
        have BK210 := n9_
        have HB := n10_
        clear n0_ n1_ n2_ n3_ n4_ n5_ n6_ n7_ n8_ n9_ n10_
        refine start_ (n := 5) (S := fun w' => w'.cell? ⟨gb199, 0, none⟩ = some (.int .i64 t195) ∧ w'.cell? ⟨gb199, 1, none⟩ = some (.slice Ao52 t196.length co52) ∧ w'.cell? ⟨gb177, 0, none⟩ = some (.int .i64 a0_0) ∧ w'.cell? ⟨gb177, 1, none⟩ = some (.slice A0_1 l0_1.length c0_1)) (ds := []) #[false, false, false, false, false] (by kernel_rfl) rfl rfl ⟨(blk_cell BK199.out 0).trans rfl, (blk_cell BK199.out 1).trans rfl, (blk_cell BK177.out 0).trans rfl, (blk_cell BK177.out 1).trans rfl⟩ (fun hHeld => ?_)
        generalize wc.drew = w272 at HO_195001 HO_200001 HO_205001 HO_211001 BK177 BK178 BK194 BK199 BK204 BK210 HB hHeld ⊢
        refine take_ (i := 0) (N := some 54) (v := ?_) (a' := ?_) #[true, false, false, false, false] rfl rfl (by kernel_rfl) (fun _ _ _ h => h) (Or.inl ⟨by rfl, ?_⟩) hHeld ?_ ?_
        rotate_left
        · rintro w' ⟨s0, s1, s2, s3⟩
          go_simp
          with_reducible rfl
        rotate_left
        · simp only [Act.put, List.setIfInBounds_toArray, List.set_cons_zero, List.set_cons_succ, i64_w, i32_w]
          rfl
        refine take_ (i := 1) (N := some 55) (v := ?_) (a' := ?_) #[true, true, false, false, false] rfl rfl (by kernel_rfl) (fun _ _ _ h => h) (Or.inl ⟨by rfl, ?_⟩) hHeld ?_ ?_
        rotate_left
        · rintro w' ⟨s0, s1, s2, s3⟩
          go_simp
          with_reducible rfl
        rotate_left
        · simp only [Act.put, List.setIfInBounds_toArray, List.set_cons_zero, List.set_cons_succ, i64_w, i32_w]
          rfl
        refine one_ (i := 2) (N := some 56) #[true, true, true, false, false] rfl rfl (by kernel_rfl) (by decide) (fun K hK => ?_)
        refine goes_ Try.func26 (by kernel_rfl) rfl #[.agg #[.int .i64 a0_0, .slice A0_1 l0_1.length c0_1]] (by rfl) rfl rfl (by (try simp only [List.map_toArray, List.map_cons, List.map_nil]); first | done | rfl | (simp only [List.length_drop, List.length_take]; rfl)) ?_
        with_reducible refine (laws_toMatrix.calls kj24 a0_0 _ _ l0_1 t212 t213 _ ?side1 ?side2 A102.out).mono ?_
        (case side1 => repeat (first | exact (Kd.C_below HR0_1.out HB.out) | (with_reducible refine Kd.C_alloc ?_ _) | (with_reducible refine Kd.C_drewN ?_ _) | (with_reducible refine Kd.C_drew ?_)))
        (case side2 => exact HC0_1.out)
        rintro e w273 ⟨v214, rfl, ho0, hb⟩
        refine ⟨_, rfl, ?_⟩
        have n0_ := Aside0.mk (Kd.R_elder' (by (with_reducible repeat (first | apply Kd.R_alloc | apply Kd.R_drewN | apply Kd.R_drew)); exact HO_195001.out) (Kd.R_base ho0) hb)
        have n1_ := Aside0.mk (Kd.R_elder' (by (with_reducible repeat (first | apply Kd.R_alloc | apply Kd.R_drewN | apply Kd.R_drew)); exact HO_200001.out) (Kd.R_base ho0) hb)
        have n2_ := Aside0.mk (Kd.R_elder' (by (with_reducible repeat (first | apply Kd.R_alloc | apply Kd.R_drewN | apply Kd.R_drew)); exact HO_205001.out) (Kd.R_base ho0) hb)
        have n3_ := Aside0.mk (Kd.R_elder' (by (with_reducible repeat (first | apply Kd.R_alloc | apply Kd.R_drewN | apply Kd.R_drew)); exact HO_211001.out) (Kd.R_base ho0) hb)
        have n4_ := Aside0.mk (Kd.R_lower (Kd.R_new' (Kd.R_new' (Kd.R_new' (Kd.R_new' ho0 (Kd.R_lt (by (with_reducible repeat (first | apply Kd.R_alloc | apply Kd.R_drewN | apply Kd.R_drew)); exact HO_195001.out))) (Kd.R_lt (by (with_reducible repeat (first | apply Kd.R_alloc | apply Kd.R_drewN | apply Kd.R_drew)); exact HO_200001.out))) (Kd.R_lt (by (with_reducible repeat (first | apply Kd.R_alloc | apply Kd.R_drewN | apply Kd.R_drew)); exact HO_205001.out))) (Kd.R_lt (by (with_reducible repeat (first | apply Kd.R_alloc | apply Kd.R_drewN | apply Kd.R_drew)); exact HO_211001.out))) (below_size (by repeat (first | (with_reducible first | exact HB.out | apply below_alloc | apply pw_below_drewN | apply below_drew1 | refine below_set ?_ GE177.out | refine below_set ?_ GE178.out | refine below_set ?_ GE194.out | refine below_set ?_ GE199.out | refine below_set ?_ GE204.out | refine below_set ?_ GE210.out) | exact HB.out))))
        have n5_ := Aside0.mk (blk_below (g := gb177) (o := .cells #[.int .i64 a0_0, .slice A0_1 l0_1.length c0_1] 41 (0, 0)) (by (with_reducible repeat (first | refine blk_drewN ?_ _ | refine blk_drew ?_ | refine blk_alloc ?_ _)); exact BK177.out) hb)
        have n6_ := Aside0.mk (blk_below (g := gb178) (o := .cells #[.int .i64 a1_0, .slice A1_1 l1_1.length c1_1] 41 (0, 0)) (by (with_reducible repeat (first | refine blk_drewN ?_ _ | refine blk_drew ?_ | refine blk_alloc ?_ _)); exact BK178.out) hb)
        have n7_ := Aside0.mk (blk_below (g := gb194) (o := .cells #[.int .i64 t189, .slice Ao42 t190.length co42] 33 (0, 0)) (by (with_reducible repeat (first | refine blk_drewN ?_ _ | refine blk_drew ?_ | refine blk_alloc ?_ _)); exact BK194.out) hb)
        have n8_ := Aside0.mk (blk_below (g := gb199) (o := .cells #[.int .i64 t195, .slice Ao52 t196.length co52] 33 (0, 0)) (by (with_reducible repeat (first | refine blk_drewN ?_ _ | refine blk_drew ?_ | refine blk_alloc ?_ _)); exact BK199.out) hb)
        have n9_ := Aside0.mk (blk_below (g := gb204) (o := .cells #[.int .i64 t200, .slice Ao62 t201.length co62] 33 (0, 0)) (by (with_reducible repeat (first | refine blk_drewN ?_ _ | refine blk_drew ?_ | refine blk_alloc ?_ _)); exact BK204.out) hb)
        have n10_ := Aside0.mk (blk_below (g := gb210) (o := .cells #[.int .i64 t205, .slice Ao74 t206.length co74] 33 (0, 0)) (by (with_reducible repeat (first | refine blk_drewN ?_ _ | refine blk_drew ?_ | refine blk_alloc ?_ _)); exact BK210.out) hb)
        have n11_ := Aside0.mk (below_step (by repeat (first | (with_reducible first | exact HB.out | apply below_alloc | apply pw_below_drewN | apply below_drew1 | refine below_set ?_ GE177.out | refine below_set ?_ GE178.out | refine below_set ?_ GE194.out | refine below_set ?_ GE199.out | refine below_set ?_ GE204.out | refine below_set ?_ GE210.out) | exact HB.out)) hb)
        clear HO_195001
        clear HO_200001
        clear HO_205001
        clear HO_211001
        clear BK177
        clear BK178
        clear BK194
        clear BK199
        clear BK204
        clear BK210
        clear HB
        have HO_195001 := n0_
        have HO_200001 := n1_
        have HO_205001 := n2_
        have HO_211001 := n3_
        have HO215 := n4_
        have BK177 := n5_
        have BK178 := n6_
        have BK194 := n7_
        have BK199 := n8_
        have BK204 := n9_
        have BK210 := n10_
        have HB := n11_
        clear n0_ n1_ n2_ n3_ n4_ n5_ n6_ n7_ n8_ n9_ n10_ n11_
        (try clear hb)
        (try clear hb2)
        (try clear hk)
        (try clear hi)
        (try clear ho0)
        obtain ⟨Ao274, co274, eo274⟩ := Kd.R_slice HO215.out
        (first | subst eo274 | (injection eo274 with f1_ f2_ f3_; have f4_ := f1_.symm; have f5_ := f3_.symm; clear f1_ f2_ f3_; subst f4_; subst f5_))
        refine hK.out _ _ ⟨(blk_cell BK199.out 0).trans rfl, (blk_cell BK199.out 1).trans rfl, (blk_cell BK177.out 0).trans rfl, (blk_cell BK177.out 1).trans rfl⟩ (fun hHeld => ?_)
        clear hK K
        refine norm_ (a' := ?_) ?_ ?_
        rotate_left
        · show Act.put _ (some 56) _ = _
          simp only [Act.put, List.setIfInBounds_toArray, List.set_cons_zero, List.set_cons_succ, i64_w, i32_w]
          rfl
        refine one_ (i := 3) (N := some 57) #[true, true, true, true, false] rfl rfl (by kernel_rfl) (by decide) (fun K hK => ?_)
        refine goes_ Try.func28 (by kernel_rfl) rfl #[.agg #[.int .i64 t195, .slice Ao52 t196.length co52], .agg #[.int .i64 t212, .slice Ao274 t213.length co274]] (by rfl) rfl rfl (by (try simp only [List.map_toArray, List.map_cons, List.map_nil]); first | done | rfl | (simp only [List.length_drop, List.length_take]; rfl)) ?_
        with_reducible refine (laws_eqMatrix.calls kj24 t195 _ _ t196 t212 _ _ t213 false _ ?side1 ?side2 ?side3 ?side4 A103.out).mono ?_
        (case side1 => repeat (first | exact (Kd.R_reads' HO_200001.out).2.2 | (with_reducible refine Kd.C_alloc ?_ _) | (with_reducible refine Kd.C_drewN ?_ _) | (with_reducible refine Kd.C_drew ?_)))
        (case side2 => exact (Kd.R_reads' HO_200001.out).2.1)
        (case side3 => repeat (first | exact (Kd.R_reads' HO215.out).2.2 | (with_reducible refine Kd.C_alloc ?_ _) | (with_reducible refine Kd.C_drewN ?_ _) | (with_reducible refine Kd.C_drew ?_)))
        (case side4 => exact (Kd.R_reads' HO215.out).2.1)
        rintro e w275 ⟨rfl, hb⟩
        refine ⟨_, rfl, ?_⟩
        have n0_ := Aside0.mk (Kd.R_below (by (with_reducible repeat (first | apply Kd.R_alloc | apply Kd.R_drewN | apply Kd.R_drew)); exact HO_195001.out) hb)
        have n1_ := Aside0.mk (Kd.R_below (by (with_reducible repeat (first | apply Kd.R_alloc | apply Kd.R_drewN | apply Kd.R_drew)); exact HO_200001.out) hb)
        have n2_ := Aside0.mk (Kd.R_below (by (with_reducible repeat (first | apply Kd.R_alloc | apply Kd.R_drewN | apply Kd.R_drew)); exact HO_205001.out) hb)
        have n3_ := Aside0.mk (Kd.R_below (by (with_reducible repeat (first | apply Kd.R_alloc | apply Kd.R_drewN | apply Kd.R_drew)); exact HO_211001.out) hb)
        have n4_ := Aside0.mk (Kd.R_below (by (with_reducible repeat (first | apply Kd.R_alloc | apply Kd.R_drewN | apply Kd.R_drew)); exact HO215.out) hb)
        have n5_ := Aside0.mk (blk_below (g := gb177) (o := .cells #[.int .i64 a0_0, .slice A0_1 l0_1.length c0_1] 41 (0, 0)) (by (with_reducible repeat (first | refine blk_drewN ?_ _ | refine blk_drew ?_ | refine blk_alloc ?_ _)); exact BK177.out) hb)
        have n6_ := Aside0.mk (blk_below (g := gb178) (o := .cells #[.int .i64 a1_0, .slice A1_1 l1_1.length c1_1] 41 (0, 0)) (by (with_reducible repeat (first | refine blk_drewN ?_ _ | refine blk_drew ?_ | refine blk_alloc ?_ _)); exact BK178.out) hb)
        have n7_ := Aside0.mk (blk_below (g := gb194) (o := .cells #[.int .i64 t189, .slice Ao42 t190.length co42] 33 (0, 0)) (by (with_reducible repeat (first | refine blk_drewN ?_ _ | refine blk_drew ?_ | refine blk_alloc ?_ _)); exact BK194.out) hb)
        have n8_ := Aside0.mk (blk_below (g := gb199) (o := .cells #[.int .i64 t195, .slice Ao52 t196.length co52] 33 (0, 0)) (by (with_reducible repeat (first | refine blk_drewN ?_ _ | refine blk_drew ?_ | refine blk_alloc ?_ _)); exact BK199.out) hb)
        have n9_ := Aside0.mk (blk_below (g := gb204) (o := .cells #[.int .i64 t200, .slice Ao62 t201.length co62] 33 (0, 0)) (by (with_reducible repeat (first | refine blk_drewN ?_ _ | refine blk_drew ?_ | refine blk_alloc ?_ _)); exact BK204.out) hb)
        have n10_ := Aside0.mk (blk_below (g := gb210) (o := .cells #[.int .i64 t205, .slice Ao74 t206.length co74] 33 (0, 0)) (by (with_reducible repeat (first | refine blk_drewN ?_ _ | refine blk_drew ?_ | refine blk_alloc ?_ _)); exact BK210.out) hb)
        have n11_ := Aside0.mk (below_step (by repeat (first | (with_reducible first | exact HB.out | apply below_alloc | apply pw_below_drewN | apply below_drew1 | refine below_set ?_ GE177.out | refine below_set ?_ GE178.out | refine below_set ?_ GE194.out | refine below_set ?_ GE199.out | refine below_set ?_ GE204.out | refine below_set ?_ GE210.out) | exact HB.out)) hb)
        clear HO_195001
        clear HO_200001
        clear HO_205001
        clear HO_211001
        clear HO215
        clear BK177
        clear BK178
        clear BK194
        clear BK199
        clear BK204
        clear BK210
        clear HB
        have HO_195001 := n0_
        have HO_200001 := n1_
        have HO_205001 := n2_
        have HO_211001 := n3_
        have HO215 := n4_
        have BK177 := n5_
        have BK178 := n6_
        have BK194 := n7_
        have BK199 := n8_
        have BK204 := n9_
        have BK210 := n10_
        have HB := n11_
        clear n0_ n1_ n2_ n3_ n4_ n5_ n6_ n7_ n8_ n9_ n10_ n11_
        (try clear hb)
        (try clear hb2)
        (try clear hk)
        (try clear hi)
        refine hK.out _ _ ⟨(blk_cell BK199.out 0).trans rfl, (blk_cell BK199.out 1).trans rfl, (blk_cell BK177.out 0).trans rfl, (blk_cell BK177.out 1).trans rfl⟩ (fun hHeld => ?_)
        clear hK K
        refine norm_ (a' := ?_) ?_ ?_
        rotate_left
        · show Act.put _ (some 57) _ = _
          simp only [Act.put, List.setIfInBounds_toArray, List.set_cons_zero, List.set_cons_succ, i64_w, i32_w]
          rfl
        refine pure_ (i := 4) (N := some 58) (v := ?_) (a' := ?_) #[true, true, true, true, true] rfl rfl (by kernel_rfl) (fun _ _ _ h => h) (Or.inl ⟨by rfl, ?_⟩) ?_ ?_
        rotate_left
        · intro w'
          go_simp
          with_reducible rfl
        rotate_left
        · simp only [Act.put, List.setIfInBounds_toArray, List.set_cons_zero, List.set_cons_succ, i64_w, i32_w]
          rfl
        refine done_ (by kernel_rfl) ?_
        try go_wp2
        go_ret
        exact ⟨by first | rfl | (simp [errW_none, errW_some] <;> rfl) | (simp [*, errW_none, errW_some] <;> rfl), by repeat (first | (with_reducible first | exact HB.out | apply below_alloc | apply pw_below_drewN | apply below_drew1 | refine below_set ?_ GE177.out | refine below_set ?_ GE178.out | refine below_set ?_ GE194.out | refine below_set ?_ GE199.out | refine below_set ?_ GE204.out | refine below_set ?_ GE210.out) | exact HB.out)⟩


end Go.Proofs.Ytddaiejpdiibkaa.PFnExactMulMatrices
