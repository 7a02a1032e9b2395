-- Written by this session's driver wip/tools/myprint.py over the kit's print, out of Lean's print of the translation, with own texts for what the print does not take. Lean checks it.
import Derived.Test.YtkebapmicgkcdaaPFnFieldsx7
namespace Go.Proofs.Ytkebapmicgkcdaa.PFnFields
open Go.RowKit Go.Proofs.YtkebapmicgkcdaaW.PrintWords Go.Proofs.YtkebapmicgkcdaaW.PrintLast Go.Proofs.YtkebapmicgkcdaaW.PrintMore
attribute [local go_sem] max2_int min2_int max_two min_two max_three min_three max_four min_four   -- for this text's walks alone
set_option linter.unusedVariables false
set_option linter.unusedSimpArgs false
attribute [local go_sem high] eqA33

set_option maxHeartbeats 8000000 in
set_option maxRecDepth 100000 in
def laws_FnFields.part3 : Σ' X : Prop, (Later X → laws_FnFields.part2.1) := by
  apply PSigma.mk
  case snd =>
  intro HLATER3 
  intro k A0 c0 l0 A1 c1 l1 r w hu33 HR0 HC0 HR1 HC1 A3 t215 t216 A5 ji6 hji6 ji8 hji8 hji8_ hji8z hji8u hji8v hji8y hji8x t218 A9 t219 A10 t220 A11 t221 t222 A12 t223 t224 A13 t225 t226 A14 t227 t228 A15 t229 t230 A16 zz1_1 nd zz1_2 w18 gb217 w19 GW217 GE217 w21 w23 w25 w27 w29 w31 w33 w35 zz2_1 zz2_2 zz2_3 zz2_4 zz2_5 zz2_6 zz2_7 zz2_8 zz2_9 zz2_10 zz2_11 zz2_12 zz2_13 zz2_14 zz2_15 zz2_16 zz2_17 zz2_18 zz2_19 zz2_20 zz2_21 zz2_22 zz2_23 zz2_24 zz2_25 zz2_26 zz2_27 zz2_28 zz2_29 zz2_30 zz2_31 zz2_32 zz2_33 zz2_34 zz2_35 zz2_36 zz2_37 zz2_38 zz2_39 zz2_40 zz2_41 zz2_42 zz2_43 zz2_44 zz2_45 zz2_46 zz2_47 zz2_48 zz2_49 zz2_50 zz2_51 zz2_52 zz2_53 zz2_54 zz2_55 zz2_56 zz2_57 zz2_58 zz2_59 zz2_60 zz2_61 zz2_62 zz2_63 zz2_64 zz2_65 zz2_66 zz2_67 zz2_68 zz2_69 zz2_70 zz2_71 zz2_72 zz2_73 zz2_74 zz2_75 zz2_76 zz2_77 zz2_78 zz2_79 zz2_80 zz2_81 zz2_82 zz2_83 zz2_84 zz2_85 zz2_86 zz2_87 zz2_88 zz2_89 zz2_90 zz2_91 zz2_92 zz2_93 zz2_94 zz2_95 zz2_96 zz2_97 zz2_98 zz2_99 zz2_100 zz2_101 zz2_102 zz2_103 zz2_104 zz2_105 zz2_106 zz2_107 zz2_108 zz2_109 zz2_110 zz2_111 zz2_112 zz2_113 zz2_114 zz2_115 zz2_116 zz2_117 zz2_118 zz2_119 zz2_120 zz2_121 zz2_122 zz2_123 zz2_124 zz2_125 zz2_126 zz2_127 zz2_128 zz2_129 zz2_130 zz2_131 zz2_132 zz2_133 zz2_134 zz2_135 zz2_136 zz2_137 zz2_138 zz2_139 zz2_140 zz2_141 zz2_142 zz2_143 zz2_144 zz2_145 zz2_146 zz2_147 zz2_148 zz2_149 zz2_150 zz2_151 zz2_152 zz2_153 zz2_154 zz2_155 zz2_156 zz2_157 zz2_158 zz2_159 zz2_160 zz2_161 zz2_162 zz2_163 zz2_164 zz2_165 zz2_166 zz2_167 zz2_168 zz2_169 zz2_170 zz2_171 zz2_172 zz2_173 zz2_174 zz2_175 zz2_176 zz2_177 zz2_178 zz2_179 zz2_180 zz2_181 zz2_182 zz2_183 zz2_184 zz2_185 zz2_186 zz2_187 zz2_188 zz2_189 zz2_190 zz2_191 zz2_192 zz2_193 zz2_194 zz2_195 zz2_196 zz2_197 zz2_198 zz2_199 zz2_200 zz2_201 zz2_202 zz2_203 zz2_204 zz2_205 zz2_206 zz2_207 zz2_208 zz2_209 zz2_210 zz2_211 zz2_212 zz2_213 zz2_214 zz2_215 zz2_216 zz2_217 zz2_218 zz2_219 zz2_220 zz2_221 zz2_222 zz2_223 zz2_224 zz2_225 zz2_226 zz2_227 zz2_228 zz2_229 zz2_230 zz2_231 zz2_232 zz2_233 zz2_234 zz2_235 zz2_236 zz2_237 zz2_238 zz2_239 zz2_240 zz2_241 zz2_242 zz2_243 zz2_244 zz2_245 zz2_246 zz2_247 zz2_248 zz2_249 zz2_250 zz2_251 zz2_252 zz2_253 zz2_254 zz2_255 zz2_256 zz2_257 zz2_258 zz2_259 zz2_260 zz2_261 zz2_262 zz2_263 kj16 HJ16 t231 t232 A47 t233 t234 A48 t235 t236 A49 w52 w54 w56 BK217 HB zz2_264 zz2_265 zz2_266 zz2_267 wc u36 u37 u38 u39 u40 u41 u42 u43 u44 u45 u46 u47 u48 u49 u50 u51 u52 u53 u54 u55 u56 u57 u58 u59 u60 u61 u62 u63 u64 u65 u66 u67 u68 u69 u70 u71 u72 u73 u74 u75 u76 u77 u78 u79 u80 u81 u82 u83 u84 u85 u86 u87 u88 u89 u90 u91 u92 u93 u94 u95 u96 u97 u98 u99 u100 u101 u102 u103 u104 u105 u106 u107 u108 u109 u110 u111 u112 u113 u114 u115 u116 u117 u118 u119 u120 u121 u122 u123 u124 u125 u126 u127 u128 u129 u130 u131 u132 u133 u134 u135 u136 u137 u138 u139 u140 u141 u142 u143 u144 u145 u146 u147 u148 u149 u150 u151 u152 u153 u154 u155 u156 u157 u158 u159 u160 u161 u162 u163 u164 u165 u166 u167 u168 u169 u170 u171 u172 u173 u174 u175 u176 u177 u178 u179 u180 u181 u182 u183 u184 u185 u186 u187 u188 u189 u190 u191 u192 u193 u194 u195 u196 u197 u198 u199 u200 u201 u202 u203 u204 u205 u206 u207 u208 u209 u210 u211 u212 u213 u214 u215 u216 u217 u218 u219 u220 u221 u222 u223 u224 u225 u226 u227 u228 u229 u230 u231 u232 u233 u234 u235 u236 u237 u238 u239 u240 u241 u242 u243 u244 u245 u246 u247 u248 u249 u250 u251 u252 u253 u254 u255 u256 u257 u258 u259 u260 u261 u262 u263 u264 u265 u266 u267 u268 u269 u270 u271 u272 u273 u274 u275 u276 u277 u278 u279 u280 u281 u282 u283 u284 u285 u286 u287 u288 u289 u290 u291 u292 u293 u294 u295 u296 hcut
  obtain ⟨kq, x190_49, rfl, HA, HJ49, BK217, HB⟩ := hcut
  cases kq with
  | zero => exact absurd HA.out (by simp [laws_FnFields.j1])
  | succ kj49 =>
    have H := HA.out
    clear HA
    simp only [laws_FnFields.j1] at H
    by_cases c64 : x190_49 = true
    · subst c64
      have H1 : (some false) = some r := by rw [if_pos rfl] at H; exact H
      clear H
      have H := H1
      clear H1
      obtain rfl := Option.some.inj H
      go_wp2
      go_ret
      exact ⟨by first | rfl | (simp [errW_none, errW_some] <;> rfl) | (simp only [← hji6, ← hji8]; first | rfl | (simp [errW_none, errW_some] <;> rfl)) | (simp [*, errW_none, errW_some] <;> rfl), by repeat (first | (with_reducible first | exact HB.out | apply below_alloc | apply pw_below_drewN | apply below_drew1 | refine below_set ?_ GE217.out) | exact HB.out)⟩
    · replace c64 := Bool.eq_false_iff.mpr c64
      subst c64
      have H1 : ((impl_InverseIn.f kj49 t215 t216 t218).bind fun bt237 => (if ((bt237.2 == 0) != (t218 != 0)) = true then (some false) else (if t218 = 0 then (laws_FnFields.j3 kj49 t215 t216) else (if bt237.1 < 1 then (laws_FnFields.j2 kj49 t218 bt237.1 true t215 t216) else (laws_FnFields.j2 kj49 t218 bt237.1 (decide (bt237.1 ≥ ji8)) t215 t216))))) = some r := by rw [if_neg (show ¬ (false = true) by decide)] at H; exact H
      clear H
      have H := H1
      clear H1
      replace H := Option.bind_eq_some_iff.mp H
      obtain ⟨⟨t237, t238⟩, A650, H⟩ := H
      replace H : (if ((t238 == 0) != (t218 != 0)) = true then (some false) else (if t218 = 0 then (laws_FnFields.j3 kj49 t215 t216) else (if t237 < 1 then (laws_FnFields.j2 kj49 t218 t237 true t215 t216) else (laws_FnFields.j2 kj49 t218 t237 (decide (t237 ≥ ji8)) t215 t216)))) = some r := H
      have A65 := Aside0.mk A650
      clear A650
      by_cases c66 : ((t238 == 0) != (t218 != 0)) = true
      · rw [if_pos c66] at H
        have c66b0 : ((t238 == 0) != (t218 != 0)) = true := c66
        (try (have c66b1 : decide ((t238 == 0) = (t218 != 0)) = false := by simpa using c66))
        (try (have c66b2 : ((t238 == 0) == (t218 != 0)) = false := by simpa using c66))
        (try (have c66b3 : ¬ ((t238 == 0) = (t218 != 0)) := by simpa using c66))
        clear c66
        obtain rfl := Option.some.inj H
        have hcz67_0 : wc.cell? ⟨gb217, 0, none⟩ = some (.int .i64 t215) := (blk_cell BK217.out 0).trans rfl
        have hcz67_1 : wc.cell? ⟨gb217, 1, none⟩ = some (.int .i64 t216) := (blk_cell BK217.out 1).trans rfl
        have hfz67_0 := blk_frozen BK217.out 0
        have hfz67_1 := blk_frozen BK217.out 1
        go_wp2_with (first | ((with_reducible refine gate_callee (f := 27) rfl ?_); refine goesL_ (some 194) rfl rfl Try.func27 (by kernel_rfl) rfl #[.agg #[.int .i64 t215, .int .i64 t216], .int .i64 t218] rfl (by (try simp only [List.map_toArray, List.map_cons, List.map_nil]); first | done | rfl | (simp only [List.length_drop, List.length_take]; rfl)) ?_; (with_reducible refine (impl_InverseIn.calls kj49 t215 t216 t218 t237 t238 _ A65.out).mono ?_); rintro e w68 ⟨rfl, hb⟩; refine ⟨_, rfl, ?_⟩; have n0_ := Aside0.mk (blk_below (g := gb217) (o := .cells #[.int .i64 t215, .int .i64 t216] 33 (0, 0)) (by (with_reducible repeat (first | refine blk_drewN ?_ _ | refine blk_drew ?_ | refine blk_alloc ?_ _)); exact BK217.out) hb); have n1_ := Aside0.mk (below_step (by repeat (first | (with_reducible first | exact HB.out | apply below_alloc | apply pw_below_drewN | apply below_drew1 | refine below_set ?_ GE217.out) | exact HB.out)) hb); clear BK217; clear HB; have BK217 := n0_; have HB := n1_; clear n0_ n1_; (try clear hb); (try clear hb2); (try clear hk); (try clear hi)))
        go_ret
        exact ⟨by first | rfl | (simp [errW_none, errW_some] <;> rfl) | (simp only [← hji6, ← hji8]; first | rfl | (simp [errW_none, errW_some] <;> rfl)) | (simp [*, errW_none, errW_some] <;> rfl), by repeat (first | (with_reducible first | exact HB.out | apply below_alloc | apply pw_below_drewN | apply below_drew1 | refine below_set ?_ GE217.out) | exact HB.out)⟩
      · rw [if_neg c66] at H
        have c66b0 : ((t238 == 0) != (t218 != 0)) = false := by simpa using c66
        (try (have c66b1 : decide ((t238 == 0) = (t218 != 0)) = true := by simpa using c66))
        (try (have c66b2 : ((t238 == 0) == (t218 != 0)) = true := by simpa using c66))
        clear c66
        have HC69 := Aside0.mk H
        clear H
        have hcz70_0 : wc.cell? ⟨gb217, 0, none⟩ = some (.int .i64 t215) := (blk_cell BK217.out 0).trans rfl
        have hcz70_1 : wc.cell? ⟨gb217, 1, none⟩ = some (.int .i64 t216) := (blk_cell BK217.out 1).trans rfl
        have hfz70_0 := blk_frozen BK217.out 0
        have hfz70_1 := blk_frozen BK217.out 1
        go_upto_if 203 with (first | ((with_reducible refine gate_callee (f := 27) rfl ?_); refine goesL_ (some 194) rfl rfl Try.func27 (by kernel_rfl) rfl #[.agg #[.int .i64 t215, .int .i64 t216], .int .i64 t218] rfl (by (try simp only [List.map_toArray, List.map_cons, List.map_nil]); first | done | rfl | (simp only [List.length_drop, List.length_take]; rfl)) ?_; (with_reducible refine (impl_InverseIn.calls kj49 t215 t216 t218 t237 t238 _ A65.out).mono ?_); rintro e w71 ⟨rfl, hb⟩; refine ⟨_, rfl, ?_⟩; have n0_ := Aside0.mk (blk_below (g := gb217) (o := .cells #[.int .i64 t215, .int .i64 t216] 33 (0, 0)) (by (with_reducible repeat (first | refine blk_drewN ?_ _ | refine blk_drew ?_ | refine blk_alloc ?_ _)); exact BK217.out) hb); have n1_ := Aside0.mk (below_step (by repeat (first | (with_reducible first | exact HB.out | apply below_alloc | apply pw_below_drewN | apply below_drew1 | refine below_set ?_ GE217.out) | exact HB.out)) hb); clear BK217; clear HB; have BK217 := n0_; have HB := n1_; clear n0_ n1_; (try clear hb); (try clear hb2); (try clear hk); (try clear hi)))
        (try simp only [Act.put, List.setIfInBounds_toArray, List.set_cons_zero, List.set_cons_succ])
        go_cut [] (fun wc => ∃ (kq : Nat), Aside0 (laws_FnFields.j3 kq t215 t216 = some r) ∧ Aside0 (kq ≤ kj49) ∧ Aside0 (wc.heap[gb217]? = some (.cells #[.int .i64 t215, .int .i64 t216] 33 (0, 0))) ∧ Aside0 (Below w.heap.size w wc))
        case first =>
          have H := HC69.out
          clear HC69
          by_cases c72 : t218 = 0
          · rw [if_pos c72] at H
            have c72b0 : (t218 == 0) = true := beq_iff_eq.mpr c72
            have c72b1 : (t218 != 0) = false := bne_eq_false_iff_eq.mpr c72
            clear c72
            (first | rw [c72b0] | (simp only [i64_w, i32_w]; rw [c72b0]) | rw [c72b8] | skip)
            have H' := Aside0.mk H
            clear H
            go_wp2
            go_meet
            case rel => exact ⟨_, H', ⟨by have := HJ16.out; have := HJ49.out; first | omega | exact Nat.le_refl _⟩, ⟨by (with_reducible repeat (first | refine blk_drewN ?_ _ | refine blk_drew ?_ | refine blk_alloc ?_ _)); exact BK217.out⟩, ⟨by repeat (first | (with_reducible first | exact HB.out | apply below_alloc | apply pw_below_drewN | apply below_drew1 | refine below_set ?_ GE217.out) | exact HB.out)⟩⟩
          · rw [if_neg c72] at H
            have c72b0 : (t218 == 0) = false := beq_eq_false_iff_ne.mpr c72
            have c72b1 : (t218 != 0) = true := bne_iff_ne.mpr c72
            (first | rw [c72b0] | (simp only [i64_w, i32_w]; rw [c72b0]) | rw [c72b8] | skip)
            have HC73 := Aside0.mk H
            clear H
            go_upto_region 24 with (fail)
            go_cut [210] (fun v210 wc => ∃ (kq : Nat) (x210_72 : Bool), v210 = .bool x210_72 ∧ Aside0 (laws_FnFields.j2 kq t218 t237 x210_72 t215 t216 = some r) ∧ Aside0 (kq ≤ kj49) ∧ Aside0 (wc.heap[gb217]? = some (.cells #[.int .i64 t215, .int .i64 t216] 33 (0, 0))) ∧ Aside0 (Below w.heap.size w wc))
            case first =>
              have H := HC73.out
              clear HC73
              by_cases c74 : t237 < 1
              · rw [if_pos c74] at H
                have c74b0 : decide (t237 < 1) = true := decide_eq_true c74
                clear c74
                (first | rw [c74b0] | (simp only [i64_w, i32_w]; rw [c74b0]) | rw [c74b8] | skip)
                have H' := Aside0.mk H
                clear H
                go_wp2
                go_meet
                case rel => exact ⟨_, (true), (by first | rfl | (simp; done) | (simp [*]; done)), H', ⟨by have := HJ16.out; have := HJ49.out; first | omega | exact Nat.le_refl _⟩, ⟨by (with_reducible repeat (first | refine blk_drewN ?_ _ | refine blk_drew ?_ | refine blk_alloc ?_ _)); exact BK217.out⟩, ⟨by repeat (first | (with_reducible first | exact HB.out | apply below_alloc | apply pw_below_drewN | apply below_drew1 | refine below_set ?_ GE217.out) | exact HB.out)⟩⟩
              · rw [if_neg c74] at H
                have c74b0 : decide (t237 < 1) = false := decide_eq_false c74
                clear c74
                (first | rw [c74b0] | (simp only [i64_w, i32_w]; rw [c74b0]) | rw [c74b8] | skip)
                have H' := Aside0.mk H
                clear H
                go_wp2
                go_meet
                case rel => exact ⟨_, (decide (t237 ≥ ji8)), (by first | rfl | (simp; done) | (simp only [← hji8] <;> (first | rfl | simp)) | (simp [*]; done)), H', ⟨by have := HJ16.out; have := HJ49.out; first | omega | exact Nat.le_refl _⟩, ⟨by (with_reducible repeat (first | refine blk_drewN ?_ _ | refine blk_drew ?_ | refine blk_alloc ?_ _)); exact BK217.out⟩, ⟨by repeat (first | (with_reducible first | exact HB.out | apply below_alloc | apply pw_below_drewN | apply below_drew1 | refine below_set ?_ GE217.out) | exact HB.out)⟩⟩
            case rest =>
              clear HC73
              try clear c1
              try clear c2
              try clear p2
              try clear c3
              try clear c4
              try clear c5
              try clear c6
              try clear p6
              try clear c7
              try clear c7b0
              try clear c7b1
              try clear c8
              try clear c23
              try clear c24
              try clear c25
              try clear c26
              try clear c27
              try clear c36
              try clear c36b0
              try clear c36b1
              try clear c37
              try clear c37b0
              try clear c37b1
              try clear c38
              try clear c38b0
              try clear c38b1
              try clear c39
              try clear c39b0
              try clear c39b1
              try clear c40
              try clear c40b0
              try clear c40b1
              try clear c41
              try clear c41b0
              try clear c41b1
              try clear c42
              try clear c42b0
              try clear c42b1
              try clear c43
              try clear c43b0
              try clear c44
              try clear c44b0
              try clear c45
              try clear c45b0
              try clear c46
              try clear c57
              try clear c57b0
              try clear c57b1
              try clear c58
              try clear c58b0
              try clear c58b1
              try clear c59
              try clear c59b0
              try clear c59b1
              try clear c60
              try clear c60b0
              try clear c60b1
              try clear c61
              try clear c61b0
              try clear c61b1
              try clear c62
              try clear c62b0
              try clear c62b1
              try clear c63
              try clear c63b0
              try clear c63b1
              try clear c64
              try clear c66
              try clear c66b0
              try clear c66b1
              try clear c66b2
              try clear c72
              try clear c72b0
              try clear c72b1
              try clear c74
              try clear c74b0
              try clear hcz20_0
              try clear hcz20_1
              try clear hcz22_0
              try clear hcz22_1
              try clear hcz24_0
              try clear hcz24_1
              try clear hcz26_0
              try clear hcz26_1
              try clear hcz28_0
              try clear hcz28_1
              try clear hcz30_0
              try clear hcz30_1
              try clear hcz32_0
              try clear hcz32_1
              try clear hcz34_0
              try clear hcz34_1
              try clear hcz51_0
              try clear hcz51_1
              try clear hcz53_0
              try clear hcz53_1
              try clear hcz55_0
              try clear hcz55_1
              try clear hcz67_0
              try clear hcz67_1
              try clear hcz70_0
              try clear hcz70_1
              try clear hfz20_0
              try clear hfz20_1
              try clear hfz22_0
              try clear hfz22_1
              try clear hfz24_0
              try clear hfz24_1
              try clear hfz26_0
              try clear hfz26_1
              try clear hfz28_0
              try clear hfz28_1
              try clear hfz30_0
              try clear hfz30_1
              try clear hfz32_0
              try clear hfz32_1
              try clear hfz34_0
              try clear hfz34_1
              try clear hfz51_0
              try clear hfz51_1
              try clear hfz53_0
              try clear hfz53_1
              try clear hfz55_0
              try clear hfz55_1
              try clear hfz67_0
              try clear hfz67_1
              try clear hfz70_0
              try clear hfz70_1
              try clear p2
              try clear p6
              obtain ⟨kq, x210_72, rfl, HA, HJ72, BK217, HB⟩ := hcut
              cases kq with
              | zero => exact absurd HA.out (by simp [laws_FnFields.j2])
              | succ kj72 =>
                have H := HA.out
                clear HA
                simp only [laws_FnFields.j2] at H
                by_cases c75 : x210_72 = true
                · subst c75
                  have H1 : (some false) = some r := by rw [if_pos rfl] at H; exact H
                  clear H
                  have H := H1
                  clear H1
                  obtain rfl := Option.some.inj H
                  go_wp2
                  go_ret
                  exact ⟨by first | rfl | (simp [errW_none, errW_some] <;> rfl) | (simp only [← hji6, ← hji8]; first | rfl | (simp [errW_none, errW_some] <;> rfl)) | (simp [*, errW_none, errW_some] <;> rfl), by repeat (first | (with_reducible first | exact HB.out | apply below_alloc | apply pw_below_drewN | apply below_drew1 | refine below_set ?_ GE217.out) | exact HB.out)⟩
                · replace c75 := Bool.eq_false_iff.mpr c75
                  subst c75
                  have H1 : ((impl_MulIn.f kj72 t215 t216 t218 t237).bind fun bt239 => (if bt239.2 = 0 then (if bt239.1 = 1 then (laws_FnFields.j3 kj72 t215 t216) else (some false)) else (some false))) = some r := by rw [if_neg (show ¬ (false = true) by decide)] at H; exact H
                  clear H
                  have H := H1
                  clear H1
                  replace H := Option.bind_eq_some_iff.mp H
                  obtain ⟨⟨t239, t240⟩, A760, H⟩ := H
                  replace H : (if t240 = 0 then (if t239 = 1 then (laws_FnFields.j3 kj72 t215 t216) else (some false)) else (some false)) = some r := H
                  have A76 := Aside0.mk A760
                  clear A760
                  by_cases c77 : t240 = 0
                  · rw [if_pos c77] at H
                    have c77b0 : (t240 == 0) = true := beq_iff_eq.mpr c77
                    have c77b1 : (t240 != 0) = false := bne_eq_false_iff_eq.mpr c77
                    clear c77
                    by_cases c78 : t239 = 1
                    · rw [if_pos c78] at H
                      have c78b0 : (t239 == 1) = true := beq_iff_eq.mpr c78
                      have c78b1 : (t239 != 1) = false := bne_eq_false_iff_eq.mpr c78
                      clear c78
                      have H' := Aside0.mk H
                      clear H
                      have hcz79_0 : wc.cell? ⟨gb217, 0, none⟩ = some (.int .i64 t215) := (blk_cell BK217.out 0).trans rfl
                      have hcz79_1 : wc.cell? ⟨gb217, 1, none⟩ = some (.int .i64 t216) := (blk_cell BK217.out 1).trans rfl
                      have hfz79_0 := blk_frozen BK217.out 0
                      have hfz79_1 := blk_frozen BK217.out 1
                      go_wp2_with (first | ((with_reducible refine gate_callee (f := 26) rfl ?_); refine goesL_ (some 215) rfl rfl Try.func26 (by kernel_rfl) rfl #[.agg #[.int .i64 t215, .int .i64 t216], .int .i64 t218, .int .i64 t237] rfl (by (try simp only [List.map_toArray, List.map_cons, List.map_nil]); first | done | rfl | (simp only [List.length_drop, List.length_take]; rfl)) ?_; (with_reducible refine (impl_MulIn.calls kj72 t215 t216 t218 t237 t239 t240 _ A76.out).mono ?_); rintro e w80 ⟨rfl, hb⟩; refine ⟨_, rfl, ?_⟩; have n0_ := Aside0.mk (blk_below (g := gb217) (o := .cells #[.int .i64 t215, .int .i64 t216] 33 (0, 0)) (by (with_reducible repeat (first | refine blk_drewN ?_ _ | refine blk_drew ?_ | refine blk_alloc ?_ _)); exact BK217.out) hb); have n1_ := Aside0.mk (below_step (by repeat (first | (with_reducible first | exact HB.out | apply below_alloc | apply pw_below_drewN | apply below_drew1 | refine below_set ?_ GE217.out) | exact HB.out)) hb); clear BK217; clear HB; have BK217 := n0_; have HB := n1_; clear n0_ n1_; (try clear hb); (try clear hb2); (try clear hk); (try clear hi)))
                      go_meet
                      case rel => exact ⟨_, H', ⟨by have := HJ16.out; have := HJ49.out; have := HJ72.out; first | omega | exact Nat.le_refl _⟩, ⟨by (with_reducible repeat (first | refine blk_drewN ?_ _ | refine blk_drew ?_ | refine blk_alloc ?_ _)); exact BK217.out⟩, ⟨by repeat (first | (with_reducible first | exact HB.out | apply below_alloc | apply pw_below_drewN | apply below_drew1 | refine below_set ?_ GE217.out) | exact HB.out)⟩⟩
                    · rw [if_neg c78] at H
                      have c78b0 : (t239 == 1) = false := beq_eq_false_iff_ne.mpr c78
                      have c78b1 : (t239 != 1) = true := bne_iff_ne.mpr c78
                      obtain rfl := Option.some.inj H
                      have hcz81_0 : wc.cell? ⟨gb217, 0, none⟩ = some (.int .i64 t215) := (blk_cell BK217.out 0).trans rfl
                      have hcz81_1 : wc.cell? ⟨gb217, 1, none⟩ = some (.int .i64 t216) := (blk_cell BK217.out 1).trans rfl
                      have hfz81_0 := blk_frozen BK217.out 0
                      have hfz81_1 := blk_frozen BK217.out 1
                      go_wp2_with (first | ((with_reducible refine gate_callee (f := 26) rfl ?_); refine goesL_ (some 215) rfl rfl Try.func26 (by kernel_rfl) rfl #[.agg #[.int .i64 t215, .int .i64 t216], .int .i64 t218, .int .i64 t237] rfl (by (try simp only [List.map_toArray, List.map_cons, List.map_nil]); first | done | rfl | (simp only [List.length_drop, List.length_take]; rfl)) ?_; (with_reducible refine (impl_MulIn.calls kj72 t215 t216 t218 t237 t239 t240 _ A76.out).mono ?_); rintro e w82 ⟨rfl, hb⟩; refine ⟨_, rfl, ?_⟩; have n0_ := Aside0.mk (blk_below (g := gb217) (o := .cells #[.int .i64 t215, .int .i64 t216] 33 (0, 0)) (by (with_reducible repeat (first | refine blk_drewN ?_ _ | refine blk_drew ?_ | refine blk_alloc ?_ _)); exact BK217.out) hb); have n1_ := Aside0.mk (below_step (by repeat (first | (with_reducible first | exact HB.out | apply below_alloc | apply pw_below_drewN | apply below_drew1 | refine below_set ?_ GE217.out) | exact HB.out)) hb); clear BK217; clear HB; have BK217 := n0_; have HB := n1_; clear n0_ n1_; (try clear hb); (try clear hb2); (try clear hk); (try clear hi)))
                      go_ret
                      exact ⟨by first | rfl | (simp [errW_none, errW_some] <;> rfl) | (simp only [← hji6, ← hji8]; first | rfl | (simp [errW_none, errW_some] <;> rfl)) | (simp [*, errW_none, errW_some] <;> rfl), by repeat (first | (with_reducible first | exact HB.out | apply below_alloc | apply pw_below_drewN | apply below_drew1 | refine below_set ?_ GE217.out) | exact HB.out)⟩
                  · rw [if_neg c77] at H
                    have c77b0 : (t240 == 0) = false := beq_eq_false_iff_ne.mpr c77
                    have c77b1 : (t240 != 0) = true := bne_iff_ne.mpr c77
                    obtain rfl := Option.some.inj H
                    have hcz83_0 : wc.cell? ⟨gb217, 0, none⟩ = some (.int .i64 t215) := (blk_cell BK217.out 0).trans rfl
                    have hcz83_1 : wc.cell? ⟨gb217, 1, none⟩ = some (.int .i64 t216) := (blk_cell BK217.out 1).trans rfl
                    have hfz83_0 := blk_frozen BK217.out 0
                    have hfz83_1 := blk_frozen BK217.out 1
                    go_wp2_with (first | ((with_reducible refine gate_callee (f := 26) rfl ?_); refine goesL_ (some 215) rfl rfl Try.func26 (by kernel_rfl) rfl #[.agg #[.int .i64 t215, .int .i64 t216], .int .i64 t218, .int .i64 t237] rfl (by (try simp only [List.map_toArray, List.map_cons, List.map_nil]); first | done | rfl | (simp only [List.length_drop, List.length_take]; rfl)) ?_; (with_reducible refine (impl_MulIn.calls kj72 t215 t216 t218 t237 t239 t240 _ A76.out).mono ?_); rintro e w84 ⟨rfl, hb⟩; refine ⟨_, rfl, ?_⟩; have n0_ := Aside0.mk (blk_below (g := gb217) (o := .cells #[.int .i64 t215, .int .i64 t216] 33 (0, 0)) (by (with_reducible repeat (first | refine blk_drewN ?_ _ | refine blk_drew ?_ | refine blk_alloc ?_ _)); exact BK217.out) hb); have n1_ := Aside0.mk (below_step (by repeat (first | (with_reducible first | exact HB.out | apply below_alloc | apply pw_below_drewN | apply below_drew1 | refine below_set ?_ GE217.out) | exact HB.out)) hb); clear BK217; clear HB; have BK217 := n0_; have HB := n1_; clear n0_ n1_; (try clear hb); (try clear hb2); (try clear hk); (try clear hi)))
                    go_ret
                    exact ⟨by first | rfl | (simp [errW_none, errW_some] <;> rfl) | (simp only [← hji6, ← hji8]; first | rfl | (simp [errW_none, errW_some] <;> rfl)) | (simp [*, errW_none, errW_some] <;> rfl), by repeat (first | (with_reducible first | exact HB.out | apply below_alloc | apply pw_below_drewN | apply below_drew1 | refine below_set ?_ GE217.out) | exact HB.out)⟩
        case rest =>
          clear HC69
          try clear c1
          try clear c2
          try clear p2
          try clear c3
          try clear c4
          try clear c5
          try clear c6
          try clear p6
          try clear c7
          try clear c7b0
          try clear c7b1
          try clear c8
          try clear c23
          try clear c24
          try clear c25
          try clear c26
          try clear c27
          try clear c36
          try clear c36b0
          try clear c36b1
          try clear c37
          try clear c37b0
          try clear c37b1
          try clear c38
          try clear c38b0
          try clear c38b1
          try clear c39
          try clear c39b0
          try clear c39b1
          try clear c40
          try clear c40b0
          try clear c40b1
          try clear c41
          try clear c41b0
          try clear c41b1
          try clear c42
          try clear c42b0
          try clear c42b1
          try clear c43
          try clear c43b0
          try clear c44
          try clear c44b0
          try clear c45
          try clear c45b0
          try clear c46
          try clear c57
          try clear c57b0
          try clear c57b1
          try clear c58
          try clear c58b0
          try clear c58b1
          try clear c59
          try clear c59b0
          try clear c59b1
          try clear c60
          try clear c60b0
          try clear c60b1
          try clear c61
          try clear c61b0
          try clear c61b1
          try clear c62
          try clear c62b0
          try clear c62b1
          try clear c63
          try clear c63b0
          try clear c63b1
          try clear c64
          try clear c66
          try clear c66b0
          try clear c66b1
          try clear c66b2
          try clear c72
          try clear c72b0
          try clear c72b1
          try clear c74
          try clear c74b0
          try clear c75
          try clear c77
          try clear c77b0
          try clear c77b1
          try clear c78
          try clear c78b0
          try clear c78b1
          try clear hcz20_0
          try clear hcz20_1
          try clear hcz22_0
          try clear hcz22_1
          try clear hcz24_0
          try clear hcz24_1
          try clear hcz26_0
          try clear hcz26_1
          try clear hcz28_0
          try clear hcz28_1
          try clear hcz30_0
          try clear hcz30_1
          try clear hcz32_0
          try clear hcz32_1
          try clear hcz34_0
          try clear hcz34_1
          try clear hcz51_0
          try clear hcz51_1
          try clear hcz53_0
          try clear hcz53_1
          try clear hcz55_0
          try clear hcz55_1
          try clear hcz67_0
          try clear hcz67_1
          try clear hcz70_0
          try clear hcz70_1
          try clear hcz79_0
          try clear hcz79_1
          try clear hcz81_0
          try clear hcz81_1
          try clear hcz83_0
          try clear hcz83_1
          try clear hfz20_0
          try clear hfz20_1
          try clear hfz22_0
          try clear hfz22_1
          try clear hfz24_0
          try clear hfz24_1
          try clear hfz26_0
          try clear hfz26_1
          try clear hfz28_0
          try clear hfz28_1
          try clear hfz30_0
          try clear hfz30_1
          try clear hfz32_0
          try clear hfz32_1
          try clear hfz34_0
          try clear hfz34_1
          try clear hfz51_0
          try clear hfz51_1
          try clear hfz53_0
          try clear hfz53_1
          try clear hfz55_0
          try clear hfz55_1
          try clear hfz67_0
          try clear hfz67_1
          try clear hfz70_0
          try clear hfz70_1
          try clear hfz79_0
          try clear hfz79_1
          try clear hfz81_0
          try clear hfz81_1
          try clear hfz83_0
          try clear hfz83_1
          try clear p2
          try clear p6
          rename_i zz3_1 zz3_2 zz3_3 zz3_4 zz3_5 zz3_6 zz3_7 zz3_8 zz3_9 zz3_10 zz3_11 zz3_12 zz3_13 zz3_14 zz3_15 zz3_16 zz3_17 zz3_18 zz3_19 zz3_20 zz3_21 zz3_22 zz3_23 zz3_24 zz3_25 zz3_26 zz3_27 zz3_28 zz3_29 zz3_30 zz3_31 zz3_32 zz3_33 zz3_34 zz3_35 zz3_36 zz3_37 zz3_38 zz3_39 zz3_40 zz3_41 zz3_42 zz3_43 zz3_44 zz3_45 zz3_46 zz3_47 zz3_48 zz3_49 zz3_50 zz3_51 zz3_52 zz3_53 zz3_54 zz3_55 zz3_56 zz3_57 zz3_58 zz3_59 zz3_60 zz3_61 zz3_62 zz3_63 zz3_64 zz3_65 zz3_66 zz3_67 zz3_68 zz3_69 zz3_70 zz3_71 zz3_72 zz3_73 zz3_74 zz3_75 zz3_76 zz3_77 zz3_78 zz3_79 zz3_80 zz3_81 zz3_82 zz3_83 zz3_84 zz3_85 zz3_86 zz3_87 zz3_88 zz3_89 zz3_90 zz3_91 zz3_92 zz3_93 zz3_94 zz3_95 zz3_96 zz3_97 zz3_98 zz3_99 zz3_100 zz3_101 zz3_102 zz3_103 zz3_104 zz3_105 zz3_106 zz3_107 zz3_108 zz3_109 zz3_110 zz3_111 zz3_112 zz3_113 zz3_114 zz3_115 zz3_116 zz3_117 zz3_118 zz3_119 zz3_120 zz3_121 zz3_122 zz3_123 zz3_124 zz3_125 zz3_126 zz3_127 zz3_128 zz3_129 zz3_130 zz3_131 zz3_132 zz3_133 zz3_134 zz3_135 zz3_136 zz3_137 zz3_138 zz3_139 zz3_140 zz3_141 zz3_142 zz3_143 zz3_144 zz3_145 zz3_146 zz3_147 zz3_148 zz3_149 zz3_150 zz3_151 zz3_152 zz3_153 zz3_154 zz3_155 zz3_156 zz3_157 zz3_158 zz3_159 zz3_160 zz3_161 zz3_162 zz3_163 zz3_164 zz3_165 zz3_166 zz3_167 zz3_168 zz3_169 zz3_170 zz3_171 zz3_172 zz3_173 zz3_174 zz3_175 zz3_176 zz3_177 zz3_178 zz3_179 zz3_180 zz3_181 zz3_182 zz3_183 zz3_184 zz3_185 zz3_186 zz3_187 zz3_188 zz3_189 zz3_190 zz3_191 zz3_192 zz3_193 zz3_194 zz3_195 zz3_196 zz3_197 zz3_198 zz3_199 zz3_200 zz3_201 zz3_202 zz3_203 zz3_204 zz3_205 zz3_206 zz3_207 zz3_208 zz3_209 zz3_210 zz3_211 zz3_212 zz3_213 zz3_214 zz3_215 zz3_216 zz3_217 zz3_218 zz3_219 zz3_220 zz3_221 zz3_222 zz3_223 zz3_224 zz3_225 zz3_226 zz3_227 zz3_228 zz3_229 zz3_230 zz3_231 zz3_232 zz3_233 zz3_234 zz3_235 zz3_236 zz3_237 zz3_238 zz3_239 zz3_240 zz3_241 zz3_242 zz3_243 zz3_244 zz3_245 zz3_246 zz3_247 zz3_248 zz3_249 zz3_250 zz3_251 zz3_252 zz3_253 zz3_254 zz3_255 zz3_256 zz3_257 zz3_258 zz3_259 zz3_260 zz3_261 zz3_262 zz3_263 zz3_264 zz3_265
          revert k A0 c0 l0 A1 c1 l1 r w hu33 HR0 HC0 HR1 HC1 A3 t215 t216 A5 ji6 hji6 ji8 hji8 hji8_ hji8z hji8u hji8v hji8y hji8x t218 A9 t219 A10 t220 A11 t221 t222 A12 t223 t224 A13 t225 t226 A14 t227 t228 A15 t229 t230 A16 zz1_1 nd zz1_2 w18 gb217 w19 GW217 GE217 w21 w23 w25 w27 w29 w31 w33 w35 zz2_1 zz2_2 zz2_3 zz2_4 zz2_5 zz2_6 zz2_7 zz2_8 zz2_9 zz2_10 zz2_11 zz2_12 zz2_13 zz2_14 zz2_15 zz2_16 zz2_17 zz2_18 zz2_19 zz2_20 zz2_21 zz2_22 zz2_23 zz2_24 zz2_25 zz2_26 zz2_27 zz2_28 zz2_29 zz2_30 zz2_31 zz2_32 zz2_33 zz2_34 zz2_35 zz2_36 zz2_37 zz2_38 zz2_39 zz2_40 zz2_41 zz2_42 zz2_43 zz2_44 zz2_45 zz2_46 zz2_47 zz2_48 zz2_49 zz2_50 zz2_51 zz2_52 zz2_53 zz2_54 zz2_55 zz2_56 zz2_57 zz2_58 zz2_59 zz2_60 zz2_61 zz2_62 zz2_63 zz2_64 zz2_65 zz2_66 zz2_67 zz2_68 zz2_69 zz2_70 zz2_71 zz2_72 zz2_73 zz2_74 zz2_75 zz2_76 zz2_77 zz2_78 zz2_79 zz2_80 zz2_81 zz2_82 zz2_83 zz2_84 zz2_85 zz2_86 zz2_87 zz2_88 zz2_89 zz2_90 zz2_91 zz2_92 zz2_93 zz2_94 zz2_95 zz2_96 zz2_97 zz2_98 zz2_99 zz2_100 zz2_101 zz2_102 zz2_103 zz2_104 zz2_105 zz2_106 zz2_107 zz2_108 zz2_109 zz2_110 zz2_111 zz2_112 zz2_113 zz2_114 zz2_115 zz2_116 zz2_117 zz2_118 zz2_119 zz2_120 zz2_121 zz2_122 zz2_123 zz2_124 zz2_125 zz2_126 zz2_127 zz2_128 zz2_129 zz2_130 zz2_131 zz2_132 zz2_133 zz2_134 zz2_135 zz2_136 zz2_137 zz2_138 zz2_139 zz2_140 zz2_141 zz2_142 zz2_143 zz2_144 zz2_145 zz2_146 zz2_147 zz2_148 zz2_149 zz2_150 zz2_151 zz2_152 zz2_153 zz2_154 zz2_155 zz2_156 zz2_157 zz2_158 zz2_159 zz2_160 zz2_161 zz2_162 zz2_163 zz2_164 zz2_165 zz2_166 zz2_167 zz2_168 zz2_169 zz2_170 zz2_171 zz2_172 zz2_173 zz2_174 zz2_175 zz2_176 zz2_177 zz2_178 zz2_179 zz2_180 zz2_181 zz2_182 zz2_183 zz2_184 zz2_185 zz2_186 zz2_187 zz2_188 zz2_189 zz2_190 zz2_191 zz2_192 zz2_193 zz2_194 zz2_195 zz2_196 zz2_197 zz2_198 zz2_199 zz2_200 zz2_201 zz2_202 zz2_203 zz2_204 zz2_205 zz2_206 zz2_207 zz2_208 zz2_209 zz2_210 zz2_211 zz2_212 zz2_213 zz2_214 zz2_215 zz2_216 zz2_217 zz2_218 zz2_219 zz2_220 zz2_221 zz2_222 zz2_223 zz2_224 zz2_225 zz2_226 zz2_227 zz2_228 zz2_229 zz2_230 zz2_231 zz2_232 zz2_233 zz2_234 zz2_235 zz2_236 zz2_237 zz2_238 zz2_239 zz2_240 zz2_241 zz2_242 zz2_243 zz2_244 zz2_245 zz2_246 zz2_247 zz2_248 zz2_249 zz2_250 zz2_251 zz2_252 zz2_253 zz2_254 zz2_255 zz2_256 zz2_257 zz2_258 zz2_259 zz2_260 zz2_261 zz2_262 zz2_263 kj16 HJ16 t231 t232 A47 t233 t234 A48 t235 t236 A49 w52 w54 w56 zz3_1 zz3_2 zz3_3 zz3_4 zz3_5 zz3_6 zz3_7 zz3_8 zz3_9 zz3_10 zz3_11 zz3_12 zz3_13 zz3_14 zz3_15 zz3_16 zz3_17 zz3_18 zz3_19 zz3_20 zz3_21 zz3_22 zz3_23 zz3_24 zz3_25 zz3_26 zz3_27 zz3_28 zz3_29 zz3_30 zz3_31 zz3_32 zz3_33 zz3_34 zz3_35 zz3_36 zz3_37 zz3_38 zz3_39 zz3_40 zz3_41 zz3_42 zz3_43 zz3_44 zz3_45 zz3_46 zz3_47 zz3_48 zz3_49 zz3_50 zz3_51 zz3_52 zz3_53 zz3_54 zz3_55 zz3_56 zz3_57 zz3_58 zz3_59 zz3_60 zz3_61 zz3_62 zz3_63 zz3_64 zz3_65 zz3_66 zz3_67 zz3_68 zz3_69 zz3_70 zz3_71 zz3_72 zz3_73 zz3_74 zz3_75 zz3_76 zz3_77 zz3_78 zz3_79 zz3_80 zz3_81 zz3_82 zz3_83 zz3_84 zz3_85 zz3_86 zz3_87 zz3_88 zz3_89 zz3_90 zz3_91 zz3_92 zz3_93 zz3_94 zz3_95 zz3_96 zz3_97 zz3_98 zz3_99 zz3_100 zz3_101 zz3_102 zz3_103 zz3_104 zz3_105 zz3_106 zz3_107 zz3_108 zz3_109 zz3_110 zz3_111 zz3_112 zz3_113 zz3_114 zz3_115 zz3_116 zz3_117 zz3_118 zz3_119 zz3_120 zz3_121 zz3_122 zz3_123 zz3_124 zz3_125 zz3_126 zz3_127 zz3_128 zz3_129 zz3_130 zz3_131 zz3_132 zz3_133 zz3_134 zz3_135 zz3_136 zz3_137 zz3_138 zz3_139 zz3_140 zz3_141 zz3_142 zz3_143 zz3_144 zz3_145 zz3_146 zz3_147 zz3_148 zz3_149 zz3_150 zz3_151 zz3_152 zz3_153 zz3_154 zz3_155 zz3_156 zz3_157 zz3_158 zz3_159 zz3_160 zz3_161 zz3_162 zz3_163 zz3_164 zz3_165 zz3_166 zz3_167 zz3_168 zz3_169 zz3_170 zz3_171 zz3_172 zz3_173 zz3_174 zz3_175 zz3_176 zz3_177 zz3_178 zz3_179 zz3_180 zz3_181 zz3_182 zz3_183 zz3_184 zz3_185 zz3_186 zz3_187 zz3_188 zz3_189 zz3_190 zz3_191 zz3_192 zz3_193 zz3_194 zz3_195 zz3_196 zz3_197 zz3_198 zz3_199 zz3_200 zz3_201 zz3_202 zz3_203 zz3_204 zz3_205 zz3_206 zz3_207 zz3_208 zz3_209 zz3_210 zz3_211 zz3_212 zz3_213 zz3_214 zz3_215 zz3_216 zz3_217 zz3_218 zz3_219 zz3_220 zz3_221 zz3_222 zz3_223 zz3_224 zz3_225 zz3_226 zz3_227 zz3_228 zz3_229 zz3_230 zz3_231 zz3_232 zz3_233 zz3_234 zz3_235 zz3_236 zz3_237 zz3_238 zz3_239 zz3_240 zz3_241 zz3_242 zz3_243 zz3_244 zz3_245 zz3_246 zz3_247 zz3_248 zz3_249 zz3_250 zz3_251 zz3_252 zz3_253 zz3_254 zz3_255 zz3_256 zz3_257 zz3_258 zz3_259 zz3_260 zz3_261 zz3_262 zz3_263 kj49 HJ49 t237 t238 A65 w71 BK217 HB zz3_264 zz3_265 wc u4 u28 u29 u36 u37 u38 u39 u40 u41 u42 u43 u44 u45 u46 u47 u48 u49 u50 u51 u52 u53 u54 u55 u56 u57 u58 u59 u60 u61 u62 u63 u64 u65 u66 u67 u68 u69 u70 u71 u72 u73 u74 u75 u76 u77 u78 u79 u80 u81 u82 u83 u84 u85 u86 u87 u88 u89 u90 u91 u92 u93 u94 u95 u96 u97 u98 u99 u100 u101 u102 u103 u104 u105 u106 u107 u108 u109 u110 u111 u112 u113 u114 u115 u116 u117 u118 u119 u120 u121 u122 u123 u124 u125 u126 u127 u128 u129 u130 u131 u132 u133 u134 u135 u136 u137 u138 u139 u140 u141 u142 u143 u144 u145 u146 u147 u148 u149 u150 u151 u152 u153 u154 u155 u156 u157 u158 u159 u160 u161 u162 u163 u164 u165 u166 u167 u168 u169 u170 u171 u172 u173 u174 u175 u176 u177 u178 u179 u180 u181 u182 u183 u184 u185 u186 u187 u188 u189 u190 u191 u192 u193 u194 u195 u196 u197 u198 u199 u200 u201 u202 u203 u204 u205 u206 u207 u208 u209 u210 u211 u212 u213 u214 u215 u216 u217 u218 u219 u220 u221 u222 u223 u224 u225 u226 u227 u228 u229 u230 u231 u232 u233 u234 u235 u236 u237 u238 u239 u240 u241 u242 u243 u244 u245 u246 u247 u248 u249 u250 u251 u252 u253 u254 u255 u256 u257 u258 u259 u260 u261 u262 u263 u264 u265 u266 u267 u268 u269 u270 u271 u272 u273 u274 u275 u276 u277 u278 u279 u280 u281 u282 u283 u284 u285 u286 u287 u288 u289 u290 u291 u292 u293 u294 u295 u296 hcut
          exact HLATER3.out

end Go.Proofs.Ytkebapmicgkcdaa.PFnFields
