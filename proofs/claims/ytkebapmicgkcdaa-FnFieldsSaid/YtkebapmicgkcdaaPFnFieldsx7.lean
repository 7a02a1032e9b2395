-- Written by this session's driver wip/tools/myprint.py over the kit's print, out of Lean's print of the translation, with own texts for what the print does not take. Lean checks it.
import Derived.Test.YtkebapmicgkcdaaPFnFieldsx6
namespace Go.Proofs.Ytkebapmicgkcdaa.PFnFields
open Go.RowKit Go.Proofs.YtkebapmicgkcdaaW.PrintWords Go.Proofs.YtkebapmicgkcdaaW.PrintLast Go.Proofs.YtkebapmicgkcdaaW.PrintMore
attribute [local go_sem] max2_int min2_int max_two min_two max_three min_three max_four min_four   -- for this text's walks alone
set_option linter.unusedVariables false
set_option linter.unusedSimpArgs false
attribute [local go_sem high] eqA33

set_option maxHeartbeats 8000000 in
set_option maxRecDepth 100000 in
def laws_FnFields.part2 : Σ' X : Prop, (Later X → laws_FnFields.part1.1) := by
  apply PSigma.mk
  case snd =>
  intro HLATER2 
  intro k A0 c0 l0 A1 c1 l1 r w hu33 HR0 HC0 HR1 HC1 A3 t215 t216 A5 ji6 hji6 ji8 hji8 hji8_ hji8z hji8u hji8v hji8y hji8x t218 A9 t219 A10 t220 A11 t221 t222 A12 t223 t224 A13 t225 t226 A14 t227 t228 A15 t229 t230 A16 zz1_1 nd zz1_2 w18 gb217 w19 GW217 GE217 w21 w23 w25 w27 w29 w31 w33 w35 BK217 HB zz1_3 zz1_4 zz1_5 zz1_6 wc u36 u37 u38 u39 u40 u41 u42 u43 u44 u45 u46 u47 u48 u49 u50 u51 u52 u53 u54 u55 u56 u57 u58 u59 u60 u61 u62 u63 u64 u65 u66 u67 u68 u69 u70 u71 u72 u73 u74 u75 u76 u77 u78 u79 u80 u81 u82 u83 u84 u85 u86 u87 u88 u89 u90 u91 u92 u93 u94 u95 u96 u97 u98 u99 u100 u101 u102 u103 u104 u105 u106 u107 u108 u109 u110 u111 u112 u113 u114 u115 u116 u117 u118 u119 u120 u121 u122 u123 u124 u125 u126 u127 u128 u129 u130 u131 u132 u133 u134 u135 u136 u137 u138 u139 u140 u141 u142 u143 u144 u145 u146 u147 u148 u149 u150 u151 u152 u153 u154 u155 u156 u157 u158 u159 u160 u161 u162 u163 u164 u165 u166 u167 u168 u169 u170 u171 u172 u173 u174 u175 u176 u177 u178 u179 u180 u181 u182 u183 u184 u185 u186 u187 u188 u189 u190 u191 u192 u193 u194 u195 u196 u197 u198 u199 u200 u201 u202 u203 u204 u205 u206 u207 u208 u209 u210 u211 u212 u213 u214 u215 u216 u217 u218 u219 u220 u221 u222 u223 u224 u225 u226 u227 u228 u229 u230 u231 u232 u233 u234 u235 u236 u237 u238 u239 u240 u241 u242 u243 u244 u245 u246 u247 u248 u249 u250 u251 u252 u253 u254 u255 u256 u257 u258 u259 u260 u261 u262 u263 u264 u265 u266 u267 u268 u269 u270 u271 u272 u273 u274 u275 u276 u277 u278 u279 u280 u281 u282 u283 u284 u285 u286 u287 u288 u289 u290 u291 u292 u293 u294 u295 u296 hcut
  obtain ⟨kq, x138_16, rfl, HA, HJ16, BK217, HB⟩ := hcut
  cases kq with
  | zero => exact absurd HA.out (by simp [laws_FnFields.j0])
  | succ kj16 =>
    have H := HA.out
    clear HA
    simp only [laws_FnFields.j0] at H
    by_cases c46 : x138_16 = true
    · subst c46
      have H1 : (some false) = some r := by rw [if_pos rfl] at H; exact H
      clear H
      have H := H1
      clear H1
      obtain rfl := Option.some.inj H
      go_wp2
      go_ret
      exact ⟨by first | rfl | (simp [errW_none, errW_some] <;> rfl) | (simp only [← hji6, ← hji8]; first | rfl | (simp [errW_none, errW_some] <;> rfl)) | (simp [*, errW_none, errW_some] <;> rfl), by repeat (first | (with_reducible first | exact HB.out | apply below_alloc | apply pw_below_drewN | apply below_drew1 | refine below_set ?_ GE217.out) | exact HB.out)⟩
    · replace c46 := Bool.eq_false_iff.mpr c46
      subst c46
      have H1 : ((impl_MulIn.f kj16 t215 t216 t221 t220).bind fun bt231 => ((impl_MulIn.f kj16 t215 t216 t218 t229).bind fun bt233 => ((impl_MulIn.f kj16 t215 t216 t218 1).bind fun bt235 => (if bt231.2 = 0 then (if bt233.2 = 0 then (if bt235.2 = 0 then (if bt231.1 = bt233.1 then (if bt235.1 = t218 then (if t218 = 0 then (laws_FnFields.j1 kj16 ji8 t218 false t215 t216) else (if t219 = 0 then (laws_FnFields.j1 kj16 ji8 t218 false t215 t216) else (laws_FnFields.j1 kj16 ji8 t218 (t221 == 0) t215 t216))) else (laws_FnFields.j1 kj16 ji8 t218 true t215 t216)) else (laws_FnFields.j1 kj16 ji8 t218 true t215 t216)) else (laws_FnFields.j1 kj16 ji8 t218 true t215 t216)) else (laws_FnFields.j1 kj16 ji8 t218 true t215 t216)) else (laws_FnFields.j1 kj16 ji8 t218 true t215 t216))))) = some r := by rw [if_neg (show ¬ (false = true) by decide)] at H; exact H
      clear H
      have H := H1
      clear H1
      replace H := Option.bind_eq_some_iff.mp H
      obtain ⟨⟨t231, t232⟩, A470, H⟩ := H
      replace H : ((impl_MulIn.f kj16 t215 t216 t218 t229).bind fun bt233 => ((impl_MulIn.f kj16 t215 t216 t218 1).bind fun bt235 => (if t232 = 0 then (if bt233.2 = 0 then (if bt235.2 = 0 then (if t231 = bt233.1 then (if bt235.1 = t218 then (if t218 = 0 then (laws_FnFields.j1 kj16 ji8 t218 false t215 t216) else (if t219 = 0 then (laws_FnFields.j1 kj16 ji8 t218 false t215 t216) else (laws_FnFields.j1 kj16 ji8 t218 (t221 == 0) t215 t216))) else (laws_FnFields.j1 kj16 ji8 t218 true t215 t216)) else (laws_FnFields.j1 kj16 ji8 t218 true t215 t216)) else (laws_FnFields.j1 kj16 ji8 t218 true t215 t216)) else (laws_FnFields.j1 kj16 ji8 t218 true t215 t216)) else (laws_FnFields.j1 kj16 ji8 t218 true t215 t216)))) = some r := H
      have A47 := Aside0.mk A470
      clear A470
      replace H := Option.bind_eq_some_iff.mp H
      obtain ⟨⟨t233, t234⟩, A480, H⟩ := H
      replace H : ((impl_MulIn.f kj16 t215 t216 t218 1).bind fun bt235 => (if t232 = 0 then (if t234 = 0 then (if bt235.2 = 0 then (if t231 = t233 then (if bt235.1 = t218 then (if t218 = 0 then (laws_FnFields.j1 kj16 ji8 t218 false t215 t216) else (if t219 = 0 then (laws_FnFields.j1 kj16 ji8 t218 false t215 t216) else (laws_FnFields.j1 kj16 ji8 t218 (t221 == 0) t215 t216))) else (laws_FnFields.j1 kj16 ji8 t218 true t215 t216)) else (laws_FnFields.j1 kj16 ji8 t218 true t215 t216)) else (laws_FnFields.j1 kj16 ji8 t218 true t215 t216)) else (laws_FnFields.j1 kj16 ji8 t218 true t215 t216)) else (laws_FnFields.j1 kj16 ji8 t218 true t215 t216))) = some r := H
      have A48 := Aside0.mk A480
      clear A480
      replace H := Option.bind_eq_some_iff.mp H
      obtain ⟨⟨t235, t236⟩, A490, H⟩ := H
      replace H : (if t232 = 0 then (if t234 = 0 then (if t236 = 0 then (if t231 = t233 then (if t235 = t218 then (if t218 = 0 then (laws_FnFields.j1 kj16 ji8 t218 false t215 t216) else (if t219 = 0 then (laws_FnFields.j1 kj16 ji8 t218 false t215 t216) else (laws_FnFields.j1 kj16 ji8 t218 (t221 == 0) t215 t216))) else (laws_FnFields.j1 kj16 ji8 t218 true t215 t216)) else (laws_FnFields.j1 kj16 ji8 t218 true t215 t216)) else (laws_FnFields.j1 kj16 ji8 t218 true t215 t216)) else (laws_FnFields.j1 kj16 ji8 t218 true t215 t216)) else (laws_FnFields.j1 kj16 ji8 t218 true t215 t216)) = some r := H
      have A49 := Aside0.mk A490
      clear A490
      have HC50 := Aside0.mk H
      clear H
      have hcz51_0 : wc.cell? ⟨gb217, 0, none⟩ = some (.int .i64 t215) := (blk_cell BK217.out 0).trans rfl
      have hcz51_1 : wc.cell? ⟨gb217, 1, none⟩ = some (.int .i64 t216) := (blk_cell BK217.out 1).trans rfl
      have hfz51_0 := blk_frozen BK217.out 0
      have hfz51_1 := blk_frozen BK217.out 1
      go_upto_region 18 with (first | ((with_reducible refine gate_callee (f := 26) rfl ?_); refine goesL_ (some 143) rfl rfl Try.func26 (by kernel_rfl) rfl #[.agg #[.int .i64 t215, .int .i64 t216], .int .i64 t221, .int .i64 t220] rfl (by (try simp only [List.map_toArray, List.map_cons, List.map_nil]); first | done | rfl | (simp only [List.length_drop, List.length_take]; rfl)) ?_; (with_reducible refine (impl_MulIn.calls kj16 t215 t216 t221 t220 t231 t232 _ A47.out).mono ?_); rintro e w52 ⟨rfl, hb⟩; refine ⟨_, rfl, ?_⟩; have n0_ := Aside0.mk (blk_below (g := gb217) (o := .cells #[.int .i64 t215, .int .i64 t216] 33 (0, 0)) (by (with_reducible repeat (first | refine blk_drewN ?_ _ | refine blk_drew ?_ | refine blk_alloc ?_ _)); exact BK217.out) hb); have n1_ := Aside0.mk (below_step (by repeat (first | (with_reducible first | exact HB.out | apply below_alloc | apply pw_below_drewN | apply below_drew1 | refine below_set ?_ GE217.out) | exact HB.out)) hb); clear BK217; clear HB; have BK217 := n0_; have HB := n1_; clear n0_ n1_; (try clear hb); (try clear hb2); (try clear hk); (try clear hi); have hcz53_0 : w52.cell? ⟨gb217, 0, none⟩ = some (.int .i64 t215) := (blk_cell BK217.out 0).trans rfl; have hcz53_1 : w52.cell? ⟨gb217, 1, none⟩ = some (.int .i64 t216) := (blk_cell BK217.out 1).trans rfl; have hfz53_0 := blk_frozen BK217.out 0; have hfz53_1 := blk_frozen BK217.out 1) | ((with_reducible refine gate_callee (f := 26) rfl ?_); refine goesL_ (some 150) rfl rfl Try.func26 (by kernel_rfl) rfl #[.agg #[.int .i64 t215, .int .i64 t216], .int .i64 t218, .int .i64 t229] rfl (by (try simp only [List.map_toArray, List.map_cons, List.map_nil]); first | done | rfl | (simp only [List.length_drop, List.length_take]; rfl)) ?_; (with_reducible refine (impl_MulIn.calls kj16 t215 t216 t218 t229 t233 t234 _ A48.out).mono ?_); rintro e w54 ⟨rfl, hb⟩; refine ⟨_, rfl, ?_⟩; have n0_ := Aside0.mk (blk_below (g := gb217) (o := .cells #[.int .i64 t215, .int .i64 t216] 33 (0, 0)) (by (with_reducible repeat (first | refine blk_drewN ?_ _ | refine blk_drew ?_ | refine blk_alloc ?_ _)); exact BK217.out) hb); have n1_ := Aside0.mk (below_step (by repeat (first | (with_reducible first | exact HB.out | apply below_alloc | apply pw_below_drewN | apply below_drew1 | refine below_set ?_ GE217.out) | exact HB.out)) hb); clear BK217; clear HB; have BK217 := n0_; have HB := n1_; clear n0_ n1_; (try clear hb); (try clear hb2); (try clear hk); (try clear hi); have hcz55_0 : w54.cell? ⟨gb217, 0, none⟩ = some (.int .i64 t215) := (blk_cell BK217.out 0).trans rfl; have hcz55_1 : w54.cell? ⟨gb217, 1, none⟩ = some (.int .i64 t216) := (blk_cell BK217.out 1).trans rfl; have hfz55_0 := blk_frozen BK217.out 0; have hfz55_1 := blk_frozen BK217.out 1) | ((with_reducible refine gate_callee (f := 26) rfl ?_); refine goesL_ (some 156) rfl rfl Try.func26 (by kernel_rfl) rfl #[.agg #[.int .i64 t215, .int .i64 t216], .int .i64 t218, .int .i64 1] rfl (by (try simp only [List.map_toArray, List.map_cons, List.map_nil]); first | done | rfl | (simp only [List.length_drop, List.length_take]; rfl)) ?_; (with_reducible refine (impl_MulIn.calls kj16 t215 t216 t218 1 t235 t236 _ A49.out).mono ?_); rintro e w56 ⟨rfl, hb⟩; refine ⟨_, rfl, ?_⟩; have n0_ := Aside0.mk (blk_below (g := gb217) (o := .cells #[.int .i64 t215, .int .i64 t216] 33 (0, 0)) (by (with_reducible repeat (first | refine blk_drewN ?_ _ | refine blk_drew ?_ | refine blk_alloc ?_ _)); exact BK217.out) hb); have n1_ := Aside0.mk (below_step (by repeat (first | (with_reducible first | exact HB.out | apply below_alloc | apply pw_below_drewN | apply below_drew1 | refine below_set ?_ GE217.out) | exact HB.out)) hb); clear BK217; clear HB; have BK217 := n0_; have HB := n1_; clear n0_ n1_; (try clear hb); (try clear hb2); (try clear hk); (try clear hi)))
      (try simp only [Act.put, List.setIfInBounds_toArray, List.set_cons_zero, List.set_cons_succ])
      go_cut [190] (fun v190 wc => ∃ (kq : Nat) (x190_49 : Bool), v190 = .bool x190_49 ∧ Aside0 (laws_FnFields.j1 kq ji8 t218 x190_49 t215 t216 = some r) ∧ Aside0 (kq ≤ kj16) ∧ Aside0 (wc.heap[gb217]? = some (.cells #[.int .i64 t215, .int .i64 t216] 33 (0, 0))) ∧ Aside0 (Below w.heap.size w wc))
      case first =>
        have H := HC50.out
        clear HC50
        by_cases c57 : t232 = 0
        · rw [if_pos c57] at H
          have c57b0 : (t232 == 0) = true := beq_iff_eq.mpr c57
          have c57b1 : (t232 != 0) = false := bne_eq_false_iff_eq.mpr c57
          clear c57
          (first | rw [c57b0] | (simp only [i64_w, i32_w]; rw [c57b0]) | rw [c57b8] | skip)
          by_cases c58 : t234 = 0
          · rw [if_pos c58] at H
            have c58b0 : (t234 == 0) = true := beq_iff_eq.mpr c58
            have c58b1 : (t234 != 0) = false := bne_eq_false_iff_eq.mpr c58
            clear c58
            by_cases c59 : t236 = 0
            · rw [if_pos c59] at H
              have c59b0 : (t236 == 0) = true := beq_iff_eq.mpr c59
              have c59b1 : (t236 != 0) = false := bne_eq_false_iff_eq.mpr c59
              clear c59
              by_cases c60 : t231 = t233
              · rw [if_pos c60] at H
                have c60b0 : (t231 == t233) = true := beq_iff_eq.mpr c60
                have c60b1 : (t231 != t233) = false := bne_eq_false_iff_eq.mpr c60
                clear c60
                by_cases c61 : t235 = t218
                · rw [if_pos c61] at H
                  have c61b0 : (t235 == t218) = true := beq_iff_eq.mpr c61
                  have c61b1 : (t235 != t218) = false := bne_eq_false_iff_eq.mpr c61
                  clear c61
                  by_cases c62 : t218 = 0
                  · rw [if_pos c62] at H
                    have c62b0 : (t218 == 0) = true := beq_iff_eq.mpr c62
                    have c62b1 : (t218 != 0) = false := bne_eq_false_iff_eq.mpr c62
                    clear c62
                    have H' := Aside0.mk H
                    clear H
                    go_wp2
                    go_meet
                    case rel => exact ⟨_, (false), (by first | rfl | (simp; done) | (simp [*]; done)), H', ⟨by have := HJ16.out; first | omega | exact Nat.le_refl _⟩, ⟨by (with_reducible repeat (first | refine blk_drewN ?_ _ | refine blk_drew ?_ | refine blk_alloc ?_ _)); exact BK217.out⟩, ⟨by repeat (first | (with_reducible first | exact HB.out | apply below_alloc | apply pw_below_drewN | apply below_drew1 | refine below_set ?_ GE217.out) | exact HB.out)⟩⟩
                  · rw [if_neg c62] at H
                    have c62b0 : (t218 == 0) = false := beq_eq_false_iff_ne.mpr c62
                    have c62b1 : (t218 != 0) = true := bne_iff_ne.mpr c62
                    by_cases c63 : t219 = 0
                    · rw [if_pos c63] at H
                      have c63b0 : (t219 == 0) = true := beq_iff_eq.mpr c63
                      have c63b1 : (t219 != 0) = false := bne_eq_false_iff_eq.mpr c63
                      clear c63
                      have H' := Aside0.mk H
                      clear H
                      go_wp2
                      go_meet
                      case rel => exact ⟨_, (false), (by first | rfl | (simp; done) | (simp [*]; done)), H', ⟨by have := HJ16.out; first | omega | exact Nat.le_refl _⟩, ⟨by (with_reducible repeat (first | refine blk_drewN ?_ _ | refine blk_drew ?_ | refine blk_alloc ?_ _)); exact BK217.out⟩, ⟨by repeat (first | (with_reducible first | exact HB.out | apply below_alloc | apply pw_below_drewN | apply below_drew1 | refine below_set ?_ GE217.out) | exact HB.out)⟩⟩
                    · rw [if_neg c63] at H
                      have c63b0 : (t219 == 0) = false := beq_eq_false_iff_ne.mpr c63
                      have c63b1 : (t219 != 0) = true := bne_iff_ne.mpr c63
                      have H' := Aside0.mk H
                      clear H
                      go_wp2
                      go_meet
                      case rel => exact ⟨_, ((t221 == 0)), (by first | rfl | (simp; done) | (simp [*]; done)), H', ⟨by have := HJ16.out; first | omega | exact Nat.le_refl _⟩, ⟨by (with_reducible repeat (first | refine blk_drewN ?_ _ | refine blk_drew ?_ | refine blk_alloc ?_ _)); exact BK217.out⟩, ⟨by repeat (first | (with_reducible first | exact HB.out | apply below_alloc | apply pw_below_drewN | apply below_drew1 | refine below_set ?_ GE217.out) | exact HB.out)⟩⟩
                · rw [if_neg c61] at H
                  have c61b0 : (t235 == t218) = false := beq_eq_false_iff_ne.mpr c61
                  have c61b1 : (t235 != t218) = true := bne_iff_ne.mpr c61
                  have H' := Aside0.mk H
                  clear H
                  go_wp2
                  go_meet
                  case rel => exact ⟨_, (true), (by first | rfl | (simp; done) | (simp [*]; done)), H', ⟨by have := HJ16.out; first | omega | exact Nat.le_refl _⟩, ⟨by (with_reducible repeat (first | refine blk_drewN ?_ _ | refine blk_drew ?_ | refine blk_alloc ?_ _)); exact BK217.out⟩, ⟨by repeat (first | (with_reducible first | exact HB.out | apply below_alloc | apply pw_below_drewN | apply below_drew1 | refine below_set ?_ GE217.out) | exact HB.out)⟩⟩
              · rw [if_neg c60] at H
                have c60b0 : (t231 == t233) = false := beq_eq_false_iff_ne.mpr c60
                have c60b1 : (t231 != t233) = true := bne_iff_ne.mpr c60
                have H' := Aside0.mk H
                clear H
                go_wp2
                go_meet
                case rel => exact ⟨_, (true), (by first | rfl | (simp; done) | (simp [*]; done)), H', ⟨by have := HJ16.out; first | omega | exact Nat.le_refl _⟩, ⟨by (with_reducible repeat (first | refine blk_drewN ?_ _ | refine blk_drew ?_ | refine blk_alloc ?_ _)); exact BK217.out⟩, ⟨by repeat (first | (with_reducible first | exact HB.out | apply below_alloc | apply pw_below_drewN | apply below_drew1 | refine below_set ?_ GE217.out) | exact HB.out)⟩⟩
            · rw [if_neg c59] at H
              have c59b0 : (t236 == 0) = false := beq_eq_false_iff_ne.mpr c59
              have c59b1 : (t236 != 0) = true := bne_iff_ne.mpr c59
              have H' := Aside0.mk H
              clear H
              go_wp2
              go_meet
              case rel => exact ⟨_, (true), (by first | rfl | (simp; done) | (simp [*]; done)), H', ⟨by have := HJ16.out; first | omega | exact Nat.le_refl _⟩, ⟨by (with_reducible repeat (first | refine blk_drewN ?_ _ | refine blk_drew ?_ | refine blk_alloc ?_ _)); exact BK217.out⟩, ⟨by repeat (first | (with_reducible first | exact HB.out | apply below_alloc | apply pw_below_drewN | apply below_drew1 | refine below_set ?_ GE217.out) | exact HB.out)⟩⟩
          · rw [if_neg c58] at H
            have c58b0 : (t234 == 0) = false := beq_eq_false_iff_ne.mpr c58
            have c58b1 : (t234 != 0) = true := bne_iff_ne.mpr c58
            have H' := Aside0.mk H
            clear H
            go_wp2
            go_meet
            case rel => exact ⟨_, (true), (by first | rfl | (simp; done) | (simp [*]; done)), H', ⟨by have := HJ16.out; first | omega | exact Nat.le_refl _⟩, ⟨by (with_reducible repeat (first | refine blk_drewN ?_ _ | refine blk_drew ?_ | refine blk_alloc ?_ _)); exact BK217.out⟩, ⟨by repeat (first | (with_reducible first | exact HB.out | apply below_alloc | apply pw_below_drewN | apply below_drew1 | refine below_set ?_ GE217.out) | exact HB.out)⟩⟩
        · rw [if_neg c57] at H
          have c57b0 : (t232 == 0) = false := beq_eq_false_iff_ne.mpr c57
          have c57b1 : (t232 != 0) = true := bne_iff_ne.mpr c57
          (first | rw [c57b0] | (simp only [i64_w, i32_w]; rw [c57b0]) | rw [c57b8] | skip)
          have H' := Aside0.mk H
          clear H
          go_wp2
          go_meet
          case rel => exact ⟨_, (true), (by first | rfl | (simp; done) | (simp [*]; done)), H', ⟨by have := HJ16.out; first | omega | exact Nat.le_refl _⟩, ⟨by (with_reducible repeat (first | refine blk_drewN ?_ _ | refine blk_drew ?_ | refine blk_alloc ?_ _)); exact BK217.out⟩, ⟨by repeat (first | (with_reducible first | exact HB.out | apply below_alloc | apply pw_below_drewN | apply below_drew1 | refine below_set ?_ GE217.out) | exact HB.out)⟩⟩
      case rest =>
        clear HC50
        try clear c1
        try clear c2
        try clear p2
        try clear c3
        try clear c4
        try clear c5
        try clear c6
        try clear p6
        try clear c7
        try clear c7b0
        try clear c7b1
        try clear c8
        try clear c23
        try clear c24
        try clear c25
        try clear c26
        try clear c36
        try clear c36b0
        try clear c36b1
        try clear c37
        try clear c37b0
        try clear c37b1
        try clear c38
        try clear c38b0
        try clear c38b1
        try clear c39
        try clear c39b0
        try clear c39b1
        try clear c40
        try clear c40b0
        try clear c40b1
        try clear c41
        try clear c41b0
        try clear c41b1
        try clear c42
        try clear c42b0
        try clear c42b1
        try clear c43
        try clear c43b0
        try clear c44
        try clear c44b0
        try clear c45
        try clear c45b0
        try clear c46
        try clear c57
        try clear c57b0
        try clear c57b1
        try clear c58
        try clear c58b0
        try clear c58b1
        try clear c59
        try clear c59b0
        try clear c59b1
        try clear c60
        try clear c60b0
        try clear c60b1
        try clear c61
        try clear c61b0
        try clear c61b1
        try clear c62
        try clear c62b0
        try clear c62b1
        try clear c63
        try clear c63b0
        try clear c63b1
        try clear hcz20_0
        try clear hcz20_1
        try clear hcz22_0
        try clear hcz22_1
        try clear hcz24_0
        try clear hcz24_1
        try clear hcz26_0
        try clear hcz26_1
        try clear hcz28_0
        try clear hcz28_1
        try clear hcz30_0
        try clear hcz30_1
        try clear hcz32_0
        try clear hcz32_1
        try clear hcz34_0
        try clear hcz34_1
        try clear hcz51_0
        try clear hcz51_1
        try clear hcz53_0
        try clear hcz53_1
        try clear hcz55_0
        try clear hcz55_1
        try clear hfz20_0
        try clear hfz20_1
        try clear hfz22_0
        try clear hfz22_1
        try clear hfz24_0
        try clear hfz24_1
        try clear hfz26_0
        try clear hfz26_1
        try clear hfz28_0
        try clear hfz28_1
        try clear hfz30_0
        try clear hfz30_1
        try clear hfz32_0
        try clear hfz32_1
        try clear hfz34_0
        try clear hfz34_1
        try clear hfz51_0
        try clear hfz51_1
        try clear hfz53_0
        try clear hfz53_1
        try clear hfz55_0
        try clear hfz55_1
        try clear p2
        try clear p6
        rename_i zz2_1 zz2_2 zz2_3 zz2_4 zz2_5 zz2_6 zz2_7 zz2_8 zz2_9 zz2_10 zz2_11 zz2_12 zz2_13 zz2_14 zz2_15 zz2_16 zz2_17 zz2_18 zz2_19 zz2_20 zz2_21 zz2_22 zz2_23 zz2_24 zz2_25 zz2_26 zz2_27 zz2_28 zz2_29 zz2_30 zz2_31 zz2_32 zz2_33 zz2_34 zz2_35 zz2_36 zz2_37 zz2_38 zz2_39 zz2_40 zz2_41 zz2_42 zz2_43 zz2_44 zz2_45 zz2_46 zz2_47 zz2_48 zz2_49 zz2_50 zz2_51 zz2_52 zz2_53 zz2_54 zz2_55 zz2_56 zz2_57 zz2_58 zz2_59 zz2_60 zz2_61 zz2_62 zz2_63 zz2_64 zz2_65 zz2_66 zz2_67 zz2_68 zz2_69 zz2_70 zz2_71 zz2_72 zz2_73 zz2_74 zz2_75 zz2_76 zz2_77 zz2_78 zz2_79 zz2_80 zz2_81 zz2_82 zz2_83 zz2_84 zz2_85 zz2_86 zz2_87 zz2_88 zz2_89 zz2_90 zz2_91 zz2_92 zz2_93 zz2_94 zz2_95 zz2_96 zz2_97 zz2_98 zz2_99 zz2_100 zz2_101 zz2_102 zz2_103 zz2_104 zz2_105 zz2_106 zz2_107 zz2_108 zz2_109 zz2_110 zz2_111 zz2_112 zz2_113 zz2_114 zz2_115 zz2_116 zz2_117 zz2_118 zz2_119 zz2_120 zz2_121 zz2_122 zz2_123 zz2_124 zz2_125 zz2_126 zz2_127 zz2_128 zz2_129 zz2_130 zz2_131 zz2_132 zz2_133 zz2_134 zz2_135 zz2_136 zz2_137 zz2_138 zz2_139 zz2_140 zz2_141 zz2_142 zz2_143 zz2_144 zz2_145 zz2_146 zz2_147 zz2_148 zz2_149 zz2_150 zz2_151 zz2_152 zz2_153 zz2_154 zz2_155 zz2_156 zz2_157 zz2_158 zz2_159 zz2_160 zz2_161 zz2_162 zz2_163 zz2_164 zz2_165 zz2_166 zz2_167 zz2_168 zz2_169 zz2_170 zz2_171 zz2_172 zz2_173 zz2_174 zz2_175 zz2_176 zz2_177 zz2_178 zz2_179 zz2_180 zz2_181 zz2_182 zz2_183 zz2_184 zz2_185 zz2_186 zz2_187 zz2_188 zz2_189 zz2_190 zz2_191 zz2_192 zz2_193 zz2_194 zz2_195 zz2_196 zz2_197 zz2_198 zz2_199 zz2_200 zz2_201 zz2_202 zz2_203 zz2_204 zz2_205 zz2_206 zz2_207 zz2_208 zz2_209 zz2_210 zz2_211 zz2_212 zz2_213 zz2_214 zz2_215 zz2_216 zz2_217 zz2_218 zz2_219 zz2_220 zz2_221 zz2_222 zz2_223 zz2_224 zz2_225 zz2_226 zz2_227 zz2_228 zz2_229 zz2_230 zz2_231 zz2_232 zz2_233 zz2_234 zz2_235 zz2_236 zz2_237 zz2_238 zz2_239 zz2_240 zz2_241 zz2_242 zz2_243 zz2_244 zz2_245 zz2_246 zz2_247 zz2_248 zz2_249 zz2_250 zz2_251 zz2_252 zz2_253 zz2_254 zz2_255 zz2_256 zz2_257 zz2_258 zz2_259 zz2_260 zz2_261 zz2_262 zz2_263 zz2_264 zz2_265 zz2_266 zz2_267
        revert k A0 c0 l0 A1 c1 l1 r w hu33 HR0 HC0 HR1 HC1 A3 t215 t216 A5 ji6 hji6 ji8 hji8 hji8_ hji8z hji8u hji8v hji8y hji8x t218 A9 t219 A10 t220 A11 t221 t222 A12 t223 t224 A13 t225 t226 A14 t227 t228 A15 t229 t230 A16 zz1_1 nd zz1_2 w18 gb217 w19 GW217 GE217 w21 w23 w25 w27 w29 w31 w33 w35 zz2_1 zz2_2 zz2_3 zz2_4 zz2_5 zz2_6 zz2_7 zz2_8 zz2_9 zz2_10 zz2_11 zz2_12 zz2_13 zz2_14 zz2_15 zz2_16 zz2_17 zz2_18 zz2_19 zz2_20 zz2_21 zz2_22 zz2_23 zz2_24 zz2_25 zz2_26 zz2_27 zz2_28 zz2_29 zz2_30 zz2_31 zz2_32 zz2_33 zz2_34 zz2_35 zz2_36 zz2_37 zz2_38 zz2_39 zz2_40 zz2_41 zz2_42 zz2_43 zz2_44 zz2_45 zz2_46 zz2_47 zz2_48 zz2_49 zz2_50 zz2_51 zz2_52 zz2_53 zz2_54 zz2_55 zz2_56 zz2_57 zz2_58 zz2_59 zz2_60 zz2_61 zz2_62 zz2_63 zz2_64 zz2_65 zz2_66 zz2_67 zz2_68 zz2_69 zz2_70 zz2_71 zz2_72 zz2_73 zz2_74 zz2_75 zz2_76 zz2_77 zz2_78 zz2_79 zz2_80 zz2_81 zz2_82 zz2_83 zz2_84 zz2_85 zz2_86 zz2_87 zz2_88 zz2_89 zz2_90 zz2_91 zz2_92 zz2_93 zz2_94 zz2_95 zz2_96 zz2_97 zz2_98 zz2_99 zz2_100 zz2_101 zz2_102 zz2_103 zz2_104 zz2_105 zz2_106 zz2_107 zz2_108 zz2_109 zz2_110 zz2_111 zz2_112 zz2_113 zz2_114 zz2_115 zz2_116 zz2_117 zz2_118 zz2_119 zz2_120 zz2_121 zz2_122 zz2_123 zz2_124 zz2_125 zz2_126 zz2_127 zz2_128 zz2_129 zz2_130 zz2_131 zz2_132 zz2_133 zz2_134 zz2_135 zz2_136 zz2_137 zz2_138 zz2_139 zz2_140 zz2_141 zz2_142 zz2_143 zz2_144 zz2_145 zz2_146 zz2_147 zz2_148 zz2_149 zz2_150 zz2_151 zz2_152 zz2_153 zz2_154 zz2_155 zz2_156 zz2_157 zz2_158 zz2_159 zz2_160 zz2_161 zz2_162 zz2_163 zz2_164 zz2_165 zz2_166 zz2_167 zz2_168 zz2_169 zz2_170 zz2_171 zz2_172 zz2_173 zz2_174 zz2_175 zz2_176 zz2_177 zz2_178 zz2_179 zz2_180 zz2_181 zz2_182 zz2_183 zz2_184 zz2_185 zz2_186 zz2_187 zz2_188 zz2_189 zz2_190 zz2_191 zz2_192 zz2_193 zz2_194 zz2_195 zz2_196 zz2_197 zz2_198 zz2_199 zz2_200 zz2_201 zz2_202 zz2_203 zz2_204 zz2_205 zz2_206 zz2_207 zz2_208 zz2_209 zz2_210 zz2_211 zz2_212 zz2_213 zz2_214 zz2_215 zz2_216 zz2_217 zz2_218 zz2_219 zz2_220 zz2_221 zz2_222 zz2_223 zz2_224 zz2_225 zz2_226 zz2_227 zz2_228 zz2_229 zz2_230 zz2_231 zz2_232 zz2_233 zz2_234 zz2_235 zz2_236 zz2_237 zz2_238 zz2_239 zz2_240 zz2_241 zz2_242 zz2_243 zz2_244 zz2_245 zz2_246 zz2_247 zz2_248 zz2_249 zz2_250 zz2_251 zz2_252 zz2_253 zz2_254 zz2_255 zz2_256 zz2_257 zz2_258 zz2_259 zz2_260 zz2_261 zz2_262 zz2_263 kj16 HJ16 t231 t232 A47 t233 t234 A48 t235 t236 A49 w52 w54 w56 BK217 HB zz2_264 zz2_265 zz2_266 zz2_267 wc u36 u37 u38 u39 u40 u41 u42 u43 u44 u45 u46 u47 u48 u49 u50 u51 u52 u53 u54 u55 u56 u57 u58 u59 u60 u61 u62 u63 u64 u65 u66 u67 u68 u69 u70 u71 u72 u73 u74 u75 u76 u77 u78 u79 u80 u81 u82 u83 u84 u85 u86 u87 u88 u89 u90 u91 u92 u93 u94 u95 u96 u97 u98 u99 u100 u101 u102 u103 u104 u105 u106 u107 u108 u109 u110 u111 u112 u113 u114 u115 u116 u117 u118 u119 u120 u121 u122 u123 u124 u125 u126 u127 u128 u129 u130 u131 u132 u133 u134 u135 u136 u137 u138 u139 u140 u141 u142 u143 u144 u145 u146 u147 u148 u149 u150 u151 u152 u153 u154 u155 u156 u157 u158 u159 u160 u161 u162 u163 u164 u165 u166 u167 u168 u169 u170 u171 u172 u173 u174 u175 u176 u177 u178 u179 u180 u181 u182 u183 u184 u185 u186 u187 u188 u189 u190 u191 u192 u193 u194 u195 u196 u197 u198 u199 u200 u201 u202 u203 u204 u205 u206 u207 u208 u209 u210 u211 u212 u213 u214 u215 u216 u217 u218 u219 u220 u221 u222 u223 u224 u225 u226 u227 u228 u229 u230 u231 u232 u233 u234 u235 u236 u237 u238 u239 u240 u241 u242 u243 u244 u245 u246 u247 u248 u249 u250 u251 u252 u253 u254 u255 u256 u257 u258 u259 u260 u261 u262 u263 u264 u265 u266 u267 u268 u269 u270 u271 u272 u273 u274 u275 u276 u277 u278 u279 u280 u281 u282 u283 u284 u285 u286 u287 u288 u289 u290 u291 u292 u293 u294 u295 u296 hcut
        exact HLATER2.out

end Go.Proofs.Ytkebapmicgkcdaa.PFnFields
