-- by wip/shake.py
import Derived.Test.YtcdmmpbcjcajlaaXFnOrderedCodesx15
namespace Go.Proofs.Ytcdmmpbcjcajlaa.XFnOrderedCodes
set_option maxHeartbeats 8000000
set_option maxRecDepth 100000
open Go.RowKit Go.Proofs.Ytcdmmpbcjcajlaa.Hand Go.Proofs.YtcdmmpbcjcajlaaW.PrintWords Go.Proofs.YtcdmmpbcjcajlaaW.PrintLast Go.Proofs.YtcdmmpbcjcajlaaW.PrintMore
attribute [local go_sem] max2_int min2_int max_two min_two max_three min_three max_four min_four   -- for this text's walks alone
set_option linter.unusedVariables false
set_option linter.unusedSimpArgs false
theorem part_j5 {A0 : Option Addr} {c0 : Nat} {l0 : List Int} {A1 : Option Addr} {c1 : Nat} {l1 : List Int} {r : Bool} {w wc : World} {t474 : List Int} {t477 : List Int} {t478 : Bool} {t485 : Int} {v479 : Value} {Ao12 : Option Addr} {co12 : Nat} {kq : Nat} (HR0 : Aside0 (Kd.C (Kd.int .u8) w A0 l0.length l0)) (HC0 : Aside0 (l0.length ≤ c0)) (HR1 : Aside0 (Kd.C (Kd.int .u8) w A1 l1.length l1)) (HC1 : Aside0 (l1.length ≤ c1)) (HA : Aside0 (laws_FnOrderedCodes.j5 kq l1 t474 t477 t478 t485 = some r)) (HJ33 : Aside0 (kq ≤ kq)) (HO_5 : Aside0 (Kd.R (Kd.int .i64) 3 wc w.heap.size (fun k_ => some k_ ≠ (v479 : Value).ownBlock) (.slice Ao12 t474.length co12) t474)) (HO_6 : Aside0 (Kd.R (Kd.int .i64) 3 wc w.heap.size (fun k_ => some k_ ≠ ((.slice Ao12 t474.length co12) : Value).ownBlock) v479 t477)) (HB : Aside0 (Below w.heap.size w wc)) {z0 z2 z3 z4 z8 z9 z11 z12 z13 z14 z15 z16 z17 z18 z19 z20 z21 z22 z23 z24 z25 z26 z27 z28 z29 z30 z31 z32 z33 z34 z35 z36 z37 z38 z39 z40 z41 z42 z43 z44 z45 z46 z47 z48 z49 z50 z51 z52 z53 z54 z55 z56 z57 z58 z59 z60 z61 z62 z63 z64 z65 z66 z67 z68 z69 z70 z71 z72 z73 z74 z75 z76 z77 z78 z79 z80 z81 z82 z83 z84 z85 z86 z87 z88 z89 z90 z91 z92 z93 z94 z95 z96 z97 z98 z99 z100 z101 z102 z103 z104 z105 z106 z107 z108 z109 z110 z111 z112 z113 z114 z115 z116 z117 z118 z119 z120 z121 z122 z123 z124 z125 z126 z127 z128 z129 z130 z131 z132 z133 z134 z135 z136 z137 z138 z139 z140 z141 z142 z143 z144 z145 z146 z147 z148 z149 z150 z151 z152 z153 z154 z155 z156 z157 z158 z159 z160 z161 z162 z163 z164 z165 z166 z167 z168 z169 z170 z171 z172 z173 z174 z175 z176 z177 z178 z179 z180 z181 z182 z183 z184 z185 z186 z187 z188 z189 z190 z191 z192 z193 z194 z195 z196 z197 z198 z199 z200 z201 z202 z203 z204 z205 z206 z207 z208 z209 z210 z211 z212 z213 z214 z215 z216 z217 z218 z219 z220 z221 z222 z223 z224 z225 z226 z227 z228 z229 z230 z231 z232 z233 z234 z235 z236 z237 z238 z239 z240 z241 z242 z243 z244 z245 z246 z247 z248 z249 z250 z251 z252 z253 z254 z255 z256 z257 z258 z259 z260 z261 z262 z263 z264 z265 z266 z267 z268 z269 z270 z271 z272 z273 z274 z275 z276 z277 z278 z279 z280 z281 z282 z283 z284 z285 z286 z287 z288 z289 z290 z291 z292 z293 z294 z295 z296 z297 z298 z299 z300 z301 z302 z303 z304 z305 z306 z307 z308 z309 z310 z311 z312 z313 z314 z315 z316 z317 z318 z319 z320 z321 z322 z323 z324 z325 z326 z327 z328 z329 z330 z331 z332 z333 z334 z335 z336 z337 z338 z339 z340 z341 z342 z343 z344 z345 z346 z347 z348 z349 z350 z351 z352 z353 z354 z355 : Value} {Kq3 : Act → World → Prop} (hKq3 : ∀ a w', Code.wp Try.prog (cB (cB (cB (cB (cB (cB (cB (cB (cB (Try.f3.body.getD .skip)))))))))) (bodyPost Try.prog Try.f3 (fun e w' => e = .returned (.bool r) ∧ Below w.heap.size w w')) a w' → Kq3 a w') :
  Kq3 { tmps := #[z0, .slice A1 l1.length c1, z2, z3, z4, .slice Ao12 t474.length co12, v479, .bool t478, z8, z9, .int .i64 t485, z11, z12, z13, z14, z15, z16, z17, z18, z19, z20, z21, z22, z23, z24, z25, z26, z27, z28, z29, z30, z31, z32, z33, z34, z35, z36, z37, z38, z39, z40, z41, z42, z43, z44, z45, z46, z47, z48, z49, z50, z51, z52, z53, z54, z55, z56, z57, z58, z59, z60, z61, z62, z63, z64, z65, z66, z67, z68, z69, z70, z71, z72, z73, z74, z75, z76, z77, z78, z79, z80, z81, z82, z83, z84, z85, z86, z87, z88, z89, z90, z91, z92, z93, z94, z95, z96, z97, z98, z99, z100, z101, z102, z103, z104, z105, z106, z107, z108, z109, z110, z111, z112, z113, z114, z115, z116, z117, z118, z119, z120, z121, z122, z123, z124, z125, z126, z127, z128, z129, z130, z131, z132, z133, z134, z135, z136, z137, z138, z139, z140, z141, z142, z143, z144, z145, z146, z147, z148, z149, z150, z151, z152, z153, z154, z155, z156, z157, z158, z159, z160, z161, z162, z163, z164, z165, z166, z167, z168, z169, z170, z171, z172, z173, z174, z175, z176, z177, z178, z179, z180, z181, z182, z183, z184, z185, z186, z187, z188, z189, z190, z191, z192, z193, z194, z195, z196, z197, z198, z199, z200, z201, z202, z203, z204, z205, z206, z207, z208, z209, z210, z211, z212, z213, z214, z215, z216, z217, z218, z219, z220, z221, z222, z223, z224, z225, z226, z227, z228, z229, z230, z231, z232, z233, z234, z235, z236, z237, z238, z239, z240, z241, z242, z243, z244, z245, z246, z247, z248, z249, z250, z251, z252, z253, z254, z255, z256, z257, z258, z259, z260, z261, z262, z263, z264, z265, z266, z267, z268, z269, z270, z271, z272, z273, z274, z275, z276, z277, z278, z279, z280, z281, z282, z283, z284, z285, z286, z287, z288, z289, z290, z291, z292, z293, z294, z295, z296, z297, z298, z299, z300, z301, z302, z303, z304, z305, z306, z307, z308, z309, z310, z311, z312, z313, z314, z315, z316, z317, z318, z319, z320, z321, z322, z323, z324, z325, z326, z327, z328, z329, z330, z331, z332, z333, z334, z335, z336, z337, z338, z339, z340, z341, z342, z343, z344, z345, z346, z347, z348, z349, z350, z351, z352, z353, z354, z355], defers := [] } wc := by
 replace hKq3 := seq_of rfl hKq3; (try simp only [List.append_eq, List.cons_append, List.nil_append] at hKq3)
 cases kq with
 | zero => exact absurd HA.out (by simp [laws_FnOrderedCodes.j5])
 | succ kj33 =>
  have H := HA.out
  clear HA
  simp only [laws_FnOrderedCodes.j5] at H
  have HC61 := Aside0.mk H
  clear H
  go_upto_if 168 with (fail)
  refine wp_cutK (by assumption) ?_
  intro Kq4 HKq4
  have H := HC61.out
  clear HC61
  by_cases c62 : t478 = true
  ·subst c62
   rw [if_pos rfl] at H
   replace H := Option.bind_eq_some_iff.mp H
   obtain ⟨⟨t496, t497⟩, A630, H⟩ := H
   (try dsimp only at H)
   have A63 := Aside0.mk A630
   clear A630
   replace H := Option.bind_eq_some_iff.mp H
   obtain ⟨⟨t498, t499⟩, A640, H⟩ := H
   (try dsimp only at H)
   have A64 := Aside0.mk A640
   clear A640
   replace H := Option.bind_eq_some_iff.mp H
   obtain ⟨⟨t500, t501⟩, A650, H⟩ := H
   (try dsimp only at H)
   have A65 := Aside0.mk A650
   clear A650
   by_cases c66 : t497 = true
   ·subst c66
    rw [if_pos rfl] at H
    by_cases c67 : t496 = t485
    ·rw [if_pos c67] at H
     have c67b0 : (t496 == t485) = true := beq_iff_eq.mpr c67
     have c67b1 : (t496 != t485) = false := bne_eq_false_iff_eq.mpr c67
     clear c67
     (first | rw [c67b0] | (simp only [i64_w, i32_w]; rw [c67b0]) | skip)
     by_cases c68 : t499 = true
     ·subst c68
      rw [if_pos rfl] at H
      by_cases c69 : t498 = true
      ·subst c69
       rw [if_pos rfl] at H
       by_cases c70 : t501 = true
       ·subst c70
        rw [if_pos rfl] at H
        replace H := Option.bind_eq_some_iff.mp H
        obtain ⟨t504, A710, H⟩ := H
        (try dsimp only at H)
        have A71 := Aside0.mk A710
        clear A710
        by_cases c72 : t504 = true
        ·subst c72
         rw [if_pos rfl] at H
         have H' := Aside0.mk H
         clear H
         obtain ⟨Ao73, co73, eo73⟩ := Kd.R_slice HO_6.out
         subst eo73
         go_wp2_with (first | (go_at_call 13; (with_reducible refine (impl_CostOf.calls kj33 _ _ t474 _ _ t477 t496 true _ ?side1 ?side2 ?side3 ?side4 A63.out).mono ?_); (case side1 => exact zC (Kd.R_reads' HO_5.out).2.2); (case side2 => exact (Kd.R_reads' HO_5.out).2.1); (case side3 => exact zC (Kd.R_reads' HO_6.out).2.2); (case side4 => exact (Kd.R_reads' HO_6.out).2.1); rintro e w' ⟨rfl, ⟨nd, rfl⟩⟩; (try first | exact ⟨rfl, _, World.drewN_drewN _ _ _⟩ | exact ⟨rfl, _, Eq.trans (World.drewN_drewN _ _ _) (congrArg (World.drewN _) (Nat.add_assoc _ _ _))⟩)) | (go_at_call 14; (with_reducible refine (impl_CanBeOrdered.calls kj33 _ _ t477 true true _ ?side1 ?side2 A64.out).mono ?_); (case side1 => exact zC (Kd.R_reads' HO_6.out).2.2); (case side2 => exact (Kd.R_reads' HO_6.out).2.1); rintro e w74 ⟨rfl, hb⟩; have n0_ := Aside0.mk (Kd.R_below (zR HO_5.out) hb); have n1_ := Aside0.mk (Kd.R_below (zR HO_6.out) hb); have n2_ := Aside0.mk (below_step (zB HB.out) hb); clear HO_5; clear HO_6; clear HB; have HO_5 := n0_; have HO_6 := n1_; have HB := n2_; clear n0_ n1_ n2_; (try clear hb); (try clear hb2); (try clear hk); (try clear hi)) | (go_at_call 15; (with_reducible refine (impl_OrderedWords.calls kj33 _ _ t477 t500 true _ ?side1 ?side2 A65.out).mono ?_); (case side1 => exact zC (Kd.R_reads' HO_6.out).2.2); (case side2 => exact (Kd.R_reads' HO_6.out).2.1); rintro e w75 ⟨v502, rfl, ho0, hb⟩; have n0_ := Aside0.mk (Kd.R_below (zR HO_5.out) hb); have n1_ := Aside0.mk (Kd.R_below (zR HO_6.out) hb); have n2_ := Aside0.mk (Kd.R_lower ho0 (below_size (zB HB.out))); have n3_ := Aside0.mk (below_step (zB HB.out) hb); clear HO_5; clear HO_6; clear HB; have HO_5 := n0_; have HO_6 := n1_; have HO503 := n2_; have HB := n3_; clear n0_ n1_ n2_ n3_; (try clear hb); (try clear hb2); (try clear hk); (try clear hi); (try clear ho0); obtain ⟨Ao76, co76, eo76⟩ := Kd.R_slice HO503.out; subst eo76) | (go_at_call 16; (with_reducible refine (laws_yPrefix.calls kj33 _ _ t500 true _ ?side1 ?side2 A71.out).mono ?_); (case side1 => exact zC (Kd.R_reads' HO503.out).2.2); (case side2 => exact (Kd.R_reads' HO503.out).2.1); rintro e w' ⟨rfl, ⟨nd, rfl⟩⟩; (try first | exact ⟨rfl, _, World.drewN_drewN _ _ _⟩ | exact ⟨rfl, _, Eq.trans (World.drewN_drewN _ _ _) (congrArg (World.drewN _) (Nat.add_assoc _ _ _))⟩)))
         (try simp only [Act.put, List.setIfInBounds_toArray, List.set_cons_zero, List.set_cons_succ])
         exact part_j6  HR0 HC0 HR1 HC1 H' ⟨Nat.le_refl _⟩ ⟨zB HB.out⟩ HKq4.out
        ·replace c72 := Bool.eq_false_iff.mpr c72
         subst c72
         rw [if_neg zN] at H
         obtain rfl := Option.some.inj H
         obtain ⟨Ao77, co77, eo77⟩ := Kd.R_slice HO_6.out
         subst eo77
         go_wp2_with (first | (go_at_call 13; (with_reducible refine (impl_CostOf.calls kj33 _ _ t474 _ _ t477 t496 true _ ?side1 ?side2 ?side3 ?side4 A63.out).mono ?_); (case side1 => exact zC (Kd.R_reads' HO_5.out).2.2); (case side2 => exact (Kd.R_reads' HO_5.out).2.1); (case side3 => exact zC (Kd.R_reads' HO_6.out).2.2); (case side4 => exact (Kd.R_reads' HO_6.out).2.1); rintro e w' ⟨rfl, ⟨nd, rfl⟩⟩; (try first | exact ⟨rfl, _, World.drewN_drewN _ _ _⟩ | exact ⟨rfl, _, Eq.trans (World.drewN_drewN _ _ _) (congrArg (World.drewN _) (Nat.add_assoc _ _ _))⟩)) | (go_at_call 14; (with_reducible refine (impl_CanBeOrdered.calls kj33 _ _ t477 true true _ ?side1 ?side2 A64.out).mono ?_); (case side1 => exact zC (Kd.R_reads' HO_6.out).2.2); (case side2 => exact (Kd.R_reads' HO_6.out).2.1); rintro e w78 ⟨rfl, hb⟩; have n0_ := Aside0.mk (Kd.R_below (zR HO_5.out) hb); have n1_ := Aside0.mk (Kd.R_below (zR HO_6.out) hb); have n2_ := Aside0.mk (below_step (zB HB.out) hb); clear HO_5; clear HO_6; clear HB; have HO_5 := n0_; have HO_6 := n1_; have HB := n2_; clear n0_ n1_ n2_; (try clear hb); (try clear hb2); (try clear hk); (try clear hi)) | (go_at_call 15; (with_reducible refine (impl_OrderedWords.calls kj33 _ _ t477 t500 true _ ?side1 ?side2 A65.out).mono ?_); (case side1 => exact zC (Kd.R_reads' HO_6.out).2.2); (case side2 => exact (Kd.R_reads' HO_6.out).2.1); rintro e w79 ⟨v502, rfl, ho0, hb⟩; have n0_ := Aside0.mk (Kd.R_below (zR HO_5.out) hb); have n1_ := Aside0.mk (Kd.R_below (zR HO_6.out) hb); have n2_ := Aside0.mk (Kd.R_lower ho0 (below_size (zB HB.out))); have n3_ := Aside0.mk (below_step (zB HB.out) hb); clear HO_5; clear HO_6; clear HB; have HO_5 := n0_; have HO_6 := n1_; have HO503 := n2_; have HB := n3_; clear n0_ n1_ n2_ n3_; (try clear hb); (try clear hb2); (try clear hk); (try clear hi); (try clear ho0); obtain ⟨Ao80, co80, eo80⟩ := Kd.R_slice HO503.out; subst eo80) | (go_at_call 16; (with_reducible refine (laws_yPrefix.calls kj33 _ _ t500 false _ ?side1 ?side2 A71.out).mono ?_); (case side1 => exact zC (Kd.R_reads' HO503.out).2.2); (case side2 => exact (Kd.R_reads' HO503.out).2.1); rintro e w' ⟨rfl, ⟨nd, rfl⟩⟩; (try first | exact ⟨rfl, _, World.drewN_drewN _ _ _⟩ | exact ⟨rfl, _, Eq.trans (World.drewN_drewN _ _ _) (congrArg (World.drewN _) (Nat.add_assoc _ _ _))⟩)))
         go_ret
         exact ⟨zF, zB HB.out⟩
       ·replace c70 := Bool.eq_false_iff.mpr c70
        subst c70
        rw [if_neg zN] at H
        obtain rfl := Option.some.inj H
        obtain ⟨Ao81, co81, eo81⟩ := Kd.R_slice HO_6.out
        subst eo81
        go_wp2_with (first | (go_at_call 13; (with_reducible refine (impl_CostOf.calls kj33 _ _ t474 _ _ t477 t496 true _ ?side1 ?side2 ?side3 ?side4 A63.out).mono ?_); (case side1 => exact zC (Kd.R_reads' HO_5.out).2.2); (case side2 => exact (Kd.R_reads' HO_5.out).2.1); (case side3 => exact zC (Kd.R_reads' HO_6.out).2.2); (case side4 => exact (Kd.R_reads' HO_6.out).2.1); rintro e w' ⟨rfl, ⟨nd, rfl⟩⟩; (try first | exact ⟨rfl, _, World.drewN_drewN _ _ _⟩ | exact ⟨rfl, _, Eq.trans (World.drewN_drewN _ _ _) (congrArg (World.drewN _) (Nat.add_assoc _ _ _))⟩)) | (go_at_call 14; (with_reducible refine (impl_CanBeOrdered.calls kj33 _ _ t477 true true _ ?side1 ?side2 A64.out).mono ?_); (case side1 => exact zC (Kd.R_reads' HO_6.out).2.2); (case side2 => exact (Kd.R_reads' HO_6.out).2.1); rintro e w82 ⟨rfl, hb⟩; have n0_ := Aside0.mk (Kd.R_below (zR HO_5.out) hb); have n1_ := Aside0.mk (Kd.R_below (zR HO_6.out) hb); have n2_ := Aside0.mk (below_step (zB HB.out) hb); clear HO_5; clear HO_6; clear HB; have HO_5 := n0_; have HO_6 := n1_; have HB := n2_; clear n0_ n1_ n2_; (try clear hb); (try clear hb2); (try clear hk); (try clear hi)) | (go_at_call 15; (with_reducible refine (impl_OrderedWords.calls kj33 _ _ t477 t500 false _ ?side1 ?side2 A65.out).mono ?_); (case side1 => exact zC (Kd.R_reads' HO_6.out).2.2); (case side2 => exact (Kd.R_reads' HO_6.out).2.1); rintro e w83 ⟨v502, rfl, ho0, hb⟩; have n0_ := Aside0.mk (Kd.R_below (zR HO_5.out) hb); have n1_ := Aside0.mk (Kd.R_below (zR HO_6.out) hb); have n2_ := Aside0.mk (Kd.R_lower ho0 (below_size (zB HB.out))); have n3_ := Aside0.mk (below_step (zB HB.out) hb); clear HO_5; clear HO_6; clear HB; have HO_5 := n0_; have HO_6 := n1_; have HO503 := n2_; have HB := n3_; clear n0_ n1_ n2_ n3_; (try clear hb); (try clear hb2); (try clear hk); (try clear hi); (try clear ho0)))
        go_ret
        exact ⟨zF, zB HB.out⟩
      ·replace c69 := Bool.eq_false_iff.mpr c69
       subst c69
       rw [if_neg zN] at H
       obtain rfl := Option.some.inj H
       obtain ⟨Ao84, co84, eo84⟩ := Kd.R_slice HO_6.out
       subst eo84
       go_wp2_with (first | (go_at_call 13; (with_reducible refine (impl_CostOf.calls kj33 _ _ t474 _ _ t477 t496 true _ ?side1 ?side2 ?side3 ?side4 A63.out).mono ?_); (case side1 => exact zC (Kd.R_reads' HO_5.out).2.2); (case side2 => exact (Kd.R_reads' HO_5.out).2.1); (case side3 => exact zC (Kd.R_reads' HO_6.out).2.2); (case side4 => exact (Kd.R_reads' HO_6.out).2.1); rintro e w' ⟨rfl, ⟨nd, rfl⟩⟩; (try first | exact ⟨rfl, _, World.drewN_drewN _ _ _⟩ | exact ⟨rfl, _, Eq.trans (World.drewN_drewN _ _ _) (congrArg (World.drewN _) (Nat.add_assoc _ _ _))⟩)) | (go_at_call 14; (with_reducible refine (impl_CanBeOrdered.calls kj33 _ _ t477 false true _ ?side1 ?side2 A64.out).mono ?_); (case side1 => exact zC (Kd.R_reads' HO_6.out).2.2); (case side2 => exact (Kd.R_reads' HO_6.out).2.1); rintro e w85 ⟨rfl, hb⟩; have n0_ := Aside0.mk (Kd.R_below (zR HO_5.out) hb); have n1_ := Aside0.mk (Kd.R_below (zR HO_6.out) hb); have n2_ := Aside0.mk (below_step (zB HB.out) hb); clear HO_5; clear HO_6; clear HB; have HO_5 := n0_; have HO_6 := n1_; have HB := n2_; clear n0_ n1_ n2_; (try clear hb); (try clear hb2); (try clear hk); (try clear hi)) | (go_at_call 15; (with_reducible refine (impl_OrderedWords.calls kj33 _ _ t477 t500 t501 _ ?side1 ?side2 A65.out).mono ?_); (case side1 => exact zC (Kd.R_reads' HO_6.out).2.2); (case side2 => exact (Kd.R_reads' HO_6.out).2.1); rintro e w86 ⟨v502, rfl, ho0, hb⟩; have n0_ := Aside0.mk (Kd.R_below (zR HO_5.out) hb); have n1_ := Aside0.mk (Kd.R_below (zR HO_6.out) hb); have n2_ := Aside0.mk (Kd.R_lower ho0 (below_size (zB HB.out))); have n3_ := Aside0.mk (below_step (zB HB.out) hb); clear HO_5; clear HO_6; clear HB; have HO_5 := n0_; have HO_6 := n1_; have HO503 := n2_; have HB := n3_; clear n0_ n1_ n2_ n3_; (try clear hb); (try clear hb2); (try clear hk); (try clear hi); (try clear ho0)))
       go_ret
       exact ⟨zF, zB HB.out⟩
     ·replace c68 := Bool.eq_false_iff.mpr c68
      subst c68
      rw [if_neg zN] at H
      obtain rfl := Option.some.inj H
      obtain ⟨Ao87, co87, eo87⟩ := Kd.R_slice HO_6.out
      subst eo87
      go_wp2_with (first | (go_at_call 13; (with_reducible refine (impl_CostOf.calls kj33 _ _ t474 _ _ t477 t496 true _ ?side1 ?side2 ?side3 ?side4 A63.out).mono ?_); (case side1 => exact zC (Kd.R_reads' HO_5.out).2.2); (case side2 => exact (Kd.R_reads' HO_5.out).2.1); (case side3 => exact zC (Kd.R_reads' HO_6.out).2.2); (case side4 => exact (Kd.R_reads' HO_6.out).2.1); rintro e w' ⟨rfl, ⟨nd, rfl⟩⟩; (try first | exact ⟨rfl, _, World.drewN_drewN _ _ _⟩ | exact ⟨rfl, _, Eq.trans (World.drewN_drewN _ _ _) (congrArg (World.drewN _) (Nat.add_assoc _ _ _))⟩)) | (go_at_call 14; (with_reducible refine (impl_CanBeOrdered.calls kj33 _ _ t477 t498 false _ ?side1 ?side2 A64.out).mono ?_); (case side1 => exact zC (Kd.R_reads' HO_6.out).2.2); (case side2 => exact (Kd.R_reads' HO_6.out).2.1); rintro e w88 ⟨rfl, hb⟩; have n0_ := Aside0.mk (Kd.R_below (zR HO_5.out) hb); have n1_ := Aside0.mk (Kd.R_below (zR HO_6.out) hb); have n2_ := Aside0.mk (below_step (zB HB.out) hb); clear HO_5; clear HO_6; clear HB; have HO_5 := n0_; have HO_6 := n1_; have HB := n2_; clear n0_ n1_ n2_; (try clear hb); (try clear hb2); (try clear hk); (try clear hi)) | (go_at_call 15; (with_reducible refine (impl_OrderedWords.calls kj33 _ _ t477 t500 t501 _ ?side1 ?side2 A65.out).mono ?_); (case side1 => exact zC (Kd.R_reads' HO_6.out).2.2); (case side2 => exact (Kd.R_reads' HO_6.out).2.1); rintro e w89 ⟨v502, rfl, ho0, hb⟩; have n0_ := Aside0.mk (Kd.R_below (zR HO_5.out) hb); have n1_ := Aside0.mk (Kd.R_below (zR HO_6.out) hb); have n2_ := Aside0.mk (Kd.R_lower ho0 (below_size (zB HB.out))); have n3_ := Aside0.mk (below_step (zB HB.out) hb); clear HO_5; clear HO_6; clear HB; have HO_5 := n0_; have HO_6 := n1_; have HO503 := n2_; have HB := n3_; clear n0_ n1_ n2_ n3_; (try clear hb); (try clear hb2); (try clear hk); (try clear hi); (try clear ho0)))
      go_ret
      exact ⟨zF, zB HB.out⟩
    ·rw [if_neg c67] at H
     have c67b0 : (t496 == t485) = false := beq_eq_false_iff_ne.mpr c67
     have c67b1 : (t496 != t485) = true := bne_iff_ne.mpr c67
     (first | rw [c67b0] | (simp only [i64_w, i32_w]; rw [c67b0]) | skip)
     obtain rfl := Option.some.inj H
     obtain ⟨Ao90, co90, eo90⟩ := Kd.R_slice HO_6.out
     subst eo90
     go_wp2_with (first | (go_at_call 13; (with_reducible refine (impl_CostOf.calls kj33 _ _ t474 _ _ t477 t496 true _ ?side1 ?side2 ?side3 ?side4 A63.out).mono ?_); (case side1 => exact zC (Kd.R_reads' HO_5.out).2.2); (case side2 => exact (Kd.R_reads' HO_5.out).2.1); (case side3 => exact zC (Kd.R_reads' HO_6.out).2.2); (case side4 => exact (Kd.R_reads' HO_6.out).2.1); rintro e w' ⟨rfl, ⟨nd, rfl⟩⟩; (try first | exact ⟨rfl, _, World.drewN_drewN _ _ _⟩ | exact ⟨rfl, _, Eq.trans (World.drewN_drewN _ _ _) (congrArg (World.drewN _) (Nat.add_assoc _ _ _))⟩)) | (go_at_call 14; (with_reducible refine (impl_CanBeOrdered.calls kj33 _ _ t477 t498 t499 _ ?side1 ?side2 A64.out).mono ?_); (case side1 => exact zC (Kd.R_reads' HO_6.out).2.2); (case side2 => exact (Kd.R_reads' HO_6.out).2.1); rintro e w91 ⟨rfl, hb⟩; have n0_ := Aside0.mk (Kd.R_below (zR HO_5.out) hb); have n1_ := Aside0.mk (Kd.R_below (zR HO_6.out) hb); have n2_ := Aside0.mk (below_step (zB HB.out) hb); clear HO_5; clear HO_6; clear HB; have HO_5 := n0_; have HO_6 := n1_; have HB := n2_; clear n0_ n1_ n2_; (try clear hb); (try clear hb2); (try clear hk); (try clear hi)) | (go_at_call 15; (with_reducible refine (impl_OrderedWords.calls kj33 _ _ t477 t500 t501 _ ?side1 ?side2 A65.out).mono ?_); (case side1 => exact zC (Kd.R_reads' HO_6.out).2.2); (case side2 => exact (Kd.R_reads' HO_6.out).2.1); rintro e w92 ⟨v502, rfl, ho0, hb⟩; have n0_ := Aside0.mk (Kd.R_below (zR HO_5.out) hb); have n1_ := Aside0.mk (Kd.R_below (zR HO_6.out) hb); have n2_ := Aside0.mk (Kd.R_lower ho0 (below_size (zB HB.out))); have n3_ := Aside0.mk (below_step (zB HB.out) hb); clear HO_5; clear HO_6; clear HB; have HO_5 := n0_; have HO_6 := n1_; have HO503 := n2_; have HB := n3_; clear n0_ n1_ n2_ n3_; (try clear hb); (try clear hb2); (try clear hk); (try clear hi); (try clear ho0)))
     go_ret
     exact ⟨zF, zB HB.out⟩
   ·replace c66 := Bool.eq_false_iff.mpr c66
    subst c66
    rw [if_neg zN] at H
    obtain rfl := Option.some.inj H
    obtain ⟨Ao93, co93, eo93⟩ := Kd.R_slice HO_6.out
    subst eo93
    go_wp2_with (first | (go_at_call 13; (with_reducible refine (impl_CostOf.calls kj33 _ _ t474 _ _ t477 t496 false _ ?side1 ?side2 ?side3 ?side4 A63.out).mono ?_); (case side1 => exact zC (Kd.R_reads' HO_5.out).2.2); (case side2 => exact (Kd.R_reads' HO_5.out).2.1); (case side3 => exact zC (Kd.R_reads' HO_6.out).2.2); (case side4 => exact (Kd.R_reads' HO_6.out).2.1); rintro e w' ⟨rfl, ⟨nd, rfl⟩⟩; (try first | exact ⟨rfl, _, World.drewN_drewN _ _ _⟩ | exact ⟨rfl, _, Eq.trans (World.drewN_drewN _ _ _) (congrArg (World.drewN _) (Nat.add_assoc _ _ _))⟩)) | (go_at_call 14; (with_reducible refine (impl_CanBeOrdered.calls kj33 _ _ t477 t498 t499 _ ?side1 ?side2 A64.out).mono ?_); (case side1 => exact zC (Kd.R_reads' HO_6.out).2.2); (case side2 => exact (Kd.R_reads' HO_6.out).2.1); rintro e w94 ⟨rfl, hb⟩; have n0_ := Aside0.mk (Kd.R_below (zR HO_5.out) hb); have n1_ := Aside0.mk (Kd.R_below (zR HO_6.out) hb); have n2_ := Aside0.mk (below_step (zB HB.out) hb); clear HO_5; clear HO_6; clear HB; have HO_5 := n0_; have HO_6 := n1_; have HB := n2_; clear n0_ n1_ n2_; (try clear hb); (try clear hb2); (try clear hk); (try clear hi)) | (go_at_call 15; (with_reducible refine (impl_OrderedWords.calls kj33 _ _ t477 t500 t501 _ ?side1 ?side2 A65.out).mono ?_); (case side1 => exact zC (Kd.R_reads' HO_6.out).2.2); (case side2 => exact (Kd.R_reads' HO_6.out).2.1); rintro e w95 ⟨v502, rfl, ho0, hb⟩; have n0_ := Aside0.mk (Kd.R_below (zR HO_5.out) hb); have n1_ := Aside0.mk (Kd.R_below (zR HO_6.out) hb); have n2_ := Aside0.mk (Kd.R_lower ho0 (below_size (zB HB.out))); have n3_ := Aside0.mk (below_step (zB HB.out) hb); clear HO_5; clear HO_6; clear HB; have HO_5 := n0_; have HO_6 := n1_; have HO503 := n2_; have HB := n3_; clear n0_ n1_ n2_ n3_; (try clear hb); (try clear hb2); (try clear hk); (try clear hi); (try clear ho0)))
    go_ret
    exact ⟨zF, zB HB.out⟩
  ·replace c62 := Bool.eq_false_iff.mpr c62
   subst c62
   rw [if_neg zN] at H
   have H' := Aside0.mk H
   clear H
   go_wp2
   repeat (go_quiet (fail); try go_wp2)
   (try simp only [Act.put, List.setIfInBounds_toArray, List.set_cons_zero, List.set_cons_succ])
   exact part_j6  HR0 HC0 HR1 HC1 H' ⟨Nat.le_refl _⟩ ⟨zB HB.out⟩ HKq4.out
theorem part_j3 {A0 : Option Addr} {c0 : Nat} {l0 : List Int} {A1 : Option Addr} {c1 : Nat} {l1 : List Int} {r : Bool} {w wc : World} {t474 : List Int} {t477 : List Int} {t478 : Bool} {t485 : Int} {t490 : Int} {v479 : Value} {Ao12 : Option Addr} {co12 : Nat} {kq : Nat} (HR0 : Aside0 (Kd.C (Kd.int .u8) w A0 l0.length l0)) (HC0 : Aside0 (l0.length ≤ c0)) (HR1 : Aside0 (Kd.C (Kd.int .u8) w A1 l1.length l1)) (HC1 : Aside0 (l1.length ≤ c1)) (HA : Aside0 (laws_FnOrderedCodes.j3 kq l1 t474 t477 t478 t485 t490 = some r)) (HJ40 : Aside0 (kq ≤ kq)) (HO_5 : Aside0 (Kd.R (Kd.int .i64) 3 wc w.heap.size (fun k_ => some k_ ≠ (v479 : Value).ownBlock) (.slice Ao12 t474.length co12) t474)) (HO_6 : Aside0 (Kd.R (Kd.int .i64) 3 wc w.heap.size (fun k_ => some k_ ≠ ((.slice Ao12 t474.length co12) : Value).ownBlock) v479 t477)) (HB : Aside0 (Below w.heap.size w wc)) {z0 z2 z3 z4 z8 z9 z11 z12 z13 z15 z16 z17 z18 z19 z20 z21 z22 z23 z24 z25 z26 z27 z28 z29 z30 z31 z32 z33 z34 z35 z36 z37 z38 z39 z40 z41 z42 z43 z44 z45 z46 z47 z48 z49 z50 z51 z52 z53 z54 z55 z56 z57 z58 z59 z60 z61 z62 z63 z64 z65 z66 z67 z68 z69 z70 z71 z72 z73 z74 z75 z76 z77 z78 z79 z80 z81 z82 z83 z84 z85 z86 z87 z88 z89 z90 z91 z92 z93 z94 z95 z96 z97 z98 z99 z100 z101 z102 z103 z104 z105 z106 z107 z108 z109 z110 z111 z112 z113 z114 z115 z116 z117 z118 z119 z120 z121 z122 z123 z124 z125 z126 z127 z128 z129 z130 z131 z132 z133 z134 z135 z136 z137 z138 z139 z140 z141 z142 z143 z144 z145 z146 z147 z148 z149 z150 z151 z152 z153 z154 z155 z156 z157 z158 z159 z160 z161 z162 z163 z164 z165 z166 z167 z168 z169 z170 z171 z172 z173 z174 z175 z176 z177 z178 z179 z180 z181 z182 z183 z184 z185 z186 z187 z188 z189 z190 z191 z192 z193 z194 z195 z196 z197 z198 z199 z200 z201 z202 z203 z204 z205 z206 z207 z208 z209 z210 z211 z212 z213 z214 z215 z216 z217 z218 z219 z220 z221 z222 z223 z224 z225 z226 z227 z228 z229 z230 z231 z232 z233 z234 z235 z236 z237 z238 z239 z240 z241 z242 z243 z244 z245 z246 z247 z248 z249 z250 z251 z252 z253 z254 z255 z256 z257 z258 z259 z260 z261 z262 z263 z264 z265 z266 z267 z268 z269 z270 z271 z272 z273 z274 z275 z276 z277 z278 z279 z280 z281 z282 z283 z284 z285 z286 z287 z288 z289 z290 z291 z292 z293 z294 z295 z296 z297 z298 z299 z300 z301 z302 z303 z304 z305 z306 z307 z308 z309 z310 z311 z312 z313 z314 z315 z316 z317 z318 z319 z320 z321 z322 z323 z324 z325 z326 z327 z328 z329 z330 z331 z332 z333 z334 z335 z336 z337 z338 z339 z340 z341 z342 z343 z344 z345 z346 z347 z348 z349 z350 z351 z352 z353 z354 z355 : Value} {Kq3 : Act → World → Prop} (hKq3 : ∀ a w', Code.wp Try.prog (cB (cB (cB (cB (cB (cB (cB (cB (cB (Try.f3.body.getD .skip)))))))))) (bodyPost Try.prog Try.f3 (fun e w' => e = .returned (.bool r) ∧ Below w.heap.size w w')) a w' → Kq3 a w') {Kq14 : Act → World → Prop} (hKq14 : ∀ a w', Code.wp Try.prog (cB (cB (cB (cT (cB (cA (cB (cB (cB (cB (cB (cB (cB (cB (Try.f3.body.getD .skip))))))))))))))) (Exit.then Kq3 (bodyPost Try.prog Try.f3 (fun e w' => e = .returned (.bool r) ∧ Below w.heap.size w w'))) a w' → Kq14 a w') :
  Kq14 { tmps := #[z0, .slice A1 l1.length c1, z2, z3, z4, .slice Ao12 t474.length co12, v479, .bool t478, z8, z9, .int .i64 t485, z11, z12, z13, .int .i64 t490, z15, z16, z17, z18, z19, z20, z21, z22, z23, z24, z25, z26, z27, z28, z29, z30, z31, z32, z33, z34, z35, z36, z37, z38, z39, z40, z41, z42, z43, z44, z45, z46, z47, z48, z49, z50, z51, z52, z53, z54, z55, z56, z57, z58, z59, z60, z61, z62, z63, z64, z65, z66, z67, z68, z69, z70, z71, z72, z73, z74, z75, z76, z77, z78, z79, z80, z81, z82, z83, z84, z85, z86, z87, z88, z89, z90, z91, z92, z93, z94, z95, z96, z97, z98, z99, z100, z101, z102, z103, z104, z105, z106, z107, z108, z109, z110, z111, z112, z113, z114, z115, z116, z117, z118, z119, z120, z121, z122, z123, z124, z125, z126, z127, z128, z129, z130, z131, z132, z133, z134, z135, z136, z137, z138, z139, z140, z141, z142, z143, z144, z145, z146, z147, z148, z149, z150, z151, z152, z153, z154, z155, z156, z157, z158, z159, z160, z161, z162, z163, z164, z165, z166, z167, z168, z169, z170, z171, z172, z173, z174, z175, z176, z177, z178, z179, z180, z181, z182, z183, z184, z185, z186, z187, z188, z189, z190, z191, z192, z193, z194, z195, z196, z197, z198, z199, z200, z201, z202, z203, z204, z205, z206, z207, z208, z209, z210, z211, z212, z213, z214, z215, z216, z217, z218, z219, z220, z221, z222, z223, z224, z225, z226, z227, z228, z229, z230, z231, z232, z233, z234, z235, z236, z237, z238, z239, z240, z241, z242, z243, z244, z245, z246, z247, z248, z249, z250, z251, z252, z253, z254, z255, z256, z257, z258, z259, z260, z261, z262, z263, z264, z265, z266, z267, z268, z269, z270, z271, z272, z273, z274, z275, z276, z277, z278, z279, z280, z281, z282, z283, z284, z285, z286, z287, z288, z289, z290, z291, z292, z293, z294, z295, z296, z297, z298, z299, z300, z301, z302, z303, z304, z305, z306, z307, z308, z309, z310, z311, z312, z313, z314, z315, z316, z317, z318, z319, z320, z321, z322, z323, z324, z325, z326, z327, z328, z329, z330, z331, z332, z333, z334, z335, z336, z337, z338, z339, z340, z341, z342, z343, z344, z345, z346, z347, z348, z349, z350, z351, z352, z353, z354, z355], defers := [] } wc := by
 have HKq3 := Aside0.mk hKq3; clear hKq3
 replace hKq14 := seq_of rfl hKq14; (try simp only [List.append_eq, List.cons_append, List.nil_append] at hKq14)
 have HJ36 := Aside0.mk (Nat.le_refl 0)
 have HJ9 := Aside0.mk (Nat.le_refl 0)
 cases kq with
 | zero => exact absurd HA.out (by simp [laws_FnOrderedCodes.j3])
 | succ kj40 =>
  have H := HA.out
  clear HA
  simp only [laws_FnOrderedCodes.j3] at H
  have H' := Aside0.mk H
  clear H
  go_wp2
  repeat (go_quiet (fail); try go_wp2)
  go_loopg [20, 21] kj40 (fun kq v20 v21 w' => ∃ (x20_4 : Bool) (x21_4 : Int), v20 = .bool x20_4 ∧ v21 = .int .i64 x21_4 ∧ Aside0 (laws_FnOrderedCodes.l1 kq l1 t474 t477 t478 t485 t490 x20_4 x21_4 = some r) ∧ Aside0 (kq ≤ kj40) ∧ Aside0 (Kd.R (Kd.int .i64) 3 w' w.heap.size (fun k_ => some k_ ≠ (v479 : Value).ownBlock) (.slice Ao12 t474.length co12) t474) ∧ Aside0 (Kd.R (Kd.int .i64) 3 w' w.heap.size (fun k_ => some k_ ≠ ((.slice Ao12 t474.length co12) : Value).ownBlock) v479 t477) ∧ Aside0 (Below w.heap.size w w'))
  case atStart => exact ⟨(true), (1), zE1, zE1, H', ⟨Nat.le_refl _⟩, ⟨zR HO_5.out⟩, ⟨zR HO_6.out⟩, ⟨zB HB.out⟩⟩
  case round =>
   clear H'
   try clear c1
   try clear c2
   try clear p2
   try clear c3
   try clear c4
   try clear c5
   try clear p6
   try clear c17
   try clear c17b0
   try clear c17b1
   try clear c17b2
   try clear c19
   try clear c20
   try clear c20b0
   try clear c20b1
   try clear c20b2
   try clear c23
   try clear c23b0
   try clear c23b1
   try clear c24
   try clear c33
   try clear c35
   try clear c39
   try clear c40
   try clear c42
   try clear c42b0
   try clear c42b1
   try clear c43
   try clear c43b0
   try clear c45
   try clear c46
   try clear c46b0
   try clear c48
   try clear c48b0
   try clear c52
   try clear c52b0
   try clear c52b1
   try clear p2
   try clear p6
   obtain ⟨x20_4, x21_4, rfl, rfl, HA, HK4, HO_5, HO_6, HB⟩ := hrel
   cases gk with
   | zero => exact absurd HA.out (by simp [laws_FnOrderedCodes.l1])
   | succ k4 =>
    have H := HA.out
    clear HA
    simp only [laws_FnOrderedCodes.l1] at H
    by_cases c53 : x21_4 < (t474.length : Int)
    ·rw [if_pos c53] at H
     have c53b0 : decide (x21_4 < (t474.length : Int)) = true := decide_eq_true c53
     clear c53
     by_cases c54 : x20_4 = true
     ·subst c54
      rw [if_pos rfl] at H
      obtain ⟨ji55, hji55⟩ : ∃ j_ : Int, (wrap64 (x21_4 - 1)) = j_ := ⟨_, rfl⟩
      replace H : (if 0 ≤ (ji55) then (if (ji55) < (t474.length : Int) then (if 0 ≤ x21_4 then (laws_FnOrderedCodes.l1 k4 l1 t474 t477 t478 t485 t490 (decide ((rd t474 (ji55)) ≤ (rd t474 x21_4))) (wrap64 (x21_4 + 1))) else (none)) else (none)) else (none)) = some r := by first | (rw [hji55] at H; exact H) | (simp only [hji55] at H ⊢; exact H)
      have hji55w : (IntKind.i64.wrap (x21_4 - 1)) = ji55 := (i64_w _).trans hji55
      by_cases c56 : 0 ≤ (ji55)
      ·rw [if_pos c56] at H
       have c56b0 : decide (0 ≤ (ji55)) = true := decide_eq_true c56
       clear c56
       by_cases c57 : (ji55) < (t474.length : Int)
       ·rw [if_pos c57] at H
        have c57b0 : decide ((ji55) < (t474.length : Int)) = true := decide_eq_true c57
        clear c57
        by_cases c58 : 0 ≤ x21_4
        ·rw [if_pos c58] at H
         have c58b0 : decide (0 ≤ x21_4) = true := decide_eq_true c58
         clear c58
         have H' := Aside0.mk H
         clear H
         have p494 : 0 ≤ ((ji55) : Int) := zD
         have q494 : (ji55) < (t474.length : Int) := zD
         obtain ⟨ad494, e494, hx494_0⟩ := Kd.at_int (Kd.R_reads' HO_5.out).2.2 (ji55) p494 q494
         cases e494
         replace p494 := eq_true p494
         replace q494 := eq_true q494
         have p495 : 0 ≤ (x21_4 : Int) := zD
         have q495 : x21_4 < (t474.length : Int) := zD
         obtain ⟨ad495, e495, hx495_0⟩ := Kd.at_int (Kd.R_reads' HO_5.out).2.2 x21_4 p495 q495
         obtain rfl : ad494 = ad495 := (by injection e495)
         replace p495 := eq_true p495
         replace q495 := eq_true q495
         go_wp2
         repeat (go_quiet (fail); try go_wp2)
         first | go_roundg k4 | (simp only [← hji55]; go_roundg k4)
         case measure => have := HJ9.out; have := HJ36.out; have := HJ40.out; have := HK4.out; omega
         case rel => exact ⟨(decide ((rd t474 (ji55)) ≤ (rd t474 x21_4))), (wrap64 (x21_4 + 1)), (by first | rfl | (simp; done) | (simp only [← hji55] <;> (first | rfl | simp)) | (simp [*]; done)), zE1, H', ⟨by have := HJ9.out; have := HJ36.out; have := HJ40.out; have := HK4.out; omega⟩, ⟨zR HO_5.out⟩, ⟨zR HO_6.out⟩, ⟨zB HB.out⟩⟩
        ·rw [if_neg c58] at H
         exact absurd H (by simp)
       ·rw [if_neg c57] at H
        exact absurd H (by simp)
      ·rw [if_neg c56] at H
       exact absurd H (by simp)
     ·replace c54 := Bool.eq_false_iff.mpr c54
      subst c54
      rw [if_neg zN] at H
      have H' := Aside0.mk H
      clear H
      go_wp2
      repeat (go_quiet (fail); try go_wp2)
      go_roundg k4
      case measure => have := HJ9.out; have := HJ36.out; have := HJ40.out; have := HK4.out; omega
      case rel => exact ⟨(false), (wrap64 (x21_4 + 1)), zE1, zE1, H', ⟨by have := HJ9.out; have := HJ36.out; have := HJ40.out; have := HK4.out; omega⟩, ⟨zR HO_5.out⟩, ⟨zR HO_6.out⟩, ⟨zB HB.out⟩⟩
    ·rw [if_neg c53] at H
     have c53b0 : decide (x21_4 < (t474.length : Int)) = false := decide_eq_false c53
     clear c53
     by_cases c59 : x20_4 = true
     ·subst c59
      rw [if_pos rfl] at H
      by_cases c60 : t485 = t490
      ·rw [if_pos c60] at H
       have c60b0 : (t485 == t490) = true := beq_iff_eq.mpr c60
       have c60b1 : (t485 != t490) = false := bne_eq_false_iff_eq.mpr c60
       clear c60
       have H' := Aside0.mk H
       clear H
       go_wp2
       repeat (go_quiet (fail); try go_wp2)
       (try simp only [Act.put, List.setIfInBounds_toArray, List.set_cons_zero, List.set_cons_succ])
       exact part_j5  HR0 HC0 HR1 HC1 H' ⟨Nat.le_refl _⟩ ⟨zR HO_5.out⟩ ⟨zR HO_6.out⟩ ⟨zB HB.out⟩ HKq3.out
      ·rw [if_neg c60] at H
       have c60b0 : (t485 == t490) = false := beq_eq_false_iff_ne.mpr c60
       have c60b1 : (t485 != t490) = true := bne_iff_ne.mpr c60
       obtain rfl := Option.some.inj H
       go_wp2
       repeat (go_quiet (fail); try go_wp2)
       go_ret
       exact ⟨zF, zB HB.out⟩
     ·replace c59 := Bool.eq_false_iff.mpr c59
      subst c59
      rw [if_neg zN] at H
      have H' := Aside0.mk H
      clear H
      go_wp2
      repeat (go_quiet (fail); try go_wp2)
      (try simp only [Act.put, List.setIfInBounds_toArray, List.set_cons_zero, List.set_cons_succ])
      exact part_j5  HR0 HC0 HR1 HC1 H' ⟨Nat.le_refl _⟩ ⟨zR HO_5.out⟩ ⟨zR HO_6.out⟩ ⟨zB HB.out⟩ HKq3.out
theorem part_j1 {A0 : Option Addr} {c0 : Nat} {l0 : List Int} {A1 : Option Addr} {c1 : Nat} {l1 : List Int} {r : Bool} {w wc : World} {t474 : List Int} {t477 : List Int} {t478 : Bool} {t485 : Int} {t490 : Int} {v479 : Value} {Ao12 : Option Addr} {co12 : Nat} {kq : Nat} {x114_36 : Bool} {v114 : Value} (HR0 : Aside0 (Kd.C (Kd.int .u8) w A0 l0.length l0)) (HC0 : Aside0 (l0.length ≤ c0)) (HR1 : Aside0 (Kd.C (Kd.int .u8) w A1 l1.length l1)) (HC1 : Aside0 (l1.length ≤ c1)) (hv_v114 : v114 = .bool x114_36) (HA : Aside0 (laws_FnOrderedCodes.j1 kq l1 t474 t477 t478 t485 t490 x114_36 = some r)) (HJ36 : Aside0 (kq ≤ kq)) (HO_5 : Aside0 (Kd.R (Kd.int .i64) 3 wc w.heap.size (fun k_ => some k_ ≠ (v479 : Value).ownBlock) (.slice Ao12 t474.length co12) t474)) (HO_6 : Aside0 (Kd.R (Kd.int .i64) 3 wc w.heap.size (fun k_ => some k_ ≠ ((.slice Ao12 t474.length co12) : Value).ownBlock) v479 t477)) (HB : Aside0 (Below w.heap.size w wc)) {z0 z2 z3 z4 z8 z9 z11 z12 z13 z15 z16 z17 z18 z19 z20 z21 z22 z23 z24 z25 z26 z27 z28 z29 z30 z31 z32 z33 z34 z35 z36 z37 z38 z39 z40 z41 z42 z43 z44 z45 z46 z47 z48 z49 z50 z51 z52 z53 z54 z55 z56 z57 z58 z59 z60 z61 z62 z63 z64 z65 z66 z67 z68 z69 z70 z71 z72 z73 z74 z75 z76 z77 z78 z79 z80 z81 z82 z83 z84 z85 z86 z87 z88 z89 z90 z91 z92 z93 z94 z95 z96 z97 z98 z99 z100 z101 z102 z103 z104 z105 z106 z107 z108 z109 z110 z111 z112 z113 z115 z116 z117 z118 z119 z120 z121 z122 z123 z124 z125 z126 z127 z128 z129 z130 z131 z132 z133 z134 z135 z136 z137 z138 z139 z140 z141 z142 z143 z144 z145 z146 z147 z148 z149 z150 z151 z152 z153 z154 z155 z156 z157 z158 z159 z160 z161 z162 z163 z164 z165 z166 z167 z168 z169 z170 z171 z172 z173 z174 z175 z176 z177 z178 z179 z180 z181 z182 z183 z184 z185 z186 z187 z188 z189 z190 z191 z192 z193 z194 z195 z196 z197 z198 z199 z200 z201 z202 z203 z204 z205 z206 z207 z208 z209 z210 z211 z212 z213 z214 z215 z216 z217 z218 z219 z220 z221 z222 z223 z224 z225 z226 z227 z228 z229 z230 z231 z232 z233 z234 z235 z236 z237 z238 z239 z240 z241 z242 z243 z244 z245 z246 z247 z248 z249 z250 z251 z252 z253 z254 z255 z256 z257 z258 z259 z260 z261 z262 z263 z264 z265 z266 z267 z268 z269 z270 z271 z272 z273 z274 z275 z276 z277 z278 z279 z280 z281 z282 z283 z284 z285 z286 z287 z288 z289 z290 z291 z292 z293 z294 z295 z296 z297 z298 z299 z300 z301 z302 z303 z304 z305 z306 z307 z308 z309 z310 z311 z312 z313 z314 z315 z316 z317 z318 z319 z320 z321 z322 z323 z324 z325 z326 z327 z328 z329 z330 z331 z332 z333 z334 z335 z336 z337 z338 z339 z340 z341 z342 z343 z344 z345 z346 z347 z348 z349 z350 z351 z352 z353 z354 z355 : Value} {Kq3 : Act → World → Prop} (hKq3 : ∀ a w', Code.wp Try.prog (cB (cB (cB (cB (cB (cB (cB (cB (cB (Try.f3.body.getD .skip)))))))))) (bodyPost Try.prog Try.f3 (fun e w' => e = .returned (.bool r) ∧ Below w.heap.size w w')) a w' → Kq3 a w') {Kq12 : Act → World → Prop} (hKq12 : ∀ a w', Code.wp Try.prog (cB (cB (cT (cB (cA (cB (cB (cB (cB (cB (cB (cB (cB (Try.f3.body.getD .skip)))))))))))))) (Exit.then Kq3 (bodyPost Try.prog Try.f3 (fun e w' => e = .returned (.bool r) ∧ Below w.heap.size w w'))) a w' → Kq12 a w') {Kq13 : Act → World → Prop} (hKq13 : ∀ a w', Code.wp Try.prog (cB (cA (cB (cT (cB (cA (cB (cB (cB (cB (cB (cB (cB (cB (Try.f3.body.getD .skip))))))))))))))) (Exit.then Kq12 (Exit.then Kq3 (bodyPost Try.prog Try.f3 (fun e w' => e = .returned (.bool r) ∧ Below w.heap.size w w')))) a w' → Kq13 a w') :
  Kq13 { tmps := #[z0, .slice A1 l1.length c1, z2, z3, z4, .slice Ao12 t474.length co12, v479, .bool t478, z8, z9, .int .i64 t485, z11, z12, z13, .int .i64 t490, z15, z16, z17, z18, z19, z20, z21, z22, z23, z24, z25, z26, z27, z28, z29, z30, z31, z32, z33, z34, z35, z36, z37, z38, z39, z40, z41, z42, z43, z44, z45, z46, z47, z48, z49, z50, z51, z52, z53, z54, z55, z56, z57, z58, z59, z60, z61, z62, z63, z64, z65, z66, z67, z68, z69, z70, z71, z72, z73, z74, z75, z76, z77, z78, z79, z80, z81, z82, z83, z84, z85, z86, z87, z88, z89, z90, z91, z92, z93, z94, z95, z96, z97, z98, z99, z100, z101, z102, z103, z104, z105, z106, z107, z108, z109, z110, z111, z112, z113, v114, z115, z116, z117, z118, z119, z120, z121, z122, z123, z124, z125, z126, z127, z128, z129, z130, z131, z132, z133, z134, z135, z136, z137, z138, z139, z140, z141, z142, z143, z144, z145, z146, z147, z148, z149, z150, z151, z152, z153, z154, z155, z156, z157, z158, z159, z160, z161, z162, z163, z164, z165, z166, z167, z168, z169, z170, z171, z172, z173, z174, z175, z176, z177, z178, z179, z180, z181, z182, z183, z184, z185, z186, z187, z188, z189, z190, z191, z192, z193, z194, z195, z196, z197, z198, z199, z200, z201, z202, z203, z204, z205, z206, z207, z208, z209, z210, z211, z212, z213, z214, z215, z216, z217, z218, z219, z220, z221, z222, z223, z224, z225, z226, z227, z228, z229, z230, z231, z232, z233, z234, z235, z236, z237, z238, z239, z240, z241, z242, z243, z244, z245, z246, z247, z248, z249, z250, z251, z252, z253, z254, z255, z256, z257, z258, z259, z260, z261, z262, z263, z264, z265, z266, z267, z268, z269, z270, z271, z272, z273, z274, z275, z276, z277, z278, z279, z280, z281, z282, z283, z284, z285, z286, z287, z288, z289, z290, z291, z292, z293, z294, z295, z296, z297, z298, z299, z300, z301, z302, z303, z304, z305, z306, z307, z308, z309, z310, z311, z312, z313, z314, z315, z316, z317, z318, z319, z320, z321, z322, z323, z324, z325, z326, z327, z328, z329, z330, z331, z332, z333, z334, z335, z336, z337, z338, z339, z340, z341, z342, z343, z344, z345, z346, z347, z348, z349, z350, z351, z352, z353, z354, z355], defers := [] } wc := by
 have HKq3 := Aside0.mk hKq3; clear hKq3
 replace hKq12 := seq_of rfl hKq12; (try simp only [List.append_eq, List.cons_append, List.nil_append] at hKq12)
 replace hKq13 := cond_of rfl hKq13; (try simp only [List.append_eq, List.cons_append, List.nil_append] at hKq13)
 subst hv_v114
 have HJ9 := Aside0.mk (Nat.le_refl 0)
 cases kq with
 | zero => exact absurd HA.out (by simp [laws_FnOrderedCodes.j1])
 | succ kj36 =>
  have H := HA.out
  clear HA
  simp only [laws_FnOrderedCodes.j1] at H
  by_cases c40 : x114_36 = true
  ·subst c40
   rw [if_pos rfl] at H
   obtain rfl := Option.some.inj H
   go_wp2
   repeat (go_quiet (fail); try go_wp2)
   go_ret
   exact ⟨zF, zB HB.out⟩
  ·replace c40 := Bool.eq_false_iff.mpr c40
   subst c40
   rw [if_neg zN] at H
   have HC41 := Aside0.mk H
   clear H
   go_upto_if 117 with (fail)
   refine wp_cutK (by assumption) ?_
   intro Kq14 HKq14
   have H := HC41.out
   clear HC41
   by_cases c42 : (t474.length : Int) > 1
   ·rw [if_pos c42] at H
    have c42b0 : decide (1 < (t474.length : Int)) = true := decide_eq_true c42
    have c42b1 : decide (1 < t474.length) = true := decide_eq_true (by omega)
    clear c42
    (first | rw [c42b0] | (simp only [i64_w, i32_w]; rw [c42b0]) | skip)
    have H' := Aside0.mk H
    clear H
    go_wp2
    repeat (go_quiet (fail); try go_wp2)
    go_loopg [16, 17] kj36 (fun kq v16 v17 w' => ∃ (x16_3 : Int) (x17_3 : Int), v16 = .int .i64 x16_3 ∧ v17 = .int .i64 x17_3 ∧ Aside0 (laws_FnOrderedCodes.l0 kq l1 t474 t477 t478 t485 t490 x16_3 x17_3 = some r) ∧ Aside0 (kq ≤ kj36) ∧ Aside0 (Kd.R (Kd.int .i64) 3 w' w.heap.size (fun k_ => some k_ ≠ (v479 : Value).ownBlock) (.slice Ao12 t474.length co12) t474) ∧ Aside0 (Kd.R (Kd.int .i64) 3 w' w.heap.size (fun k_ => some k_ ≠ ((.slice Ao12 t474.length co12) : Value).ownBlock) v479 t477) ∧ Aside0 (Below w.heap.size w w'))
    case atStart => exact ⟨((-1)), (1), zE1, zE1, H', ⟨Nat.le_refl _⟩, ⟨zR HO_5.out⟩, ⟨zR HO_6.out⟩, ⟨zB HB.out⟩⟩
    case round =>
     clear H'
     try clear c1
     try clear c2
     try clear p2
     try clear c3
     try clear c4
     try clear c17
     try clear c17b0
     try clear c17b1
     try clear c17b2
     try clear c19
     try clear c20
     try clear c20b0
     try clear c20b1
     try clear c20b2
     try clear c23
     try clear c23b0
     try clear c23b1
     try clear c24
     try clear c33
     try clear c35
     try clear c39
     try clear c40
     try clear c42
     try clear c42b0
     try clear c42b1
     try clear p2
     obtain ⟨x16_3, x17_3, rfl, rfl, HA, HK3, HO_5, HO_6, HB⟩ := hrel
     cases gk with
     | zero => exact absurd HA.out (by simp [laws_FnOrderedCodes.l0])
     | succ k3 =>
      have H := HA.out
      clear HA
      simp only [laws_FnOrderedCodes.l0] at H
      by_cases c43 : x17_3 < (t474.length : Int)
      ·rw [if_pos c43] at H
       have c43b0 : decide (x17_3 < (t474.length : Int)) = true := decide_eq_true c43
       clear c43
       replace H := Option.bind_eq_some_iff.mp H
       obtain ⟨⟨t492, t493⟩, A440, H⟩ := H
       (try dsimp only at H)
       have A44 := Aside0.mk A440
       clear A440
       by_cases c45 : t493 = true
       ·subst c45
        rw [if_pos rfl] at H
        by_cases c46 : x16_3 < 0
        ·rw [if_pos c46] at H
         have c46b0 : decide (x16_3 < 0) = true := decide_eq_true c46
         clear c46
         have H' := Aside0.mk H
         clear H
         go_wp2_with (first | (go_at_call 12; (with_reducible refine (impl_SplitCost.calls k3 _ _ t474 x17_3 t492 true _ ?side1 ?side2 A44.out).mono ?_); (case side1 => exact zC (Kd.R_reads' HO_5.out).2.2); (case side2 => exact (Kd.R_reads' HO_5.out).2.1); rintro e w47 ⟨rfl, hb⟩; have n0_ := Aside0.mk (Kd.R_below (zR HO_5.out) hb); have n1_ := Aside0.mk (Kd.R_below (zR HO_6.out) hb); have n2_ := Aside0.mk (below_step (zB HB.out) hb); clear HO_5; clear HO_6; clear HB; have HO_5 := n0_; have HO_6 := n1_; have HB := n2_; clear n0_ n1_ n2_; (try clear hb); (try clear hb2); (try clear hk); (try clear hi)))
         go_roundg k3
         case measure => have := HJ9.out; have := HJ36.out; have := HK3.out; omega
         case rel => exact ⟨(t492), (wrap64 (x17_3 + 1)), zE1, zE1, H', ⟨by have := HJ9.out; have := HJ36.out; have := HK3.out; omega⟩, ⟨zR HO_5.out⟩, ⟨zR HO_6.out⟩, ⟨zB HB.out⟩⟩
        ·rw [if_neg c46] at H
         have c46b0 : decide (x16_3 < 0) = false := decide_eq_false c46
         clear c46
         by_cases c48 : t492 < x16_3
         ·rw [if_pos c48] at H
          have c48b0 : decide (t492 < x16_3) = true := decide_eq_true c48
          clear c48
          have H' := Aside0.mk H
          clear H
          go_wp2_with (first | (go_at_call 12; (with_reducible refine (impl_SplitCost.calls k3 _ _ t474 x17_3 t492 true _ ?side1 ?side2 A44.out).mono ?_); (case side1 => exact zC (Kd.R_reads' HO_5.out).2.2); (case side2 => exact (Kd.R_reads' HO_5.out).2.1); rintro e w49 ⟨rfl, hb⟩; have n0_ := Aside0.mk (Kd.R_below (zR HO_5.out) hb); have n1_ := Aside0.mk (Kd.R_below (zR HO_6.out) hb); have n2_ := Aside0.mk (below_step (zB HB.out) hb); clear HO_5; clear HO_6; clear HB; have HO_5 := n0_; have HO_6 := n1_; have HB := n2_; clear n0_ n1_ n2_; (try clear hb); (try clear hb2); (try clear hk); (try clear hi)))
          go_roundg k3
          case measure => have := HJ9.out; have := HJ36.out; have := HK3.out; omega
          case rel => exact ⟨(t492), (wrap64 (x17_3 + 1)), zE1, zE1, H', ⟨by have := HJ9.out; have := HJ36.out; have := HK3.out; omega⟩, ⟨zR HO_5.out⟩, ⟨zR HO_6.out⟩, ⟨zB HB.out⟩⟩
         ·rw [if_neg c48] at H
          have c48b0 : decide (t492 < x16_3) = false := decide_eq_false c48
          clear c48
          have H' := Aside0.mk H
          clear H
          go_wp2_with (first | (go_at_call 12; (with_reducible refine (impl_SplitCost.calls k3 _ _ t474 x17_3 t492 true _ ?side1 ?side2 A44.out).mono ?_); (case side1 => exact zC (Kd.R_reads' HO_5.out).2.2); (case side2 => exact (Kd.R_reads' HO_5.out).2.1); rintro e w50 ⟨rfl, hb⟩; have n0_ := Aside0.mk (Kd.R_below (zR HO_5.out) hb); have n1_ := Aside0.mk (Kd.R_below (zR HO_6.out) hb); have n2_ := Aside0.mk (below_step (zB HB.out) hb); clear HO_5; clear HO_6; clear HB; have HO_5 := n0_; have HO_6 := n1_; have HB := n2_; clear n0_ n1_ n2_; (try clear hb); (try clear hb2); (try clear hk); (try clear hi)))
          go_roundg k3
          case measure => have := HJ9.out; have := HJ36.out; have := HK3.out; omega
          case rel => exact ⟨(x16_3), (wrap64 (x17_3 + 1)), zE1, zE1, H', ⟨by have := HJ9.out; have := HJ36.out; have := HK3.out; omega⟩, ⟨zR HO_5.out⟩, ⟨zR HO_6.out⟩, ⟨zB HB.out⟩⟩
       ·replace c45 := Bool.eq_false_iff.mpr c45
        subst c45
        rw [if_neg zN] at H
        obtain rfl := Option.some.inj H
        go_wp2_with (first | (go_at_call 12; (with_reducible refine (impl_SplitCost.calls k3 _ _ t474 x17_3 t492 false _ ?side1 ?side2 A44.out).mono ?_); (case side1 => exact zC (Kd.R_reads' HO_5.out).2.2); (case side2 => exact (Kd.R_reads' HO_5.out).2.1); rintro e w51 ⟨rfl, hb⟩; have n0_ := Aside0.mk (Kd.R_below (zR HO_5.out) hb); have n1_ := Aside0.mk (Kd.R_below (zR HO_6.out) hb); have n2_ := Aside0.mk (below_step (zB HB.out) hb); clear HO_5; clear HO_6; clear HB; have HO_5 := n0_; have HO_6 := n1_; have HB := n2_; clear n0_ n1_ n2_; (try clear hb); (try clear hb2); (try clear hk); (try clear hi)))
        go_ret
        exact ⟨zF, zB HB.out⟩
      ·rw [if_neg c43] at H
       have c43b0 : decide (x17_3 < (t474.length : Int)) = false := decide_eq_false c43
       clear c43
       by_cases c52 : x16_3 = t485
       ·rw [if_pos c52] at H
        have c52b0 : (x16_3 == t485) = true := beq_iff_eq.mpr c52
        have c52b1 : (x16_3 != t485) = false := bne_eq_false_iff_eq.mpr c52
        clear c52
        have H' := Aside0.mk H
        clear H
        go_wp2
        repeat (go_quiet (fail); try go_wp2)
        (try simp only [Act.put, List.setIfInBounds_toArray, List.set_cons_zero, List.set_cons_succ])
        exact part_j3  HR0 HC0 HR1 HC1 H' ⟨Nat.le_refl _⟩ ⟨zR HO_5.out⟩ ⟨zR HO_6.out⟩ ⟨zB HB.out⟩ HKq3.out HKq14.out
       ·rw [if_neg c52] at H
        have c52b0 : (x16_3 == t485) = false := beq_eq_false_iff_ne.mpr c52
        have c52b1 : (x16_3 != t485) = true := bne_iff_ne.mpr c52
        obtain rfl := Option.some.inj H
        go_wp2
        repeat (go_quiet (fail); try go_wp2)
        go_ret
        exact ⟨zF, zB HB.out⟩
   ·rw [if_neg c42] at H
    have c42b0 : decide (1 < (t474.length : Int)) = false := decide_eq_false c42
    have c42b1 : decide (1 < t474.length) = false := decide_eq_false (by omega)
    clear c42
    (first | rw [c42b0] | (simp only [i64_w, i32_w]; rw [c42b0]) | skip)
    have H' := Aside0.mk H
    clear H
    go_wp2
    repeat (go_quiet (fail); try go_wp2)
    (try simp only [Act.put, List.setIfInBounds_toArray, List.set_cons_zero, List.set_cons_succ])
    exact part_j3  HR0 HC0 HR1 HC1 H' ⟨Nat.le_refl _⟩ ⟨zR HO_5.out⟩ ⟨zR HO_6.out⟩ ⟨zB HB.out⟩ HKq3.out HKq14.out
theorem part_j0 {A0 : Option Addr} {c0 : Nat} {l0 : List Int} {A1 : Option Addr} {c1 : Nat} {l1 : List Int} {r : Bool} {w wc : World} {t474 : List Int} {t477 : List Int} {t478 : Bool} {t485 : Int} {t486 : Bool} {v479 : Value} {Ao12 : Option Addr} {co12 : Nat} {kq : Nat} {x101_9 : Bool} {v101 : Value} (HR0 : Aside0 (Kd.C (Kd.int .u8) w A0 l0.length l0)) (HC0 : Aside0 (l0.length ≤ c0)) (HR1 : Aside0 (Kd.C (Kd.int .u8) w A1 l1.length l1)) (HC1 : Aside0 (l1.length ≤ c1)) (hv_v101 : v101 = .bool x101_9) (HA : Aside0 (laws_FnOrderedCodes.j0 kq l1 t474 t477 t478 t485 t486 x101_9 = some r)) (HJ9 : Aside0 (kq ≤ kq)) (HO_5 : Aside0 (Kd.R (Kd.int .i64) 3 wc w.heap.size (fun k_ => some k_ ≠ (v479 : Value).ownBlock) (.slice Ao12 t474.length co12) t474)) (HO_6 : Aside0 (Kd.R (Kd.int .i64) 3 wc w.heap.size (fun k_ => some k_ ≠ ((.slice Ao12 t474.length co12) : Value).ownBlock) v479 t477)) (HB : Aside0 (Below w.heap.size w wc)) {z0 z2 z3 z4 z8 z9 z12 z13 z14 z15 z16 z17 z18 z19 z20 z21 z22 z23 z24 z25 z26 z27 z28 z29 z30 z31 z32 z33 z34 z35 z36 z37 z38 z39 z40 z41 z42 z43 z44 z45 z46 z47 z48 z49 z50 z51 z52 z53 z54 z55 z56 z57 z58 z59 z60 z61 z62 z63 z64 z65 z66 z67 z68 z69 z70 z71 z72 z73 z74 z75 z76 z77 z78 z79 z80 z81 z82 z83 z84 z85 z86 z87 z88 z89 z90 z91 z92 z93 z94 z95 z96 z97 z98 z99 z100 z102 z103 z104 z105 z106 z107 z108 z109 z110 z111 z112 z113 z114 z115 z116 z117 z118 z119 z120 z121 z122 z123 z124 z125 z126 z127 z128 z129 z130 z131 z132 z133 z134 z135 z136 z137 z138 z139 z140 z141 z142 z143 z144 z145 z146 z147 z148 z149 z150 z151 z152 z153 z154 z155 z156 z157 z158 z159 z160 z161 z162 z163 z164 z165 z166 z167 z168 z169 z170 z171 z172 z173 z174 z175 z176 z177 z178 z179 z180 z181 z182 z183 z184 z185 z186 z187 z188 z189 z190 z191 z192 z193 z194 z195 z196 z197 z198 z199 z200 z201 z202 z203 z204 z205 z206 z207 z208 z209 z210 z211 z212 z213 z214 z215 z216 z217 z218 z219 z220 z221 z222 z223 z224 z225 z226 z227 z228 z229 z230 z231 z232 z233 z234 z235 z236 z237 z238 z239 z240 z241 z242 z243 z244 z245 z246 z247 z248 z249 z250 z251 z252 z253 z254 z255 z256 z257 z258 z259 z260 z261 z262 z263 z264 z265 z266 z267 z268 z269 z270 z271 z272 z273 z274 z275 z276 z277 z278 z279 z280 z281 z282 z283 z284 z285 z286 z287 z288 z289 z290 z291 z292 z293 z294 z295 z296 z297 z298 z299 z300 z301 z302 z303 z304 z305 z306 z307 z308 z309 z310 z311 z312 z313 z314 z315 z316 z317 z318 z319 z320 z321 z322 z323 z324 z325 z326 z327 z328 z329 z330 z331 z332 z333 z334 z335 z336 z337 z338 z339 z340 z341 z342 z343 z344 z345 z346 z347 z348 z349 z350 z351 z352 z353 z354 z355 : Value} {Kq1 : Act → World → Prop} (hKq1 : ∀ a w', Code.wp Try.prog (cB (cB (cB (cB (cB (cB (cB (cB (Try.f3.body.getD .skip))))))))) (bodyPost Try.prog Try.f3 (fun e w' => e = .returned (.bool r) ∧ Below w.heap.size w w')) a w' → Kq1 a w') {Kq2 : Act → World → Prop} (hKq2 : ∀ a w', Code.wp Try.prog (cB (cA (cB (cB (cB (cB (cB (cB (cB (Try.f3.body.getD .skip)))))))))) (Exit.then Kq1 (bodyPost Try.prog Try.f3 (fun e w' => e = .returned (.bool r) ∧ Below w.heap.size w w'))) a w' → Kq2 a w') :
  Kq2 { tmps := #[z0, .slice A1 l1.length c1, z2, z3, z4, .slice Ao12 t474.length co12, v479, .bool t478, z8, z9, .int .i64 t485, .bool t486, z12, z13, z14, z15, z16, z17, z18, z19, z20, z21, z22, z23, z24, z25, z26, z27, z28, z29, z30, z31, z32, z33, z34, z35, z36, z37, z38, z39, z40, z41, z42, z43, z44, z45, z46, z47, z48, z49, z50, z51, z52, z53, z54, z55, z56, z57, z58, z59, z60, z61, z62, z63, z64, z65, z66, z67, z68, z69, z70, z71, z72, z73, z74, z75, z76, z77, z78, z79, z80, z81, z82, z83, z84, z85, z86, z87, z88, z89, z90, z91, z92, z93, z94, z95, z96, z97, z98, z99, z100, v101, z102, z103, z104, z105, z106, z107, z108, z109, z110, z111, z112, z113, z114, z115, z116, z117, z118, z119, z120, z121, z122, z123, z124, z125, z126, z127, z128, z129, z130, z131, z132, z133, z134, z135, z136, z137, z138, z139, z140, z141, z142, z143, z144, z145, z146, z147, z148, z149, z150, z151, z152, z153, z154, z155, z156, z157, z158, z159, z160, z161, z162, z163, z164, z165, z166, z167, z168, z169, z170, z171, z172, z173, z174, z175, z176, z177, z178, z179, z180, z181, z182, z183, z184, z185, z186, z187, z188, z189, z190, z191, z192, z193, z194, z195, z196, z197, z198, z199, z200, z201, z202, z203, z204, z205, z206, z207, z208, z209, z210, z211, z212, z213, z214, z215, z216, z217, z218, z219, z220, z221, z222, z223, z224, z225, z226, z227, z228, z229, z230, z231, z232, z233, z234, z235, z236, z237, z238, z239, z240, z241, z242, z243, z244, z245, z246, z247, z248, z249, z250, z251, z252, z253, z254, z255, z256, z257, z258, z259, z260, z261, z262, z263, z264, z265, z266, z267, z268, z269, z270, z271, z272, z273, z274, z275, z276, z277, z278, z279, z280, z281, z282, z283, z284, z285, z286, z287, z288, z289, z290, z291, z292, z293, z294, z295, z296, z297, z298, z299, z300, z301, z302, z303, z304, z305, z306, z307, z308, z309, z310, z311, z312, z313, z314, z315, z316, z317, z318, z319, z320, z321, z322, z323, z324, z325, z326, z327, z328, z329, z330, z331, z332, z333, z334, z335, z336, z337, z338, z339, z340, z341, z342, z343, z344, z345, z346, z347, z348, z349, z350, z351, z352, z353, z354, z355], defers := [] } wc := by
 replace hKq1 := seq_of rfl hKq1; (try simp only [List.append_eq, List.cons_append, List.nil_append] at hKq1)
 replace hKq2 := cond_of rfl hKq2; (try simp only [List.append_eq, List.cons_append, List.nil_append] at hKq2)
 subst hv_v101
 cases kq with
 | zero => exact absurd HA.out (by simp [laws_FnOrderedCodes.j0])
 | succ kj9 =>
  have H := HA.out
  clear HA
  simp only [laws_FnOrderedCodes.j0] at H
  by_cases c33 : x101_9 = true
  ·subst c33
   rw [if_pos rfl] at H
   obtain rfl := Option.some.inj H
   go_wp2
   repeat (go_quiet (fail); try go_wp2)
   go_ret
   exact ⟨zF, zB HB.out⟩
  ·replace c33 := Bool.eq_false_iff.mpr c33
   subst c33
   rw [if_neg zN] at H
   have HC34 := Aside0.mk H
   clear H
   go_upto_if 102 with (fail)
   refine wp_cutK (by assumption) ?_
   intro Kq3 HKq3
   have H := HC34.out
   clear HC34
   by_cases c35 : t486 = true
   ·subst c35
    rw [if_pos rfl] at H
    replace H := Option.bind_eq_some_iff.mp H
    obtain ⟨⟨t490, t491⟩, A360, H⟩ := H
    (try dsimp only at H)
    have A36 := Aside0.mk A360
    clear A360
    have HC37 := Aside0.mk H
    clear H
    go_upto_region 12 with (first | (go_at_call 11; (with_reducible refine (impl_BestCost.calls kj9 _ _ t474 2 t490 t491 _ ?side1 ?side2 A36.out).mono ?_); (case side1 => exact zC (Kd.R_reads' HO_5.out).2.2); (case side2 => exact (Kd.R_reads' HO_5.out).2.1); rintro e w38 ⟨rfl, hb⟩; have n0_ := Aside0.mk (Kd.R_below (zR HO_5.out) hb); have n1_ := Aside0.mk (Kd.R_below (zR HO_6.out) hb); have n2_ := Aside0.mk (below_step (zB HB.out) hb); clear HO_5; clear HO_6; clear HB; have HO_5 := n0_; have HO_6 := n1_; have HB := n2_; clear n0_ n1_ n2_; (try clear hb); (try clear hb2); (try clear hk); (try clear hi)))
    (try simp only [Act.put, List.setIfInBounds_toArray, List.set_cons_zero, List.set_cons_succ])
    refine wp_cutK (by assumption) ?_
    intro Kq13 HKq13
    have H := HC37.out
    clear HC37
    by_cases c39 : t491 = true
    ·subst c39
     rw [if_pos rfl] at H
     have H' := Aside0.mk H
     clear H
     go_wp2
     repeat (go_quiet (fail); try go_wp2)
     (try simp only [Act.put, List.setIfInBounds_toArray, List.set_cons_zero, List.set_cons_succ])
     exact part_j1 (x114_36 := (decide (t485 < t490))) HR0 HC0 HR1 HC1 zE1 H' ⟨Nat.le_refl _⟩ ⟨zR HO_5.out⟩ ⟨zR HO_6.out⟩ ⟨zB HB.out⟩ HKq3.out (by assumption) HKq13.out
    ·replace c39 := Bool.eq_false_iff.mpr c39
     subst c39
     rw [if_neg zN] at H
     have H' := Aside0.mk H
     clear H
     go_wp2
     repeat (go_quiet (fail); try go_wp2)
     (try simp only [Act.put, List.setIfInBounds_toArray, List.set_cons_zero, List.set_cons_succ])
     exact part_j1 (x114_36 := (true)) HR0 HC0 HR1 HC1 zE1 H' ⟨Nat.le_refl _⟩ ⟨zR HO_5.out⟩ ⟨zR HO_6.out⟩ ⟨zB HB.out⟩ HKq3.out (by assumption) HKq13.out
   ·replace c35 := Bool.eq_false_iff.mpr c35
    subst c35
    rw [if_neg zN] at H
    have H' := Aside0.mk H
    clear H
    go_wp2
    repeat (go_quiet (fail); try go_wp2)
    (try simp only [Act.put, List.setIfInBounds_toArray, List.set_cons_zero, List.set_cons_succ])
    exact part_j5  HR0 HC0 HR1 HC1 H' ⟨Nat.le_refl _⟩ ⟨zR HO_5.out⟩ ⟨zR HO_6.out⟩ ⟨zB HB.out⟩ HKq3.out
end Go.Proofs.Ytcdmmpbcjcajlaa.XFnOrderedCodes
