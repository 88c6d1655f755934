-- by wip/shake.py
import Derived.Test.YtcdmmpbcjcajlaaXFnOrderedCodesx14
namespace Go.Proofs.Ytcdmmpbcjcajlaa.XFnOrderedCodes
set_option maxHeartbeats 8000000
set_option maxRecDepth 100000
open Go.RowKit Go.Proofs.Ytcdmmpbcjcajlaa.Hand Go.Proofs.YtcdmmpbcjcajlaaW.PrintWords Go.Proofs.YtcdmmpbcjcajlaaW.PrintLast Go.Proofs.YtcdmmpbcjcajlaaW.PrintMore
attribute [local go_sem] max2_int min2_int max_two min_two max_three min_three max_four min_four   -- for this text's walks alone
set_option linter.unusedVariables false
set_option linter.unusedSimpArgs false
theorem part_j11 {A0 : Option Addr} {c0 : Nat} {l0 : List Int} {A1 : Option Addr} {c1 : Nat} {l1 : List Int} {r : Bool} {w wc : World} {t532 : List Int} {t536 : Int} {t537 : Bool} {Ao156 : Option Addr} {co156 : Nat} {kq : Nat} {x343_149 : Bool} {v343 : Value} (HR0 : Aside0 (Kd.C (Kd.int .u8) w A0 l0.length l0)) (HC0 : Aside0 (l0.length ≤ c0)) (HR1 : Aside0 (Kd.C (Kd.int .u8) w A1 l1.length l1)) (HC1 : Aside0 (l1.length ≤ c1)) (hv_v343 : v343 = .bool x343_149) (HA : Aside0 (laws_FnOrderedCodes.j11 kq t532 t536 t537 x343_149 = some r)) (HJ149 : Aside0 (kq ≤ kq)) (HO_43 : Aside0 (Kd.R (Kd.int .i64) 3 wc w.heap.size (fun _ => True) (.slice Ao156 t532.length co156) t532)) (HB : Aside0 (Below w.heap.size w wc)) {z0 z1 z2 z3 z4 z5 z6 z7 z8 z9 z10 z11 z12 z13 z14 z15 z16 z17 z18 z19 z20 z21 z22 z23 z24 z25 z26 z27 z28 z29 z30 z31 z32 z33 z34 z35 z36 z37 z38 z39 z40 z41 z42 z44 z47 z48 z49 z50 z51 z52 z53 z54 z55 z56 z57 z58 z59 z60 z61 z62 z63 z64 z65 z66 z67 z68 z69 z70 z71 z72 z73 z74 z75 z76 z77 z78 z79 z80 z81 z82 z83 z84 z85 z86 z87 z88 z89 z90 z91 z92 z93 z94 z95 z96 z97 z98 z99 z100 z101 z102 z103 z104 z105 z106 z107 z108 z109 z110 z111 z112 z113 z114 z115 z116 z117 z118 z119 z120 z121 z122 z123 z124 z125 z126 z127 z128 z129 z130 z131 z132 z133 z134 z135 z136 z137 z138 z139 z140 z141 z142 z143 z144 z145 z146 z147 z148 z149 z150 z151 z152 z153 z154 z155 z156 z157 z158 z159 z160 z161 z162 z163 z164 z165 z166 z167 z168 z169 z170 z171 z172 z173 z174 z175 z176 z177 z178 z179 z180 z181 z182 z183 z184 z185 z186 z187 z188 z189 z190 z191 z192 z193 z194 z195 z196 z197 z198 z199 z200 z201 z202 z203 z204 z205 z206 z207 z208 z209 z210 z211 z212 z213 z214 z215 z216 z217 z218 z219 z220 z221 z222 z223 z224 z225 z226 z227 z228 z229 z230 z231 z232 z233 z234 z235 z236 z237 z238 z239 z240 z241 z242 z243 z244 z245 z246 z247 z248 z249 z250 z251 z252 z253 z254 z255 z256 z257 z258 z259 z260 z261 z262 z263 z264 z265 z266 z267 z268 z269 z270 z271 z272 z273 z274 z275 z276 z277 z278 z279 z280 z281 z282 z283 z284 z285 z286 z287 z288 z289 z290 z291 z292 z293 z294 z295 z296 z297 z298 z299 z300 z301 z302 z303 z304 z305 z306 z307 z308 z309 z310 z311 z312 z313 z314 z315 z316 z317 z318 z319 z320 z321 z322 z323 z324 z325 z326 z327 z328 z329 z330 z331 z332 z333 z334 z335 z336 z337 z338 z339 z340 z341 z342 z344 z345 z346 z347 z348 z349 z350 z351 z352 z353 z354 z355 : Value} {Kq8 : Act → World → Prop} (hKq8 : ∀ a w', Code.wp Try.prog (cB (cB (cB (cB (cB (cB (cB (cB (cB (cB (cB (cB (cB (cB (cB (cB (cB (cB (cB (cB (cB (cB (cB (cB (Try.f3.body.getD .skip))))))))))))))))))))))))) (bodyPost Try.prog Try.f3 (fun e w' => e = .returned (.bool r) ∧ Below w.heap.size w w')) a w' → Kq8 a w') {Kq9 : Act → World → Prop} (hKq9 : ∀ a w', Code.wp Try.prog (cB (cA (cB (cB (cB (cB (cB (cB (cB (cB (cB (cB (cB (cB (cB (cB (cB (cB (cB (cB (cB (cB (cB (cB (cB (Try.f3.body.getD .skip)))))))))))))))))))))))))) (Exit.then Kq8 (bodyPost Try.prog Try.f3 (fun e w' => e = .returned (.bool r) ∧ Below w.heap.size w w'))) a w' → Kq9 a w') :
  Kq9 { tmps := #[z0, z1, z2, z3, z4, z5, z6, z7, z8, z9, z10, z11, z12, z13, z14, z15, z16, z17, z18, z19, z20, z21, z22, z23, z24, z25, z26, z27, z28, z29, z30, z31, z32, z33, z34, z35, z36, z37, z38, z39, z40, z41, z42, .slice Ao156 t532.length co156, z44, .int .i64 t536, .bool t537, z47, z48, z49, z50, z51, z52, z53, z54, z55, z56, z57, z58, z59, z60, z61, z62, z63, z64, z65, z66, z67, z68, z69, z70, z71, z72, z73, z74, z75, z76, z77, z78, z79, z80, z81, z82, z83, z84, z85, z86, z87, z88, z89, z90, z91, z92, z93, z94, z95, z96, z97, z98, z99, z100, z101, z102, z103, z104, z105, z106, z107, z108, z109, z110, z111, z112, z113, z114, z115, z116, z117, z118, z119, z120, z121, z122, z123, z124, z125, z126, z127, z128, z129, z130, z131, z132, z133, z134, z135, z136, z137, z138, z139, z140, z141, z142, z143, z144, z145, z146, z147, z148, z149, z150, z151, z152, z153, z154, z155, z156, z157, z158, z159, z160, z161, z162, z163, z164, z165, z166, z167, z168, z169, z170, z171, z172, z173, z174, z175, z176, z177, z178, z179, z180, z181, z182, z183, z184, z185, z186, z187, z188, z189, z190, z191, z192, z193, z194, z195, z196, z197, z198, z199, z200, z201, z202, z203, z204, z205, z206, z207, z208, z209, z210, z211, z212, z213, z214, z215, z216, z217, z218, z219, z220, z221, z222, z223, z224, z225, z226, z227, z228, z229, z230, z231, z232, z233, z234, z235, z236, z237, z238, z239, z240, z241, z242, z243, z244, z245, z246, z247, z248, z249, z250, z251, z252, z253, z254, z255, z256, z257, z258, z259, z260, z261, z262, z263, z264, z265, z266, z267, z268, z269, z270, z271, z272, z273, z274, z275, z276, z277, z278, z279, z280, z281, z282, z283, z284, z285, z286, z287, z288, z289, z290, z291, z292, z293, z294, z295, z296, z297, z298, z299, z300, z301, z302, z303, z304, z305, z306, z307, z308, z309, z310, z311, z312, z313, z314, z315, z316, z317, z318, z319, z320, z321, z322, z323, z324, z325, z326, z327, z328, z329, z330, z331, z332, z333, z334, z335, z336, z337, z338, z339, z340, z341, z342, v343, z344, z345, z346, z347, z348, z349, z350, z351, z352, z353, z354, z355], defers := [] } wc := by
 replace hKq8 := seq_of rfl hKq8; (try simp only [List.append_eq, List.cons_append, List.nil_append] at hKq8)
 replace hKq9 := cond_of rfl hKq9; (try simp only [List.append_eq, List.cons_append, List.nil_append] at hKq9)
 subst hv_v343
 cases kq with
 | zero => exact absurd HA.out (by simp [laws_FnOrderedCodes.j11])
 | succ kj149 =>
  have H := HA.out
  clear HA
  simp only [laws_FnOrderedCodes.j11] at H
  by_cases c162 : x343_149 = true
  ·subst c162
   rw [if_pos rfl] at H
   obtain rfl := Option.some.inj H
   go_wp2
   repeat (go_quiet (fail); try go_wp2)
   go_ret
   exact ⟨zF, zB HB.out⟩
  ·replace c162 := Bool.eq_false_iff.mpr c162
   subst c162
   rw [if_neg zN] at H
   by_cases c163 : t537 = true
   ·subst c163
    rw [if_pos rfl] at H
    replace H := Option.bind_eq_some_iff.mp H
    obtain ⟨⟨t540, t541⟩, A1640, H⟩ := H
    (try dsimp only at H)
    have A164 := Aside0.mk A1640
    clear A1640
    by_cases c165 : t541 = true
    ·subst c165
     rw [if_pos rfl] at H
     obtain rfl := Option.some.inj H
     go_wp2_with (first | (go_at_call 8; (with_reducible refine (impl_OrderedCost.calls kj149 _ _ t532 t540 true _ ?side1 ?side2 A164.out).mono ?_); (case side1 => exact zC (Kd.R_reads' HO_43.out).2.2); (case side2 => exact (Kd.R_reads' HO_43.out).2.1); rintro e w166 ⟨rfl, hb⟩; have n0_ := Aside0.mk (Kd.R_below (zR HO_43.out) hb); have n1_ := Aside0.mk (below_step (zB HB.out) hb); clear HO_43; clear HB; have HO_43 := n0_; have HB := n1_; clear n0_ n1_; (try clear hb); (try clear hb2); (try clear hk); (try clear hi)))
     go_ret
     exact ⟨zF, zB HB.out⟩
    ·replace c165 := Bool.eq_false_iff.mpr c165
     subst c165
     rw [if_neg zN] at H
     obtain rfl := Option.some.inj H
     go_wp2_with (first | (go_at_call 8; (with_reducible refine (impl_OrderedCost.calls kj149 _ _ t532 t540 false _ ?side1 ?side2 A164.out).mono ?_); (case side1 => exact zC (Kd.R_reads' HO_43.out).2.2); (case side2 => exact (Kd.R_reads' HO_43.out).2.1); rintro e w167 ⟨rfl, hb⟩; have n0_ := Aside0.mk (Kd.R_below (zR HO_43.out) hb); have n1_ := Aside0.mk (below_step (zB HB.out) hb); clear HO_43; clear HB; have HO_43 := n0_; have HB := n1_; clear n0_ n1_; (try clear hb); (try clear hb2); (try clear hk); (try clear hi)))
     go_ret
     exact ⟨zF, zB HB.out⟩
   ·replace c163 := Bool.eq_false_iff.mpr c163
    subst c163
    rw [if_neg zN] at H
    obtain rfl := Option.some.inj H
    go_wp2
    repeat (go_quiet (fail); try go_wp2)
    go_ret
    exact ⟨zF, zB HB.out⟩
theorem part_j10 {A0 : Option Addr} {c0 : Nat} {l0 : List Int} {A1 : Option Addr} {c1 : Nat} {l1 : List Int} {r : Bool} {w wc : World}  {kq : Nat} (HR0 : Aside0 (Kd.C (Kd.int .u8) w A0 l0.length l0)) (HC0 : Aside0 (l0.length ≤ c0)) (HR1 : Aside0 (Kd.C (Kd.int .u8) w A1 l1.length l1)) (HC1 : Aside0 (l1.length ≤ c1)) (HA : Aside0 (laws_FnOrderedCodes.j10 kq l1 = some r)) (HJ124 : Aside0 (kq ≤ kq)) (HB : Aside0 (Below w.heap.size w wc)) {z0 z2 z3 z4 z5 z6 z7 z8 z9 z10 z11 z12 z13 z14 z15 z16 z17 z18 z19 z20 z21 z22 z23 z24 z25 z26 z27 z28 z29 z30 z31 z32 z33 z34 z35 z36 z37 z38 z39 z40 z41 z42 z43 z44 z45 z46 z47 z48 z49 z50 z51 z52 z53 z54 z55 z56 z57 z58 z59 z60 z61 z62 z63 z64 z65 z66 z67 z68 z69 z70 z71 z72 z73 z74 z75 z76 z77 z78 z79 z80 z81 z82 z83 z84 z85 z86 z87 z88 z89 z90 z91 z92 z93 z94 z95 z96 z97 z98 z99 z100 z101 z102 z103 z104 z105 z106 z107 z108 z109 z110 z111 z112 z113 z114 z115 z116 z117 z118 z119 z120 z121 z122 z123 z124 z125 z126 z127 z128 z129 z130 z131 z132 z133 z134 z135 z136 z137 z138 z139 z140 z141 z142 z143 z144 z145 z146 z147 z148 z149 z150 z151 z152 z153 z154 z155 z156 z157 z158 z159 z160 z161 z162 z163 z164 z165 z166 z167 z168 z169 z170 z171 z172 z173 z174 z175 z176 z177 z178 z179 z180 z181 z182 z183 z184 z185 z186 z187 z188 z189 z190 z191 z192 z193 z194 z195 z196 z197 z198 z199 z200 z201 z202 z203 z204 z205 z206 z207 z208 z209 z210 z211 z212 z213 z214 z215 z216 z217 z218 z219 z220 z221 z222 z223 z224 z225 z226 z227 z228 z229 z230 z231 z232 z233 z234 z235 z236 z237 z238 z239 z240 z241 z242 z243 z244 z245 z246 z247 z248 z249 z250 z251 z252 z253 z254 z255 z256 z257 z258 z259 z260 z261 z262 z263 z264 z265 z266 z267 z268 z269 z270 z271 z272 z273 z274 z275 z276 z277 z278 z279 z280 z281 z282 z283 z284 z285 z286 z287 z288 z289 z290 z291 z292 z293 z294 z295 z296 z297 z298 z299 z300 z301 z302 z303 z304 z305 z306 z307 z308 z309 z310 z311 z312 z313 z314 z315 z316 z317 z318 z319 z320 z321 z322 z323 z324 z325 z326 z327 z328 z329 z330 z331 z332 z333 z334 z335 z336 z337 z338 z339 z340 z341 z342 z343 z344 z345 z346 z347 z348 z349 z350 z351 z352 z353 z354 z355 : Value} {Kq7 : Act → World → Prop} (hKq7 : ∀ a w', Code.wp Try.prog (cB (cB (cB (cB (cB (cB (cB (cB (cB (cB (cB (cB (cB (cB (cB (cB (cB (Try.f3.body.getD .skip)))))))))))))))))) (bodyPost Try.prog Try.f3 (fun e w' => e = .returned (.bool r) ∧ Below w.heap.size w w')) a w' → Kq7 a w') :
  Kq7 { tmps := #[z0, .slice A1 l1.length c1, z2, z3, z4, z5, z6, z7, z8, z9, z10, z11, z12, z13, z14, z15, z16, z17, z18, z19, z20, z21, z22, z23, z24, z25, z26, z27, z28, z29, z30, z31, z32, z33, z34, z35, z36, z37, z38, z39, z40, z41, z42, z43, z44, z45, z46, z47, z48, z49, z50, z51, z52, z53, z54, z55, z56, z57, z58, z59, z60, z61, z62, z63, z64, z65, z66, z67, z68, z69, z70, z71, z72, z73, z74, z75, z76, z77, z78, z79, z80, z81, z82, z83, z84, z85, z86, z87, z88, z89, z90, z91, z92, z93, z94, z95, z96, z97, z98, z99, z100, z101, z102, z103, z104, z105, z106, z107, z108, z109, z110, z111, z112, z113, z114, z115, z116, z117, z118, z119, z120, z121, z122, z123, z124, z125, z126, z127, z128, z129, z130, z131, z132, z133, z134, z135, z136, z137, z138, z139, z140, z141, z142, z143, z144, z145, z146, z147, z148, z149, z150, z151, z152, z153, z154, z155, z156, z157, z158, z159, z160, z161, z162, z163, z164, z165, z166, z167, z168, z169, z170, z171, z172, z173, z174, z175, z176, z177, z178, z179, z180, z181, z182, z183, z184, z185, z186, z187, z188, z189, z190, z191, z192, z193, z194, z195, z196, z197, z198, z199, z200, z201, z202, z203, z204, z205, z206, z207, z208, z209, z210, z211, z212, z213, z214, z215, z216, z217, z218, z219, z220, z221, z222, z223, z224, z225, z226, z227, z228, z229, z230, z231, z232, z233, z234, z235, z236, z237, z238, z239, z240, z241, z242, z243, z244, z245, z246, z247, z248, z249, z250, z251, z252, z253, z254, z255, z256, z257, z258, z259, z260, z261, z262, z263, z264, z265, z266, z267, z268, z269, z270, z271, z272, z273, z274, z275, z276, z277, z278, z279, z280, z281, z282, z283, z284, z285, z286, z287, z288, z289, z290, z291, z292, z293, z294, z295, z296, z297, z298, z299, z300, z301, z302, z303, z304, z305, z306, z307, z308, z309, z310, z311, z312, z313, z314, z315, z316, z317, z318, z319, z320, z321, z322, z323, z324, z325, z326, z327, z328, z329, z330, z331, z332, z333, z334, z335, z336, z337, z338, z339, z340, z341, z342, z343, z344, z345, z346, z347, z348, z349, z350, z351, z352, z353, z354, z355], defers := [] } wc := by
 replace hKq7 := seq_of rfl hKq7; (try simp only [List.append_eq, List.cons_append, List.nil_append] at hKq7)
 cases kq with
 | zero => exact absurd HA.out (by simp [laws_FnOrderedCodes.j10])
 | succ kj124 =>
  have H := HA.out
  clear HA
  simp only [laws_FnOrderedCodes.j10] at H
  replace H := Option.bind_eq_some_iff.mp H
  obtain ⟨t525, A1440, H⟩ := H
  (try dsimp only at H)
  have A144 := Aside0.mk A1440
  clear A1440
  replace H := Option.bind_eq_some_iff.mp H
  obtain ⟨⟨t528, t529⟩, A1450, H⟩ := H
  (try dsimp only at H)
  have A145 := Aside0.mk A1450
  clear A1450
  replace H := Option.bind_eq_some_iff.mp H
  obtain ⟨⟨t530, t531⟩, A1460, H⟩ := H
  (try dsimp only at H)
  have A146 := Aside0.mk A1460
  clear A1460
  replace H := Option.bind_eq_some_iff.mp H
  obtain ⟨⟨t532, t533⟩, A1470, H⟩ := H
  (try dsimp only at H)
  have A147 := Aside0.mk A1470
  clear A1470
  replace H := Option.bind_eq_some_iff.mp H
  obtain ⟨⟨t536, t537⟩, A1480, H⟩ := H
  (try dsimp only at H)
  have A148 := Aside0.mk A1480
  clear A1480
  replace H := Option.bind_eq_some_iff.mp H
  obtain ⟨⟨t538, t539⟩, A1490, H⟩ := H
  (try dsimp only at H)
  have A149 := Aside0.mk A1490
  clear A1490
  have HC150 := Aside0.mk H
  clear H
  go_upto_region 61 with (first | (go_at_call 21; (with_reducible refine (spec_DrawOrderedCost.calls kj124 _ _ l1 t525 _ ?side1 ?side2 A144.out).mono ?_); (case side1 => exact zC (Kd.C_below HR1.out HB.out)); (case side2 => exact HC1.out); rintro e w151 ⟨v526, rfl, ho0, hb⟩; have n0_ := Aside0.mk (Kd.R_lower ho0 (below_size (zB HB.out))); have n1_ := Aside0.mk (below_step (zB HB.out) hb); clear HB; have HO527 := n0_; have HB := n1_; clear n0_ n1_; (try clear hb); (try clear hb2); (try clear hk); (try clear hi); (try clear ho0); obtain ⟨Ao152, co152, eo152⟩ := Kd.R_slice HO527.out; subst eo152) | (go_at_call 8; (with_reducible refine (impl_OrderedCost.calls kj124 _ _ t525 t528 t529 _ ?side1 ?side2 A145.out).mono ?_); (case side1 => exact zC (Kd.R_reads' HO527.out).2.2); (case side2 => exact (Kd.R_reads' HO527.out).2.1); rintro e w153 ⟨rfl, hb⟩; have n0_ := Aside0.mk (Kd.R_below (zR HO527.out) hb); have n1_ := Aside0.mk (below_step (zB HB.out) hb); clear HO527; clear HB; have HO527 := n0_; have HB := n1_; clear n0_ n1_; (try clear hb); (try clear hb2); (try clear hk); (try clear hi)) | (go_at_call 9; (with_reducible refine (spec_OrderedCost.calls kj124 _ _ t525 t530 t531 _ ?side1 ?side2 A146.out).mono ?_); (case side1 => exact zC (Kd.R_reads' HO527.out).2.2); (case side2 => exact (Kd.R_reads' HO527.out).2.1); rintro e w154 ⟨rfl, hb⟩; have n0_ := Aside0.mk (Kd.R_below (zR HO527.out) hb); have n1_ := Aside0.mk (below_step (zB HB.out) hb); clear HO527; clear HB; have HO527 := n0_; have HB := n1_; clear n0_ n1_; (try clear hb); (try clear hb2); (try clear hk); (try clear hi)) | (go_at_call 22; (with_reducible refine (spec_DrawSplitCost.calls kj124 _ _ l1 t532 t533 _ ?side1 ?side2 A147.out).mono ?_); (case side1 => exact zC (Kd.C_below HR1.out HB.out)); (case side2 => exact HC1.out); rintro e w155 ⟨v534, rfl, ho0, hb⟩; have n0_ := Aside0.mk (Kd.R_elder' (zR HO527.out) (Kd.R_base ho0) hb); have n1_ := Aside0.mk (Kd.R_lower (Kd.R_new' ho0 (Kd.R_lt (zR HO527.out))) (below_size (zB HB.out))); have n2_ := Aside0.mk (below_step (zB HB.out) hb); clear HO527; clear HB; have HO527 := n0_; have HO535 := n1_; have HB := n2_; clear n0_ n1_ n2_; (try clear hb); (try clear hb2); (try clear hk); (try clear hi); (try clear ho0); obtain ⟨Ao156, co156, eo156⟩ := Kd.R_slice HO535.out; subst eo156) | (go_at_call 12; (with_reducible refine (impl_SplitCost.calls kj124 _ _ t532 t533 t536 t537 _ ?side1 ?side2 A148.out).mono ?_); (case side1 => exact zC (Kd.R_reads' HO535.out).2.2); (case side2 => exact (Kd.R_reads' HO535.out).2.1); rintro e w157 ⟨rfl, hb⟩; have n0_ := Aside0.mk (Kd.R_below (zR HO527.out) hb); have n1_ := Aside0.mk (Kd.R_below (zR HO535.out) hb); have n2_ := Aside0.mk (below_step (zB HB.out) hb); clear HO527; clear HO535; clear HB; have HO527 := n0_; have HO535 := n1_; have HB := n2_; clear n0_ n1_ n2_; (try clear hb); (try clear hb2); (try clear hk); (try clear hi)) | (go_at_call 23; (with_reducible refine (spec_SplitCost.calls kj124 _ _ t532 t533 t538 t539 _ ?side1 ?side2 A149.out).mono ?_); (case side1 => exact zC (Kd.R_reads' HO535.out).2.2); (case side2 => exact (Kd.R_reads' HO535.out).2.1); rintro e w158 ⟨rfl, hb⟩; have n0_ := Aside0.mk (Kd.R_below (zR HO527.out) hb); have n1_ := Aside0.mk (Kd.R_below (zR HO535.out) hb); have n2_ := Aside0.mk (below_step (zB HB.out) hb); clear HO527; clear HO535; clear HB; have HO527 := n0_; have HO535 := n1_; have HB := n2_; clear n0_ n1_ n2_; (try clear hb); (try clear hb2); (try clear hk); (try clear hi)))
  (try simp only [Act.put, List.setIfInBounds_toArray, List.set_cons_zero, List.set_cons_succ])
  refine wp_cutK (by assumption) ?_
  intro Kq9 HKq9
  have H := HC150.out
  clear HC150
  by_cases c159 : (t529 != t531) = true
  ·rw [if_pos c159] at H
   have c159b0 : (t529 != t531) = true := c159
   (try (have c159b1 : decide (t529 = t531) = false := by simpa using c159))
   (try (have c159b2 : (t529 == t531) = false := by simpa using c159))
   (try (have c159b3 : ¬ (t529 = t531) := by simpa using c159))
   clear c159
   (first | rw [c159b0] | (simp only [i64_w, i32_w]; rw [c159b0]) | skip)
   have H' := Aside0.mk H
   clear H
   go_wp2
   repeat (go_quiet (fail); try go_wp2)
   (try simp only [Act.put, List.setIfInBounds_toArray, List.set_cons_zero, List.set_cons_succ])
   exact part_j11 (x343_149 := (true)) HR0 HC0 HR1 HC1 zE1 H' ⟨Nat.le_refl _⟩ ⟨by (with_reducible repeat (first | apply Kd.R_alloc | apply Kd.R_drewN | apply Kd.R_drew)); exact Kd.R_mono HO535.out (fun _ hk => trivial)⟩ ⟨zB HB.out⟩ (by assumption) HKq9.out
  ·rw [if_neg c159] at H
   have c159b0 : (t529 != t531) = false := by simpa using c159
   (try (have c159b1 : decide (t529 = t531) = true := by simpa using c159))
   (try (have c159b2 : (t529 == t531) = true := by simpa using c159))
   clear c159
   (first | rw [c159b0] | (simp only [i64_w, i32_w]; rw [c159b0]) | skip)
   by_cases c160 : t528 = t530
   ·rw [if_pos c160] at H
    have c160b0 : (t528 == t530) = true := beq_iff_eq.mpr c160
    have c160b1 : (t528 != t530) = false := bne_eq_false_iff_eq.mpr c160
    clear c160
    by_cases c161 : (t537 != t539) = true
    ·rw [if_pos c161] at H
     have c161b0 : (t537 != t539) = true := c161
     (try (have c161b1 : decide (t537 = t539) = false := by simpa using c161))
     (try (have c161b2 : (t537 == t539) = false := by simpa using c161))
     (try (have c161b3 : ¬ (t537 = t539) := by simpa using c161))
     clear c161
     have H' := Aside0.mk H
     clear H
     go_wp2
     repeat (go_quiet (fail); try go_wp2)
     (try simp only [Act.put, List.setIfInBounds_toArray, List.set_cons_zero, List.set_cons_succ])
     exact part_j11 (x343_149 := (true)) HR0 HC0 HR1 HC1 zE1 H' ⟨Nat.le_refl _⟩ ⟨by (with_reducible repeat (first | apply Kd.R_alloc | apply Kd.R_drewN | apply Kd.R_drew)); exact Kd.R_mono HO535.out (fun _ hk => trivial)⟩ ⟨zB HB.out⟩ (by assumption) HKq9.out
    ·rw [if_neg c161] at H
     have c161b0 : (t537 != t539) = false := by simpa using c161
     (try (have c161b1 : decide (t537 = t539) = true := by simpa using c161))
     (try (have c161b2 : (t537 == t539) = true := by simpa using c161))
     clear c161
     have H' := Aside0.mk H
     clear H
     go_wp2
     repeat (go_quiet (fail); try go_wp2)
     (try simp only [Act.put, List.setIfInBounds_toArray, List.set_cons_zero, List.set_cons_succ])
     exact part_j11 (x343_149 := ((t536 != t538))) HR0 HC0 HR1 HC1 zE1 H' ⟨Nat.le_refl _⟩ ⟨by (with_reducible repeat (first | apply Kd.R_alloc | apply Kd.R_drewN | apply Kd.R_drew)); exact Kd.R_mono HO535.out (fun _ hk => trivial)⟩ ⟨zB HB.out⟩ (by assumption) HKq9.out
   ·rw [if_neg c160] at H
    have c160b0 : (t528 == t530) = false := beq_eq_false_iff_ne.mpr c160
    have c160b1 : (t528 != t530) = true := bne_iff_ne.mpr c160
    have H' := Aside0.mk H
    clear H
    go_wp2
    repeat (go_quiet (fail); try go_wp2)
    (try simp only [Act.put, List.setIfInBounds_toArray, List.set_cons_zero, List.set_cons_succ])
    exact part_j11 (x343_149 := (true)) HR0 HC0 HR1 HC1 zE1 H' ⟨Nat.le_refl _⟩ ⟨by (with_reducible repeat (first | apply Kd.R_alloc | apply Kd.R_drewN | apply Kd.R_drew)); exact Kd.R_mono HO535.out (fun _ hk => trivial)⟩ ⟨zB HB.out⟩ (by assumption) HKq9.out
theorem part_j8 {A0 : Option Addr} {c0 : Nat} {l0 : List Int} {A1 : Option Addr} {c1 : Nat} {l1 : List Int} {r : Bool} {w wc : World} {t505 : List Int} {t508 : List ByteArray} {Ao103 : Option Addr} {co103 : Nat} {v510 : Value} {kq : Nat} {x268_126 : Bool} {v268 : Value} (HR0 : Aside0 (Kd.C (Kd.int .u8) w A0 l0.length l0)) (HC0 : Aside0 (l0.length ≤ c0)) (HR1 : Aside0 (Kd.C (Kd.int .u8) w A1 l1.length l1)) (HC1 : Aside0 (l1.length ≤ c1)) (hv_v268 : v268 = .bool x268_126) (HA : Aside0 (laws_FnOrderedCodes.j8 kq l1 t505 t508 x268_126 = some r)) (HJ126 : Aside0 (kq ≤ kq)) (HO_28 : Aside0 (Kd.R (Kd.int .i64) 3 wc w.heap.size (fun _ => True) (.slice Ao103 t505.length co103) t505)) (HO_29 : Aside0 (Kd.R Kd.string 9 wc w.heap.size (fun _ => True) v510 t508)) (HB : Aside0 (Below w.heap.size w wc)) {z0 z2 z3 z4 z5 z6 z7 z8 z9 z10 z11 z12 z13 z14 z15 z16 z17 z18 z19 z20 z21 z22 z23 z24 z25 z26 z27 z30 z31 z32 z33 z34 z35 z36 z37 z38 z39 z40 z41 z42 z43 z44 z45 z46 z47 z48 z49 z50 z51 z52 z53 z54 z55 z56 z57 z58 z59 z60 z61 z62 z63 z64 z65 z66 z67 z68 z69 z70 z71 z72 z73 z74 z75 z76 z77 z78 z79 z80 z81 z82 z83 z84 z85 z86 z87 z88 z89 z90 z91 z92 z93 z94 z95 z96 z97 z98 z99 z100 z101 z102 z103 z104 z105 z106 z107 z108 z109 z110 z111 z112 z113 z114 z115 z116 z117 z118 z119 z120 z121 z122 z123 z124 z125 z126 z127 z128 z129 z130 z131 z132 z133 z134 z135 z136 z137 z138 z139 z140 z141 z142 z143 z144 z145 z146 z147 z148 z149 z150 z151 z152 z153 z154 z155 z156 z157 z158 z159 z160 z161 z162 z163 z164 z165 z166 z167 z168 z169 z170 z171 z172 z173 z174 z175 z176 z177 z178 z179 z180 z181 z182 z183 z184 z185 z186 z187 z188 z189 z190 z191 z192 z193 z194 z195 z196 z197 z198 z199 z200 z201 z202 z203 z204 z205 z206 z207 z208 z209 z210 z211 z212 z213 z214 z215 z216 z217 z218 z219 z220 z221 z222 z223 z224 z225 z226 z227 z228 z229 z230 z231 z232 z233 z234 z235 z236 z237 z238 z239 z240 z241 z242 z243 z244 z245 z246 z247 z248 z249 z250 z251 z252 z253 z254 z255 z256 z257 z258 z259 z260 z261 z262 z263 z264 z265 z266 z267 z269 z270 z271 z272 z273 z274 z275 z276 z277 z278 z279 z280 z281 z282 z283 z284 z285 z286 z287 z288 z289 z290 z291 z292 z293 z294 z295 z296 z297 z298 z299 z300 z301 z302 z303 z304 z305 z306 z307 z308 z309 z310 z311 z312 z313 z314 z315 z316 z317 z318 z319 z320 z321 z322 z323 z324 z325 z326 z327 z328 z329 z330 z331 z332 z333 z334 z335 z336 z337 z338 z339 z340 z341 z342 z343 z344 z345 z346 z347 z348 z349 z350 z351 z352 z353 z354 z355 : Value} {Kq7 : Act → World → Prop} (hKq7 : ∀ a w', Code.wp Try.prog (cB (cB (cB (cB (cB (cB (cB (cB (cB (cB (cB (cB (cB (cB (cB (cB (cB (Try.f3.body.getD .skip)))))))))))))))))) (bodyPost Try.prog Try.f3 (fun e w' => e = .returned (.bool r) ∧ Below w.heap.size w w')) a w' → Kq7 a w') {Kq10 : Act → World → Prop} (hKq10 : ∀ a w', Code.wp Try.prog (cB (cT (cB (cA (cB (cB (cB (cB (cB (cB (cB (cB (cB (cB (cB (cB (cB (cB (cB (cB (Try.f3.body.getD .skip))))))))))))))))))))) (Exit.then Kq7 (bodyPost Try.prog Try.f3 (fun e w' => e = .returned (.bool r) ∧ Below w.heap.size w w'))) a w' → Kq10 a w') {Kq11 : Act → World → Prop} (hKq11 : ∀ a w', Code.wp Try.prog (cB (cA (cT (cB (cA (cB (cB (cB (cB (cB (cB (cB (cB (cB (cB (cB (cB (cB (cB (cB (cB (Try.f3.body.getD .skip)))))))))))))))))))))) (Exit.then Kq10 (Exit.then Kq7 (bodyPost Try.prog Try.f3 (fun e w' => e = .returned (.bool r) ∧ Below w.heap.size w w')))) a w' → Kq11 a w') :
  Kq11 { tmps := #[z0, .slice A1 l1.length c1, z2, z3, z4, z5, z6, z7, z8, z9, z10, z11, z12, z13, z14, z15, z16, z17, z18, z19, z20, z21, z22, z23, z24, z25, z26, z27, .slice Ao103 t505.length co103, v510, z30, z31, z32, z33, z34, z35, z36, z37, z38, z39, z40, z41, z42, z43, z44, z45, z46, z47, z48, z49, z50, z51, z52, z53, z54, z55, z56, z57, z58, z59, z60, z61, z62, z63, z64, z65, z66, z67, z68, z69, z70, z71, z72, z73, z74, z75, z76, z77, z78, z79, z80, z81, z82, z83, z84, z85, z86, z87, z88, z89, z90, z91, z92, z93, z94, z95, z96, z97, z98, z99, z100, z101, z102, z103, z104, z105, z106, z107, z108, z109, z110, z111, z112, z113, z114, z115, z116, z117, z118, z119, z120, z121, z122, z123, z124, z125, z126, z127, z128, z129, z130, z131, z132, z133, z134, z135, z136, z137, z138, z139, z140, z141, z142, z143, z144, z145, z146, z147, z148, z149, z150, z151, z152, z153, z154, z155, z156, z157, z158, z159, z160, z161, z162, z163, z164, z165, z166, z167, z168, z169, z170, z171, z172, z173, z174, z175, z176, z177, z178, z179, z180, z181, z182, z183, z184, z185, z186, z187, z188, z189, z190, z191, z192, z193, z194, z195, z196, z197, z198, z199, z200, z201, z202, z203, z204, z205, z206, z207, z208, z209, z210, z211, z212, z213, z214, z215, z216, z217, z218, z219, z220, z221, z222, z223, z224, z225, z226, z227, z228, z229, z230, z231, z232, z233, z234, z235, z236, z237, z238, z239, z240, z241, z242, z243, z244, z245, z246, z247, z248, z249, z250, z251, z252, z253, z254, z255, z256, z257, z258, z259, z260, z261, z262, z263, z264, z265, z266, z267, v268, z269, z270, z271, z272, z273, z274, z275, z276, z277, z278, z279, z280, z281, z282, z283, z284, z285, z286, z287, z288, z289, z290, z291, z292, z293, z294, z295, z296, z297, z298, z299, z300, z301, z302, z303, z304, z305, z306, z307, z308, z309, z310, z311, z312, z313, z314, z315, z316, z317, z318, z319, z320, z321, z322, z323, z324, z325, z326, z327, z328, z329, z330, z331, z332, z333, z334, z335, z336, z337, z338, z339, z340, z341, z342, z343, z344, z345, z346, z347, z348, z349, z350, z351, z352, z353, z354, z355], defers := [] } wc := by
 have HKq7 := Aside0.mk hKq7; clear hKq7
 replace hKq10 := seq_of rfl hKq10; (try simp only [List.append_eq, List.cons_append, List.nil_append] at hKq10)
 replace hKq11 := cond_of rfl hKq11; (try simp only [List.append_eq, List.cons_append, List.nil_append] at hKq11)
 subst hv_v268
 have HJ100 := Aside0.mk (Nat.le_refl 0)
 have HJ33 := Aside0.mk (Nat.le_refl 0)
 have HJ60 := Aside0.mk (Nat.le_refl 0)
 have HJ9 := Aside0.mk (Nat.le_refl 0)
 cases kq with
 | zero => exact absurd HA.out (by simp [laws_FnOrderedCodes.j8])
 | succ kj126 =>
  have H := HA.out
  clear HA
  simp only [laws_FnOrderedCodes.j8] at H
  by_cases c132 : x268_126 = true
  ·subst c132
   rw [if_pos rfl] at H
   obtain rfl := Option.some.inj H
   go_wp2
   repeat (go_quiet (fail); try go_wp2)
   go_ret
   exact ⟨zF, zB HB.out⟩
  ·replace c132 := Bool.eq_false_iff.mpr c132
   subst c132
   rw [if_neg zN] at H
   have H' := Aside0.mk H
   clear H
   obtain ⟨Ao133, co133, eo133⟩ := Kd.R_slice HO_29.out
   subst eo133
   go_wp2
   repeat (go_quiet (fail); try go_wp2)
   go_loopg [271] kj126 (fun kq v271 w' => ∃ (x271_6 : Int), v271 = .int .i64 x271_6 ∧ Aside0 (laws_FnOrderedCodes.l2 kq l1 t505 t508 t508 (t508.length : Int) x271_6 = some r) ∧ Aside0 (kq ≤ kj126) ∧ Aside0 (Kd.R (Kd.int .i64) 3 w' w.heap.size (fun _ => True) (.slice Ao103 t505.length co103) t505) ∧ Aside0 (Kd.R Kd.string 9 w' w.heap.size (fun _ => True) (.slice Ao133 t508.length co133) t508) ∧ Aside0 (Kd.R Kd.string 9 w' w.heap.size (fun _ => True) (.slice Ao133 t508.length co133) t508) ∧ Aside0 (Below w.heap.size w w'))
   case atStart => exact ⟨(0), zE1, H', ⟨Nat.le_refl _⟩, ⟨zR HO_28.out⟩, ⟨zR HO_29.out⟩, ⟨zR HO_29.out⟩, ⟨zB HB.out⟩⟩
   case round =>
    clear H'
    try clear c1
    try clear c2
    try clear p2
    try clear c3
    try clear c4
    try clear p4
    try clear q4
    try clear hx4
    try clear c5
    try clear c6
    try clear p6
    try clear c7
    try clear c10
    try clear c11
    try clear c12
    try clear c13
    try clear c17
    try clear c17b0
    try clear c17b1
    try clear c17b2
    try clear c19
    try clear c20
    try clear c20b0
    try clear c20b1
    try clear c20b2
    try clear c23
    try clear c23b0
    try clear c23b1
    try clear c24
    try clear c33
    try clear c35
    try clear c39
    try clear c40
    try clear c42
    try clear c42b0
    try clear c42b1
    try clear c43
    try clear c43b0
    try clear c45
    try clear c46
    try clear c46b0
    try clear c48
    try clear c48b0
    try clear p49
    try clear q49
    try clear hx49
    try clear c52
    try clear c52b0
    try clear c52b1
    try clear c53
    try clear c53b0
    try clear c54
    try clear c56
    try clear c56b0
    try clear c57
    try clear c57b0
    try clear c58
    try clear c58b0
    try clear c59
    try clear c60
    try clear c60b0
    try clear c60b1
    try clear c62
    try clear p64
    try clear c66
    try clear c67
    try clear c67b0
    try clear c67b1
    try clear c68
    try clear c69
    try clear c70
    try clear c72
    try clear c108
    try clear c108b0
    try clear c108b1
    try clear c108b2
    try clear c110
    try clear c111
    try clear c111b0
    try clear c111b1
    try clear c111b2
    try clear c114
    try clear c114b0
    try clear c114b1
    try clear c114b2
    try clear c117
    try clear c124
    try clear c126
    try clear c129
    try clear c132
    try clear hx494_0
    try clear hx495_0
    try clear p2
    try clear p4
    try clear p49
    try clear p494
    try clear p495
    try clear p6
    try clear p64
    try clear q4
    try clear q49
    try clear q494
    try clear q495
    obtain ⟨x271_6, rfl, HA, HK6, HO_28, HO_29, HO_269, HB⟩ := hrel
    cases gk with
    | zero => exact absurd HA.out (by simp [laws_FnOrderedCodes.l2])
    | succ k6 =>
     have H := HA.out
     clear HA
     simp only [laws_FnOrderedCodes.l2] at H
     by_cases c134 : x271_6 < (t508.length : Int)
     ·rw [if_pos c134] at H
      have c134b0 : decide (x271_6 < (t508.length : Int)) = true := decide_eq_true c134
      clear c134
      by_cases c135 : 0 ≤ x271_6
      ·rw [if_pos c135] at H
       have c135b0 : decide (0 ≤ x271_6) = true := decide_eq_true c135
       clear c135
       by_cases c136 : x271_6 < (t508.length : Int)
       ·rw [if_pos c136] at H
        have c136b0 : decide (x271_6 < (t508.length : Int)) = true := decide_eq_true c136
        clear c136
        by_cases c137 : x271_6 < (t505.length : Int)
        ·rw [if_pos c137] at H
         have c137b0 : decide (x271_6 < (t505.length : Int)) = true := decide_eq_true c137
         clear c137
         by_cases c138 : ((rdOf ByteArray.empty t508 x271_6).size : Int) = (rd t505 x271_6)
         ·rw [if_pos c138] at H
          have c138b0 : (((rdOf ByteArray.empty t508 x271_6).size : Int) == (rd t505 x271_6)) = true := beq_iff_eq.mpr c138
          have c138b1 : (((rdOf ByteArray.empty t508 x271_6).size : Int) != (rd t505 x271_6)) = false := bne_eq_false_iff_eq.mpr c138
          clear c138
          by_cases c139 : x271_6 > 0
          ·rw [if_pos c139] at H
           have c139b0 : decide (0 < x271_6) = true := decide_eq_true c139
           clear c139
           obtain ⟨ji140, hji140⟩ : ∃ j_ : Int, (wrap64 (x271_6 - 1)) = j_ := ⟨_, rfl⟩
           replace H : (if 0 ≤ (ji140) then (if (ji140) < (t508.length : Int) then (if ((Op.bytesLess ((rdOf ByteArray.empty t508 (ji140)).toList) ((rdOf ByteArray.empty t508 x271_6).toList)) = true) then (laws_FnOrderedCodes.l2 k6 l1 t505 t508 t508 (t508.length : Int) (wrap64 (x271_6 + 1))) else (some false)) else (none)) else (none)) = some r := by first | (rw [hji140] at H; exact H) | (simp only [hji140] at H ⊢; exact H)
           have hji140w : (IntKind.i64.wrap (x271_6 - 1)) = ji140 := (i64_w _).trans hji140
           by_cases c141 : 0 ≤ (ji140)
           ·rw [if_pos c141] at H
            have c141b0 : decide (0 ≤ (ji140)) = true := decide_eq_true c141
            clear c141
            by_cases c142 : (ji140) < (t508.length : Int)
            ·rw [if_pos c142] at H
             have c142b0 : decide ((ji140) < (t508.length : Int)) = true := decide_eq_true c142
             clear c142
             by_cases c143 : ((Op.bytesLess ((rdOf ByteArray.empty t508 (ji140)).toList) ((rdOf ByteArray.empty t508 x271_6).toList)) = true)
             ·rw [if_pos c143] at H
              have c143b0 : (Op.bytesLess ((rdOf ByteArray.empty t508 (ji140)).toList) ((rdOf ByteArray.empty t508 x271_6).toList)) = true := c143
              have c143b9 : (Op.bytesLess ((rdOf ByteArray.empty t508 x271_6).toList) ((rdOf ByteArray.empty t508 (ji140)).toList) || ((rdOf ByteArray.empty t508 x271_6).toList) == ((rdOf ByteArray.empty t508 (ji140)).toList)) = false := (laws_FnOrderedCodes.bl_le ((rdOf ByteArray.empty t508 x271_6).toList) ((rdOf ByteArray.empty t508 (ji140)).toList)).trans (by rw [c143b0]; rfl)
              clear c143
              have H' := Aside0.mk H
              clear H
              have p522 : 0 ≤ (x271_6 : Int) := zD
              have q522 : x271_6 < (t508.length : Int) := zD
              obtain ⟨ad522, e522, hx522_0⟩ := Kd.at_string (Kd.R_reads' HO_269.out).2.2 x271_6 p522 q522
              cases e522
              replace p522 := eq_true p522
              replace q522 := eq_true q522
              have p523 : 0 ≤ (x271_6 : Int) := zD
              have q523 : x271_6 < (t505.length : Int) := zD
              obtain ⟨ad523, e523, hx523_0⟩ := Kd.at_int (Kd.R_reads' HO_28.out).2.2 x271_6 p523 q523
              cases e523
              replace p523 := eq_true p523
              replace q523 := eq_true q523
              have p524 : 0 ≤ ((ji140) : Int) := zD
              have q524 : (ji140) < (t508.length : Int) := zD
              obtain ⟨ad524, e524, hx524_0⟩ := Kd.at_string (Kd.R_reads' HO_29.out).2.2 (ji140) p524 q524
              obtain rfl : ad522 = ad524 := (by injection e524)
              replace p524 := eq_true p524
              replace q524 := eq_true q524
              go_wp2
              repeat (go_quiet (fail); try go_wp2)
              first | go_roundg k6 | (simp only [← hji140]; go_roundg k6)
              case measure => have := HJ9.out; have := HJ33.out; have := HJ60.out; have := HJ100.out; have := HJ126.out; have := HK6.out; omega
              case rel => exact ⟨(wrap64 (x271_6 + 1)), zE1, H', ⟨by have := HJ9.out; have := HJ33.out; have := HJ60.out; have := HJ100.out; have := HJ126.out; have := HK6.out; omega⟩, ⟨zR HO_28.out⟩, ⟨zR HO_29.out⟩, ⟨zR HO_269.out⟩, ⟨zB HB.out⟩⟩
             ·rw [if_neg c143] at H
              have c143b0 : (Op.bytesLess ((rdOf ByteArray.empty t508 (ji140)).toList) ((rdOf ByteArray.empty t508 x271_6).toList)) = false := by simpa using c143
              have c143b9 : (Op.bytesLess ((rdOf ByteArray.empty t508 x271_6).toList) ((rdOf ByteArray.empty t508 (ji140)).toList) || ((rdOf ByteArray.empty t508 x271_6).toList) == ((rdOf ByteArray.empty t508 (ji140)).toList)) = true := (laws_FnOrderedCodes.bl_le ((rdOf ByteArray.empty t508 x271_6).toList) ((rdOf ByteArray.empty t508 (ji140)).toList)).trans (by rw [c143b0]; rfl)
              clear c143
              obtain rfl := Option.some.inj H
              have p522 : 0 ≤ (x271_6 : Int) := zD
              have q522 : x271_6 < (t508.length : Int) := zD
              obtain ⟨ad522, e522, hx522_0⟩ := Kd.at_string (Kd.R_reads' HO_269.out).2.2 x271_6 p522 q522
              cases e522
              replace p522 := eq_true p522
              replace q522 := eq_true q522
              have p523 : 0 ≤ (x271_6 : Int) := zD
              have q523 : x271_6 < (t505.length : Int) := zD
              obtain ⟨ad523, e523, hx523_0⟩ := Kd.at_int (Kd.R_reads' HO_28.out).2.2 x271_6 p523 q523
              cases e523
              replace p523 := eq_true p523
              replace q523 := eq_true q523
              have p524 : 0 ≤ ((ji140) : Int) := zD
              have q524 : (ji140) < (t508.length : Int) := zD
              obtain ⟨ad524, e524, hx524_0⟩ := Kd.at_string (Kd.R_reads' HO_29.out).2.2 (ji140) p524 q524
              obtain rfl : ad522 = ad524 := (by injection e524)
              replace p524 := eq_true p524
              replace q524 := eq_true q524
              go_wp2
              repeat (go_quiet (fail); try go_wp2)
              go_ret
              exact ⟨by first | rfl | (simp [errW_none, errW_some] <;> rfl) | (simp only [← hji140]; first | rfl | (simp [errW_none, errW_some] <;> rfl)) | (simp [*, errW_none, errW_some] <;> rfl), zB HB.out⟩
            ·rw [if_neg c142] at H
             exact absurd H (by simp)
           ·rw [if_neg c141] at H
            exact absurd H (by simp)
          ·rw [if_neg c139] at H
           have c139b0 : decide (0 < x271_6) = false := decide_eq_false c139
           clear c139
           have H' := Aside0.mk H
           clear H
           have p522 : 0 ≤ (x271_6 : Int) := zD
           have q522 : x271_6 < (t508.length : Int) := zD
           obtain ⟨ad522, e522, hx522_0⟩ := Kd.at_string (Kd.R_reads' HO_269.out).2.2 x271_6 p522 q522
           cases e522
           replace p522 := eq_true p522
           replace q522 := eq_true q522
           have p523 : 0 ≤ (x271_6 : Int) := zD
           have q523 : x271_6 < (t505.length : Int) := zD
           obtain ⟨ad523, e523, hx523_0⟩ := Kd.at_int (Kd.R_reads' HO_28.out).2.2 x271_6 p523 q523
           cases e523
           replace p523 := eq_true p523
           replace q523 := eq_true q523
           go_wp2
           repeat (go_quiet (fail); try go_wp2)
           go_roundg k6
           case measure => have := HJ9.out; have := HJ33.out; have := HJ60.out; have := HJ100.out; have := HJ126.out; have := HK6.out; omega
           case rel => exact ⟨(wrap64 (x271_6 + 1)), zE1, H', ⟨by have := HJ9.out; have := HJ33.out; have := HJ60.out; have := HJ100.out; have := HJ126.out; have := HK6.out; omega⟩, ⟨zR HO_28.out⟩, ⟨zR HO_29.out⟩, ⟨zR HO_269.out⟩, ⟨zB HB.out⟩⟩
         ·rw [if_neg c138] at H
          have c138b0 : (((rdOf ByteArray.empty t508 x271_6).size : Int) == (rd t505 x271_6)) = false := beq_eq_false_iff_ne.mpr c138
          have c138b1 : (((rdOf ByteArray.empty t508 x271_6).size : Int) != (rd t505 x271_6)) = true := bne_iff_ne.mpr c138
          obtain rfl := Option.some.inj H
          have p522 : 0 ≤ (x271_6 : Int) := zD
          have q522 : x271_6 < (t508.length : Int) := zD
          obtain ⟨ad522, e522, hx522_0⟩ := Kd.at_string (Kd.R_reads' HO_269.out).2.2 x271_6 p522 q522
          cases e522
          replace p522 := eq_true p522
          replace q522 := eq_true q522
          have p523 : 0 ≤ (x271_6 : Int) := zD
          have q523 : x271_6 < (t505.length : Int) := zD
          obtain ⟨ad523, e523, hx523_0⟩ := Kd.at_int (Kd.R_reads' HO_28.out).2.2 x271_6 p523 q523
          cases e523
          replace p523 := eq_true p523
          replace q523 := eq_true q523
          go_wp2
          repeat (go_quiet (fail); try go_wp2)
          go_ret
          exact ⟨zF, zB HB.out⟩
        ·rw [if_neg c137] at H
         exact absurd H (by simp)
       ·rw [if_neg c136] at H
        exact absurd H (by simp)
      ·rw [if_neg c135] at H
       exact absurd H (by simp)
     ·rw [if_neg c134] at H
      have c134b0 : decide (x271_6 < (t508.length : Int)) = false := decide_eq_false c134
      clear c134
      have H' := Aside0.mk H
      clear H
      go_wp2
      repeat (go_quiet (fail); try go_wp2)
      (try simp only [Act.put, List.setIfInBounds_toArray, List.set_cons_zero, List.set_cons_succ])
      exact part_j10  HR0 HC0 HR1 HC1 H' ⟨Nat.le_refl _⟩ ⟨zB HB.out⟩ HKq7.out
theorem part_j7 {A0 : Option Addr} {c0 : Nat} {l0 : List Int} {A1 : Option Addr} {c1 : Nat} {l1 : List Int} {r : Bool} {w wc : World} {t505 : List Int} {t508 : List ByteArray} {t509 : Bool} {Ao103 : Option Addr} {co103 : Nat} {v510 : Value} {kq : Nat} {x257_100 : Bool} {v257 : Value} (HR0 : Aside0 (Kd.C (Kd.int .u8) w A0 l0.length l0)) (HC0 : Aside0 (l0.length ≤ c0)) (HR1 : Aside0 (Kd.C (Kd.int .u8) w A1 l1.length l1)) (HC1 : Aside0 (l1.length ≤ c1)) (hv_v257 : v257 = .bool x257_100) (HA : Aside0 (laws_FnOrderedCodes.j7 kq l1 t505 t508 t509 x257_100 = some r)) (HJ100 : Aside0 (kq ≤ kq)) (HO_28 : Aside0 (Kd.R (Kd.int .i64) 3 wc w.heap.size (fun _ => True) (.slice Ao103 t505.length co103) t505)) (HO_29 : Aside0 (Kd.R Kd.string 9 wc w.heap.size (fun _ => True) v510 t508)) (HB : Aside0 (Below w.heap.size w wc)) {z0 z2 z3 z4 z5 z6 z7 z8 z9 z10 z11 z12 z13 z14 z15 z16 z17 z18 z19 z20 z21 z22 z23 z24 z25 z26 z27 z31 z32 z33 z34 z35 z36 z37 z38 z39 z40 z41 z42 z43 z44 z45 z46 z47 z48 z49 z50 z51 z52 z53 z54 z55 z56 z57 z58 z59 z60 z61 z62 z63 z64 z65 z66 z67 z68 z69 z70 z71 z72 z73 z74 z75 z76 z77 z78 z79 z80 z81 z82 z83 z84 z85 z86 z87 z88 z89 z90 z91 z92 z93 z94 z95 z96 z97 z98 z99 z100 z101 z102 z103 z104 z105 z106 z107 z108 z109 z110 z111 z112 z113 z114 z115 z116 z117 z118 z119 z120 z121 z122 z123 z124 z125 z126 z127 z128 z129 z130 z131 z132 z133 z134 z135 z136 z137 z138 z139 z140 z141 z142 z143 z144 z145 z146 z147 z148 z149 z150 z151 z152 z153 z154 z155 z156 z157 z158 z159 z160 z161 z162 z163 z164 z165 z166 z167 z168 z169 z170 z171 z172 z173 z174 z175 z176 z177 z178 z179 z180 z181 z182 z183 z184 z185 z186 z187 z188 z189 z190 z191 z192 z193 z194 z195 z196 z197 z198 z199 z200 z201 z202 z203 z204 z205 z206 z207 z208 z209 z210 z211 z212 z213 z214 z215 z216 z217 z218 z219 z220 z221 z222 z223 z224 z225 z226 z227 z228 z229 z230 z231 z232 z233 z234 z235 z236 z237 z238 z239 z240 z241 z242 z243 z244 z245 z246 z247 z248 z249 z250 z251 z252 z253 z254 z255 z256 z258 z259 z260 z261 z262 z263 z264 z265 z266 z267 z268 z269 z270 z271 z272 z273 z274 z275 z276 z277 z278 z279 z280 z281 z282 z283 z284 z285 z286 z287 z288 z289 z290 z291 z292 z293 z294 z295 z296 z297 z298 z299 z300 z301 z302 z303 z304 z305 z306 z307 z308 z309 z310 z311 z312 z313 z314 z315 z316 z317 z318 z319 z320 z321 z322 z323 z324 z325 z326 z327 z328 z329 z330 z331 z332 z333 z334 z335 z336 z337 z338 z339 z340 z341 z342 z343 z344 z345 z346 z347 z348 z349 z350 z351 z352 z353 z354 z355 : Value} {Kq5 : Act → World → Prop} (hKq5 : ∀ a w', Code.wp Try.prog (cB (cB (cB (cB (cB (cB (cB (cB (cB (cB (cB (cB (cB (cB (cB (cB (Try.f3.body.getD .skip))))))))))))))))) (bodyPost Try.prog Try.f3 (fun e w' => e = .returned (.bool r) ∧ Below w.heap.size w w')) a w' → Kq5 a w') {Kq6 : Act → World → Prop} (hKq6 : ∀ a w', Code.wp Try.prog (cB (cA (cB (cB (cB (cB (cB (cB (cB (cB (cB (cB (cB (cB (cB (cB (cB (Try.f3.body.getD .skip)))))))))))))))))) (Exit.then Kq5 (bodyPost Try.prog Try.f3 (fun e w' => e = .returned (.bool r) ∧ Below w.heap.size w w'))) a w' → Kq6 a w') :
  Kq6 { tmps := #[z0, .slice A1 l1.length c1, z2, z3, z4, z5, z6, z7, z8, z9, z10, z11, z12, z13, z14, z15, z16, z17, z18, z19, z20, z21, z22, z23, z24, z25, z26, z27, .slice Ao103 t505.length co103, v510, .bool t509, z31, z32, z33, z34, z35, z36, z37, z38, z39, z40, z41, z42, z43, z44, z45, z46, z47, z48, z49, z50, z51, z52, z53, z54, z55, z56, z57, z58, z59, z60, z61, z62, z63, z64, z65, z66, z67, z68, z69, z70, z71, z72, z73, z74, z75, z76, z77, z78, z79, z80, z81, z82, z83, z84, z85, z86, z87, z88, z89, z90, z91, z92, z93, z94, z95, z96, z97, z98, z99, z100, z101, z102, z103, z104, z105, z106, z107, z108, z109, z110, z111, z112, z113, z114, z115, z116, z117, z118, z119, z120, z121, z122, z123, z124, z125, z126, z127, z128, z129, z130, z131, z132, z133, z134, z135, z136, z137, z138, z139, z140, z141, z142, z143, z144, z145, z146, z147, z148, z149, z150, z151, z152, z153, z154, z155, z156, z157, z158, z159, z160, z161, z162, z163, z164, z165, z166, z167, z168, z169, z170, z171, z172, z173, z174, z175, z176, z177, z178, z179, z180, z181, z182, z183, z184, z185, z186, z187, z188, z189, z190, z191, z192, z193, z194, z195, z196, z197, z198, z199, z200, z201, z202, z203, z204, z205, z206, z207, z208, z209, z210, z211, z212, z213, z214, z215, z216, z217, z218, z219, z220, z221, z222, z223, z224, z225, z226, z227, z228, z229, z230, z231, z232, z233, z234, z235, z236, z237, z238, z239, z240, z241, z242, z243, z244, z245, z246, z247, z248, z249, z250, z251, z252, z253, z254, z255, z256, v257, z258, z259, z260, z261, z262, z263, z264, z265, z266, z267, z268, z269, z270, z271, z272, z273, z274, z275, z276, z277, z278, z279, z280, z281, z282, z283, z284, z285, z286, z287, z288, z289, z290, z291, z292, z293, z294, z295, z296, z297, z298, z299, z300, z301, z302, z303, z304, z305, z306, z307, z308, z309, z310, z311, z312, z313, z314, z315, z316, z317, z318, z319, z320, z321, z322, z323, z324, z325, z326, z327, z328, z329, z330, z331, z332, z333, z334, z335, z336, z337, z338, z339, z340, z341, z342, z343, z344, z345, z346, z347, z348, z349, z350, z351, z352, z353, z354, z355], defers := [] } wc := by
 replace hKq5 := seq_of rfl hKq5; (try simp only [List.append_eq, List.cons_append, List.nil_append] at hKq5)
 replace hKq6 := cond_of rfl hKq6; (try simp only [List.append_eq, List.cons_append, List.nil_append] at hKq6)
 subst hv_v257
 cases kq with
 | zero => exact absurd HA.out (by simp [laws_FnOrderedCodes.j7])
 | succ kj100 =>
  have H := HA.out
  clear HA
  simp only [laws_FnOrderedCodes.j7] at H
  by_cases c124 : x257_100 = true
  ·subst c124
   rw [if_pos rfl] at H
   obtain rfl := Option.some.inj H
   go_wp2
   repeat (go_quiet (fail); try go_wp2)
   go_ret
   exact ⟨zF, zB HB.out⟩
  ·replace c124 := Bool.eq_false_iff.mpr c124
   subst c124
   rw [if_neg zN] at H
   have HC125 := Aside0.mk H
   clear H
   go_upto_if 258 with (fail)
   refine wp_cutK (by assumption) ?_
   intro Kq7 HKq7
   have H := HC125.out
   clear HC125
   by_cases c126 : t509 = true
   ·subst c126
    rw [if_pos rfl] at H
    have HC127 := Aside0.mk H
    clear H
    go_upto_region 47 with (fail)
    refine wp_cutK (by assumption) ?_
    intro Kq11 HKq11
    have H := HC127.out
    clear HC127
    replace H := Option.bind_eq_some_iff.mp H
    obtain ⟨t521, A1280, H⟩ := H
    (try dsimp only at H)
    have A128 := Aside0.mk A1280
    clear A1280
    by_cases c129 : t521 = true
    ·subst c129
     rw [if_pos rfl] at H
     have H' := Aside0.mk H
     clear H
     obtain ⟨Ao130, co130, eo130⟩ := Kd.R_slice HO_29.out
     subst eo130
     go_wp2_with (first | (go_at_call 16; (with_reducible refine (laws_yPrefix.calls kj100 _ _ t508 true _ ?side1 ?side2 A128.out).mono ?_); (case side1 => exact zC (Kd.R_reads' HO_29.out).2.2); (case side2 => exact (Kd.R_reads' HO_29.out).2.1); rintro e w' ⟨rfl, ⟨nd, rfl⟩⟩; (try first | exact ⟨rfl, _, World.drewN_drewN _ _ _⟩ | exact ⟨rfl, _, Eq.trans (World.drewN_drewN _ _ _) (congrArg (World.drewN _) (Nat.add_assoc _ _ _))⟩)))
     (try simp only [Act.put, List.setIfInBounds_toArray, List.set_cons_zero, List.set_cons_succ])
     exact part_j8 (x268_126 := (((t508.length : Int) != (t505.length : Int)))) HR0 HC0 HR1 HC1 zE1 H' ⟨Nat.le_refl _⟩ ⟨zR HO_28.out⟩ ⟨zR HO_29.out⟩ ⟨zB HB.out⟩ HKq7.out (by assumption) HKq11.out
    ·replace c129 := Bool.eq_false_iff.mpr c129
     subst c129
     rw [if_neg zN] at H
     have H' := Aside0.mk H
     clear H
     obtain ⟨Ao131, co131, eo131⟩ := Kd.R_slice HO_29.out
     subst eo131
     go_wp2_with (first | (go_at_call 16; (with_reducible refine (laws_yPrefix.calls kj100 _ _ t508 false _ ?side1 ?side2 A128.out).mono ?_); (case side1 => exact zC (Kd.R_reads' HO_29.out).2.2); (case side2 => exact (Kd.R_reads' HO_29.out).2.1); rintro e w' ⟨rfl, ⟨nd, rfl⟩⟩; (try first | exact ⟨rfl, _, World.drewN_drewN _ _ _⟩ | exact ⟨rfl, _, Eq.trans (World.drewN_drewN _ _ _) (congrArg (World.drewN _) (Nat.add_assoc _ _ _))⟩)))
     (try simp only [Act.put, List.setIfInBounds_toArray, List.set_cons_zero, List.set_cons_succ])
     exact part_j8 (x268_126 := (true)) HR0 HC0 HR1 HC1 zE1 H' ⟨Nat.le_refl _⟩ ⟨zR HO_28.out⟩ ⟨zR HO_29.out⟩ ⟨zB HB.out⟩ HKq7.out (by assumption) HKq11.out
   ·replace c126 := Bool.eq_false_iff.mpr c126
    subst c126
    rw [if_neg zN] at H
    have H' := Aside0.mk H
    clear H
    go_wp2
    repeat (go_quiet (fail); try go_wp2)
    (try simp only [Act.put, List.setIfInBounds_toArray, List.set_cons_zero, List.set_cons_succ])
    exact part_j10  HR0 HC0 HR1 HC1 H' ⟨Nat.le_refl _⟩ ⟨zB HB.out⟩ HKq7.out
theorem part_j6 {A0 : Option Addr} {c0 : Nat} {l0 : List Int} {A1 : Option Addr} {c1 : Nat} {l1 : List Int} {r : Bool} {w wc : World}  {kq : Nat} (HR0 : Aside0 (Kd.C (Kd.int .u8) w A0 l0.length l0)) (HC0 : Aside0 (l0.length ≤ c0)) (HR1 : Aside0 (Kd.C (Kd.int .u8) w A1 l1.length l1)) (HC1 : Aside0 (l1.length ≤ c1)) (HA : Aside0 (laws_FnOrderedCodes.j6 kq l1 = some r)) (HJ60 : Aside0 (kq ≤ kq)) (HB : Aside0 (Below w.heap.size w wc)) {z0 z2 z3 z4 z5 z6 z7 z8 z9 z10 z11 z12 z13 z14 z15 z16 z17 z18 z19 z20 z21 z22 z23 z24 z25 z26 z27 z28 z29 z30 z31 z32 z33 z34 z35 z36 z37 z38 z39 z40 z41 z42 z43 z44 z45 z46 z47 z48 z49 z50 z51 z52 z53 z54 z55 z56 z57 z58 z59 z60 z61 z62 z63 z64 z65 z66 z67 z68 z69 z70 z71 z72 z73 z74 z75 z76 z77 z78 z79 z80 z81 z82 z83 z84 z85 z86 z87 z88 z89 z90 z91 z92 z93 z94 z95 z96 z97 z98 z99 z100 z101 z102 z103 z104 z105 z106 z107 z108 z109 z110 z111 z112 z113 z114 z115 z116 z117 z118 z119 z120 z121 z122 z123 z124 z125 z126 z127 z128 z129 z130 z131 z132 z133 z134 z135 z136 z137 z138 z139 z140 z141 z142 z143 z144 z145 z146 z147 z148 z149 z150 z151 z152 z153 z154 z155 z156 z157 z158 z159 z160 z161 z162 z163 z164 z165 z166 z167 z168 z169 z170 z171 z172 z173 z174 z175 z176 z177 z178 z179 z180 z181 z182 z183 z184 z185 z186 z187 z188 z189 z190 z191 z192 z193 z194 z195 z196 z197 z198 z199 z200 z201 z202 z203 z204 z205 z206 z207 z208 z209 z210 z211 z212 z213 z214 z215 z216 z217 z218 z219 z220 z221 z222 z223 z224 z225 z226 z227 z228 z229 z230 z231 z232 z233 z234 z235 z236 z237 z238 z239 z240 z241 z242 z243 z244 z245 z246 z247 z248 z249 z250 z251 z252 z253 z254 z255 z256 z257 z258 z259 z260 z261 z262 z263 z264 z265 z266 z267 z268 z269 z270 z271 z272 z273 z274 z275 z276 z277 z278 z279 z280 z281 z282 z283 z284 z285 z286 z287 z288 z289 z290 z291 z292 z293 z294 z295 z296 z297 z298 z299 z300 z301 z302 z303 z304 z305 z306 z307 z308 z309 z310 z311 z312 z313 z314 z315 z316 z317 z318 z319 z320 z321 z322 z323 z324 z325 z326 z327 z328 z329 z330 z331 z332 z333 z334 z335 z336 z337 z338 z339 z340 z341 z342 z343 z344 z345 z346 z347 z348 z349 z350 z351 z352 z353 z354 z355 : Value} {Kq4 : Act → World → Prop} (hKq4 : ∀ a w', Code.wp Try.prog (cB (cB (cB (cB (cB (cB (cB (cB (cB (cB (Try.f3.body.getD .skip))))))))))) (bodyPost Try.prog Try.f3 (fun e w' => e = .returned (.bool r) ∧ Below w.heap.size w w')) a w' → Kq4 a w') :
  Kq4 { tmps := #[z0, .slice A1 l1.length c1, z2, z3, z4, z5, z6, z7, z8, z9, z10, z11, z12, z13, z14, z15, z16, z17, z18, z19, z20, z21, z22, z23, z24, z25, z26, z27, z28, z29, z30, z31, z32, z33, z34, z35, z36, z37, z38, z39, z40, z41, z42, z43, z44, z45, z46, z47, z48, z49, z50, z51, z52, z53, z54, z55, z56, z57, z58, z59, z60, z61, z62, z63, z64, z65, z66, z67, z68, z69, z70, z71, z72, z73, z74, z75, z76, z77, z78, z79, z80, z81, z82, z83, z84, z85, z86, z87, z88, z89, z90, z91, z92, z93, z94, z95, z96, z97, z98, z99, z100, z101, z102, z103, z104, z105, z106, z107, z108, z109, z110, z111, z112, z113, z114, z115, z116, z117, z118, z119, z120, z121, z122, z123, z124, z125, z126, z127, z128, z129, z130, z131, z132, z133, z134, z135, z136, z137, z138, z139, z140, z141, z142, z143, z144, z145, z146, z147, z148, z149, z150, z151, z152, z153, z154, z155, z156, z157, z158, z159, z160, z161, z162, z163, z164, z165, z166, z167, z168, z169, z170, z171, z172, z173, z174, z175, z176, z177, z178, z179, z180, z181, z182, z183, z184, z185, z186, z187, z188, z189, z190, z191, z192, z193, z194, z195, z196, z197, z198, z199, z200, z201, z202, z203, z204, z205, z206, z207, z208, z209, z210, z211, z212, z213, z214, z215, z216, z217, z218, z219, z220, z221, z222, z223, z224, z225, z226, z227, z228, z229, z230, z231, z232, z233, z234, z235, z236, z237, z238, z239, z240, z241, z242, z243, z244, z245, z246, z247, z248, z249, z250, z251, z252, z253, z254, z255, z256, z257, z258, z259, z260, z261, z262, z263, z264, z265, z266, z267, z268, z269, z270, z271, z272, z273, z274, z275, z276, z277, z278, z279, z280, z281, z282, z283, z284, z285, z286, z287, z288, z289, z290, z291, z292, z293, z294, z295, z296, z297, z298, z299, z300, z301, z302, z303, z304, z305, z306, z307, z308, z309, z310, z311, z312, z313, z314, z315, z316, z317, z318, z319, z320, z321, z322, z323, z324, z325, z326, z327, z328, z329, z330, z331, z332, z333, z334, z335, z336, z337, z338, z339, z340, z341, z342, z343, z344, z345, z346, z347, z348, z349, z350, z351, z352, z353, z354, z355], defers := [] } wc := by
 replace hKq4 := seq_of rfl hKq4; (try simp only [List.append_eq, List.cons_append, List.nil_append] at hKq4)
 cases kq with
 | zero => exact absurd HA.out (by simp [laws_FnOrderedCodes.j6])
 | succ kj60 =>
  have H := HA.out
  clear HA
  simp only [laws_FnOrderedCodes.j6] at H
  replace H := Option.bind_eq_some_iff.mp H
  obtain ⟨t505, A960, H⟩ := H
  (try dsimp only at H)
  have A96 := Aside0.mk A960
  clear A960
  replace H := Option.bind_eq_some_iff.mp H
  obtain ⟨⟨t508, t509⟩, A970, H⟩ := H
  (try dsimp only at H)
  have A97 := Aside0.mk A970
  clear A970
  replace H := Option.bind_eq_some_iff.mp H
  obtain ⟨⟨t512, t513⟩, A980, H⟩ := H
  (try dsimp only at H)
  have A98 := Aside0.mk A980
  clear A980
  replace H := Option.bind_eq_some_iff.mp H
  obtain ⟨⟨t516, t517⟩, A990, H⟩ := H
  (try dsimp only at H)
  have A99 := Aside0.mk A990
  clear A990
  replace H := Option.bind_eq_some_iff.mp H
  obtain ⟨⟨t518, t519⟩, A1000, H⟩ := H
  (try dsimp only at H)
  have A100 := Aside0.mk A1000
  clear A1000
  have HC101 := Aside0.mk H
  clear H
  go_upto_region 44 with (first | (go_at_call 17; (with_reducible refine (spec_DrawOrderedWords.calls kj60 _ _ l1 t505 _ ?side1 ?side2 A96.out).mono ?_); (case side1 => exact zC (Kd.C_below HR1.out HB.out)); (case side2 => exact HC1.out); rintro e w102 ⟨v506, rfl, ho0, hb⟩; have n0_ := Aside0.mk (Kd.R_lower ho0 (below_size (zB HB.out))); have n1_ := Aside0.mk (below_step (zB HB.out) hb); clear HB; have HO507 := n0_; have HB := n1_; clear n0_ n1_; (try clear hb); (try clear hb2); (try clear hk); (try clear hi); (try clear ho0); obtain ⟨Ao103, co103, eo103⟩ := Kd.R_slice HO507.out; subst eo103) | (go_at_call 15; (with_reducible refine (impl_OrderedWords.calls kj60 _ _ t505 t508 t509 _ ?side1 ?side2 A97.out).mono ?_); (case side1 => exact zC (Kd.R_reads' HO507.out).2.2); (case side2 => exact (Kd.R_reads' HO507.out).2.1); rintro e w104 ⟨v510, rfl, ho0, hb⟩; have n0_ := Aside0.mk (Kd.R_below (zR HO507.out) hb); have n1_ := Aside0.mk (Kd.R_lower ho0 (below_size (zB HB.out))); have n2_ := Aside0.mk (below_step (zB HB.out) hb); clear HO507; clear HB; have HO507 := n0_; have HO511 := n1_; have HB := n2_; clear n0_ n1_ n2_; (try clear hb); (try clear hb2); (try clear hk); (try clear hi); (try clear ho0)) | (go_at_call 18; (with_reducible refine (spec_OrderedWords.calls kj60 _ _ t505 t512 t513 _ ?side1 ?side2 A98.out).mono ?_); (case side1 => exact zC (Kd.R_reads' HO507.out).2.2); (case side2 => exact (Kd.R_reads' HO507.out).2.1); rintro e w105 ⟨v514, rfl, ho0, hb⟩; have n0_ := Aside0.mk (Kd.R_below (zR HO507.out) hb); have n1_ := Aside0.mk (Kd.R_elder' (zR HO511.out) (Kd.R_base ho0) hb); have n2_ := Aside0.mk (Kd.R_lower (Kd.R_new' ho0 (Kd.R_lt (zR HO511.out))) (below_size (zB HB.out))); have n3_ := Aside0.mk (below_step (zB HB.out) hb); clear HO507; clear HO511; clear HB; have HO507 := n0_; have HO511 := n1_; have HO515 := n2_; have HB := n3_; clear n0_ n1_ n2_ n3_; (try clear hb); (try clear hb2); (try clear hk); (try clear hi); (try clear ho0)) | (go_at_call 14; (with_reducible refine (impl_CanBeOrdered.calls kj60 _ _ t505 t516 t517 _ ?side1 ?side2 A99.out).mono ?_); (case side1 => exact zC (Kd.R_reads' HO507.out).2.2); (case side2 => exact (Kd.R_reads' HO507.out).2.1); rintro e w106 ⟨rfl, hb⟩; have n0_ := Aside0.mk (Kd.R_below (zR HO507.out) hb); have n1_ := Aside0.mk (Kd.R_below (zR HO511.out) hb); have n2_ := Aside0.mk (Kd.R_below (zR HO515.out) hb); have n3_ := Aside0.mk (below_step (zB HB.out) hb); clear HO507; clear HO511; clear HO515; clear HB; have HO507 := n0_; have HO511 := n1_; have HO515 := n2_; have HB := n3_; clear n0_ n1_ n2_ n3_; (try clear hb); (try clear hb2); (try clear hk); (try clear hi)) | (go_at_call 19; (with_reducible refine (spec_CanBeOrdered.calls kj60 _ _ t505 t518 t519 _ ?side1 ?side2 A100.out).mono ?_); (case side1 => exact zC (Kd.R_reads' HO507.out).2.2); (case side2 => exact (Kd.R_reads' HO507.out).2.1); rintro e w107 ⟨rfl, hb⟩; have n0_ := Aside0.mk (Kd.R_below (zR HO507.out) hb); have n1_ := Aside0.mk (Kd.R_below (zR HO511.out) hb); have n2_ := Aside0.mk (Kd.R_below (zR HO515.out) hb); have n3_ := Aside0.mk (below_step (zB HB.out) hb); clear HO507; clear HO511; clear HO515; clear HB; have HO507 := n0_; have HO511 := n1_; have HO515 := n2_; have HB := n3_; clear n0_ n1_ n2_ n3_; (try clear hb); (try clear hb2); (try clear hk); (try clear hi)))
  (try simp only [Act.put, List.setIfInBounds_toArray, List.set_cons_zero, List.set_cons_succ])
  refine wp_cutK (by assumption) ?_
  intro Kq6 HKq6
  have H := HC101.out
  clear HC101
  by_cases c108 : (t509 != t513) = true
  ·rw [if_pos c108] at H
   have c108b0 : (t509 != t513) = true := c108
   (try (have c108b1 : decide (t509 = t513) = false := by simpa using c108))
   (try (have c108b2 : (t509 == t513) = false := by simpa using c108))
   (try (have c108b3 : ¬ (t509 = t513) := by simpa using c108))
   clear c108
   (first | rw [c108b0] | (simp only [i64_w, i32_w]; rw [c108b0]) | skip)
   have H' := Aside0.mk H
   clear H
   go_wp2
   repeat (go_quiet (fail); try go_wp2)
   (try simp only [Act.put, List.setIfInBounds_toArray, List.set_cons_zero, List.set_cons_succ])
   exact part_j7 (x257_100 := (true)) HR0 HC0 HR1 HC1 zE1 H' ⟨Nat.le_refl _⟩ ⟨zR HO507.out⟩ ⟨by (with_reducible repeat (first | apply Kd.R_alloc | apply Kd.R_drewN | apply Kd.R_drew)); exact Kd.R_mono HO511.out (fun _ hk => trivial)⟩ ⟨zB HB.out⟩ (by assumption) HKq6.out
  ·rw [if_neg c108] at H
   have c108b0 : (t509 != t513) = false := by simpa using c108
   (try (have c108b1 : decide (t509 = t513) = true := by simpa using c108))
   (try (have c108b2 : (t509 == t513) = true := by simpa using c108))
   clear c108
   (first | rw [c108b0] | (simp only [i64_w, i32_w]; rw [c108b0]) | skip)
   replace H := Option.bind_eq_some_iff.mp H
   obtain ⟨t520, A1090, H⟩ := H
   (try dsimp only at H)
   have A109 := Aside0.mk A1090
   clear A1090
   by_cases c110 : t520 = true
   ·subst c110
    rw [if_pos rfl] at H
    by_cases c111 : (t517 != t519) = true
    ·rw [if_pos c111] at H
     have c111b0 : (t517 != t519) = true := c111
     (try (have c111b1 : decide (t517 = t519) = false := by simpa using c111))
     (try (have c111b2 : (t517 == t519) = false := by simpa using c111))
     (try (have c111b3 : ¬ (t517 = t519) := by simpa using c111))
     clear c111
     have H' := Aside0.mk H
     clear H
     obtain ⟨Ao112, co112, eo112⟩ := Kd.R_slice HO511.out
     subst eo112
     obtain ⟨Ao113, co113, eo113⟩ := Kd.R_slice HO515.out
     subst eo113
     go_wp2_with (first | (go_at_call 20; (with_reducible refine (laws_yTexts.calls kj60 _ _ t508 _ _ t512 true _ ?side1 ?side2 ?side3 ?side4 A109.out).mono ?_); (case side1 => exact zC (Kd.R_reads' HO511.out).2.2); (case side2 => exact (Kd.R_reads' HO511.out).2.1); (case side3 => exact zC (Kd.R_reads' HO515.out).2.2); (case side4 => exact (Kd.R_reads' HO515.out).2.1); rintro e w' ⟨rfl, ⟨nd, rfl⟩⟩; (try first | exact ⟨rfl, _, World.drewN_drewN _ _ _⟩ | exact ⟨rfl, _, Eq.trans (World.drewN_drewN _ _ _) (congrArg (World.drewN _) (Nat.add_assoc _ _ _))⟩)))
     (try simp only [Act.put, List.setIfInBounds_toArray, List.set_cons_zero, List.set_cons_succ])
     exact part_j7 (x257_100 := (true)) HR0 HC0 HR1 HC1 zE1 H' ⟨Nat.le_refl _⟩ ⟨zR HO507.out⟩ ⟨by (with_reducible repeat (first | apply Kd.R_alloc | apply Kd.R_drewN | apply Kd.R_drew)); exact Kd.R_mono HO511.out (fun _ hk => trivial)⟩ ⟨zB HB.out⟩ (by assumption) HKq6.out
    ·rw [if_neg c111] at H
     have c111b0 : (t517 != t519) = false := by simpa using c111
     (try (have c111b1 : decide (t517 = t519) = true := by simpa using c111))
     (try (have c111b2 : (t517 == t519) = true := by simpa using c111))
     clear c111
     by_cases c114 : (t516 != t518) = true
     ·rw [if_pos c114] at H
      have c114b0 : (t516 != t518) = true := c114
      (try (have c114b1 : decide (t516 = t518) = false := by simpa using c114))
      (try (have c114b2 : (t516 == t518) = false := by simpa using c114))
      (try (have c114b3 : ¬ (t516 = t518) := by simpa using c114))
      clear c114
      have H' := Aside0.mk H
      clear H
      obtain ⟨Ao115, co115, eo115⟩ := Kd.R_slice HO511.out
      subst eo115
      obtain ⟨Ao116, co116, eo116⟩ := Kd.R_slice HO515.out
      subst eo116
      go_wp2_with (first | (go_at_call 20; (with_reducible refine (laws_yTexts.calls kj60 _ _ t508 _ _ t512 true _ ?side1 ?side2 ?side3 ?side4 A109.out).mono ?_); (case side1 => exact zC (Kd.R_reads' HO511.out).2.2); (case side2 => exact (Kd.R_reads' HO511.out).2.1); (case side3 => exact zC (Kd.R_reads' HO515.out).2.2); (case side4 => exact (Kd.R_reads' HO515.out).2.1); rintro e w' ⟨rfl, ⟨nd, rfl⟩⟩; (try first | exact ⟨rfl, _, World.drewN_drewN _ _ _⟩ | exact ⟨rfl, _, Eq.trans (World.drewN_drewN _ _ _) (congrArg (World.drewN _) (Nat.add_assoc _ _ _))⟩)))
      (try simp only [Act.put, List.setIfInBounds_toArray, List.set_cons_zero, List.set_cons_succ])
      exact part_j7 (x257_100 := (true)) HR0 HC0 HR1 HC1 zE1 H' ⟨Nat.le_refl _⟩ ⟨zR HO507.out⟩ ⟨by (with_reducible repeat (first | apply Kd.R_alloc | apply Kd.R_drewN | apply Kd.R_drew)); exact Kd.R_mono HO511.out (fun _ hk => trivial)⟩ ⟨zB HB.out⟩ (by assumption) HKq6.out
     ·rw [if_neg c114] at H
      have c114b0 : (t516 != t518) = false := by simpa using c114
      (try (have c114b1 : decide (t516 = t518) = true := by simpa using c114))
      (try (have c114b2 : (t516 == t518) = true := by simpa using c114))
      clear c114
      by_cases c117 : t517 = true
      ·subst c117
       rw [if_pos rfl] at H
       have H' := Aside0.mk H
       clear H
       obtain ⟨Ao118, co118, eo118⟩ := Kd.R_slice HO511.out
       subst eo118
       obtain ⟨Ao119, co119, eo119⟩ := Kd.R_slice HO515.out
       subst eo119
       go_wp2_with (first | (go_at_call 20; (with_reducible refine (laws_yTexts.calls kj60 _ _ t508 _ _ t512 true _ ?side1 ?side2 ?side3 ?side4 A109.out).mono ?_); (case side1 => exact zC (Kd.R_reads' HO511.out).2.2); (case side2 => exact (Kd.R_reads' HO511.out).2.1); (case side3 => exact zC (Kd.R_reads' HO515.out).2.2); (case side4 => exact (Kd.R_reads' HO515.out).2.1); rintro e w' ⟨rfl, ⟨nd, rfl⟩⟩; (try first | exact ⟨rfl, _, World.drewN_drewN _ _ _⟩ | exact ⟨rfl, _, Eq.trans (World.drewN_drewN _ _ _) (congrArg (World.drewN _) (Nat.add_assoc _ _ _))⟩)))
       (try simp only [Act.put, List.setIfInBounds_toArray, List.set_cons_zero, List.set_cons_succ])
       exact part_j7 (x257_100 := ((t509 != t516))) HR0 HC0 HR1 HC1 zE1 H' ⟨Nat.le_refl _⟩ ⟨zR HO507.out⟩ ⟨by (with_reducible repeat (first | apply Kd.R_alloc | apply Kd.R_drewN | apply Kd.R_drew)); exact Kd.R_mono HO511.out (fun _ hk => trivial)⟩ ⟨zB HB.out⟩ (by assumption) HKq6.out
      ·replace c117 := Bool.eq_false_iff.mpr c117
       subst c117
       rw [if_neg zN] at H
       have H' := Aside0.mk H
       clear H
       obtain ⟨Ao120, co120, eo120⟩ := Kd.R_slice HO511.out
       subst eo120
       obtain ⟨Ao121, co121, eo121⟩ := Kd.R_slice HO515.out
       subst eo121
       go_wp2_with (first | (go_at_call 20; (with_reducible refine (laws_yTexts.calls kj60 _ _ t508 _ _ t512 true _ ?side1 ?side2 ?side3 ?side4 A109.out).mono ?_); (case side1 => exact zC (Kd.R_reads' HO511.out).2.2); (case side2 => exact (Kd.R_reads' HO511.out).2.1); (case side3 => exact zC (Kd.R_reads' HO515.out).2.2); (case side4 => exact (Kd.R_reads' HO515.out).2.1); rintro e w' ⟨rfl, ⟨nd, rfl⟩⟩; (try first | exact ⟨rfl, _, World.drewN_drewN _ _ _⟩ | exact ⟨rfl, _, Eq.trans (World.drewN_drewN _ _ _) (congrArg (World.drewN _) (Nat.add_assoc _ _ _))⟩)))
       (try simp only [Act.put, List.setIfInBounds_toArray, List.set_cons_zero, List.set_cons_succ])
       exact part_j7 (x257_100 := ((t509 != false))) HR0 HC0 HR1 HC1 zE1 H' ⟨Nat.le_refl _⟩ ⟨zR HO507.out⟩ ⟨by (with_reducible repeat (first | apply Kd.R_alloc | apply Kd.R_drewN | apply Kd.R_drew)); exact Kd.R_mono HO511.out (fun _ hk => trivial)⟩ ⟨zB HB.out⟩ (by assumption) HKq6.out
   ·replace c110 := Bool.eq_false_iff.mpr c110
    subst c110
    rw [if_neg zN] at H
    have H' := Aside0.mk H
    clear H
    obtain ⟨Ao122, co122, eo122⟩ := Kd.R_slice HO511.out
    subst eo122
    obtain ⟨Ao123, co123, eo123⟩ := Kd.R_slice HO515.out
    subst eo123
    go_wp2_with (first | (go_at_call 20; (with_reducible refine (laws_yTexts.calls kj60 _ _ t508 _ _ t512 false _ ?side1 ?side2 ?side3 ?side4 A109.out).mono ?_); (case side1 => exact zC (Kd.R_reads' HO511.out).2.2); (case side2 => exact (Kd.R_reads' HO511.out).2.1); (case side3 => exact zC (Kd.R_reads' HO515.out).2.2); (case side4 => exact (Kd.R_reads' HO515.out).2.1); rintro e w' ⟨rfl, ⟨nd, rfl⟩⟩; (try first | exact ⟨rfl, _, World.drewN_drewN _ _ _⟩ | exact ⟨rfl, _, Eq.trans (World.drewN_drewN _ _ _) (congrArg (World.drewN _) (Nat.add_assoc _ _ _))⟩)))
    (try simp only [Act.put, List.setIfInBounds_toArray, List.set_cons_zero, List.set_cons_succ])
    exact part_j7 (x257_100 := (true)) HR0 HC0 HR1 HC1 zE1 H' ⟨Nat.le_refl _⟩ ⟨zR HO507.out⟩ ⟨by (with_reducible repeat (first | apply Kd.R_alloc | apply Kd.R_drewN | apply Kd.R_drew)); exact Kd.R_mono HO511.out (fun _ hk => trivial)⟩ ⟨zB HB.out⟩ (by assumption) HKq6.out
end Go.Proofs.Ytcdmmpbcjcajlaa.XFnOrderedCodes
