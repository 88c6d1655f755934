-- Cut out of longer texts by a program of this session (wip/shake.py): what the claim uses.
import Derived.Test.YtcdmmpbcjcajlaaGreatXFnBestIsMergedx0
import Derived.Test.YtcdmmpbcjcajlaaGreatXFnBestIsMergedx1
import Derived.Test.YtcdmmpbcjcajlaaGreatXFnBestIsMergedx3
import Derived.Test.YtcdmmpbcjcajlaaGreatXFnBestIsMergedx5
import Derived.Test.YtcdmmpbcjcajlaaGreatXFnBestIsMergedx6
import Derived.Test.YtcdmmpbcjcajlaaGreatXFnBestIsMergedx7
import Derived.Test.YtcdmmpbcjcajlaaGreatXFnBestIsMergedx8
import Derived.Test.YtcdmmpbcjcajlaaGreatXFnBestIsMergedx9
import Derived.Test.YtcdmmpbcjcajlaaGreatXFnBestIsMergedx10
import Derived.Test.YtcdmmpbcjcajlaaGreatXFnBestIsMergedx11
namespace Go.Proofs.YtcdmmpbcjcajlaaGreat.XFnBestIsMerged
open Go.RowKit Go.Proofs.YtcdmmpbcjcajlaaGreat.Hand Go.Proofs.YtcdmmpbcjcajlaaGreatW.PrintWords Go.Proofs.YtcdmmpbcjcajlaaGreatW.PrintLast Go.Proofs.YtcdmmpbcjcajlaaGreatW.PrintMore
attribute [local go_sem] max2_int min2_int max_two min_two max_three min_three max_four min_four   -- for this text's walks alone
set_option linter.unusedVariables false
set_option linter.unusedSimpArgs false
def LvI (W : World) (L : List (Value × List Int)) : Prop := ∀ p ∈ L, Kd.V (Kd.int .i64) 3 W 0 (fun _ => True) p.1 p.2
theorem LvI_below {W W' : World} {L : List (Value × List Int)} (h : LvI W L) (hb : Below W.heap.size W W') : LvI W' L := fun p hp => Kd.V_below (h p hp) hb
theorem LvI_cons {W : World} {L : List (Value × List Int)} {v : Value} {l : List Int} (h : LvI W L) (hv : Kd.V (Kd.int .i64) 3 W 0 (fun _ => True) v l) : LvI W ((v, l) :: L) := fun p hp => by
  rcases List.mem_cons.1 hp with rfl | hp
  · exact hv
  · exact h p hp
theorem LvI_get {W : World} {L : List (Value × List Int)} (h : LvI W L) (v : Value) (l : List Int) (hm : (v, l) ∈ L) : Kd.V (Kd.int .i64) 3 W 0 (fun _ => True) v l := h (v, l) hm
theorem LvI_drew {W : World} {L : List (Value × List Int)} (h : LvI W L) : LvI W.drew L := fun p hp => Kd.V_drew (h p hp)
theorem LvI_drewN {W : World} {L : List (Value × List Int)} (h : LvI W L) (n : Nat) : LvI (W.drewN n) L := fun p hp => Kd.V_drewN (h p hp) n
theorem LvI_sub {W : World} {L M : List (Value × List Int)} (h : LvI W L) (hs : ∀ p ∈ M, p ∈ L) : LvI W M := fun p hp => h p (hs p hp)
theorem LvI_nil (W : World) : LvI W [] := fun p hp => by cases hp
theorem LvI_own {W : World} {base : Nat} {ok : Nat → Prop} {v : Value} {l : List Int} (h : Kd.R (Kd.int .i64) 3 W base ok v l) : Kd.V (Kd.int .i64) 3 W 0 (fun _ => True) v l := Kd.R_V (base' := 0) (Kd.R_mono (ok' := fun _ => True) h (fun _ _ => trivial))
theorem bm_drawn {W W' : World} (h : Drawn0 W W') : Below W.heap.size W W' := by
  obtain ⟨n, rfl⟩ := h
  exact pw_below_drewN (Below.refl _ _) n
def cA : Code → Code
  | .seq a _ => a
  | c => c
def cB : Code → Code
  | .seq _ b => b
  | c => c
theorem region_of {P : Program} {c : Code} {n : Nat} {ops : Array Oper} {b : Bool} {Q : Exit → Act → World → Prop} {a : Act} {w : World} (h : c = .region n ops b) (hw : (Code.region n ops b).wp P Q a w) : c.wp P Q a w := h ▸ hw
theorem cond_of {P : Program} {c x y : Code} {o : Operand} {Q : Exit → Act → World → Prop} {K : Act → World → Prop} (h : c = .cond o x y) (h1 : ∀ a w, c.wp P Q a w → K a w) : ∀ a w, (Code.cond o x y).wp P Q a w → K a w := h ▸ h1
theorem seq_of {P : Program} {c x y : Code} {Q : Exit → Act → World → Prop} {K : Act → World → Prop} (h : c = .seq x y) (h1 : ∀ a w, c.wp P Q a w → K a w) : ∀ a w, (Code.seq x y).wp P Q a w → K a w := h ▸ h1
def bmLens (ws : List ByteArray) (f : List Int) : Bool := decide (ws.length ≤ f.length) && (List.range ws.length).all fun i => ((rdOf ByteArray.empty ws (i : Int)).size : Int) == rd f (i : Int)
def bmHeavy (w f : List Int) : Bool := decide (w.length ≤ f.length) && (List.range w.length).all fun i => (List.range w.length).all fun j => !(decide (rd w (j : Int) < rd w (i : Int)) && decide (rd f (j : Int) < rd f (i : Int)))
def bmUp (l : List Int) : Bool := (List.range l.length).all fun i => decide (i = 0) || !decide (rd l (i : Int) < rd l ((i : Int) - 1))
def bm_T30 : Bool × List (List Nat × List Nat) := (true, [([], []), ([], []), ([0, 1], [0, 1]), ([2], [2]), ([3], [3]), ([3], [3]), ([4, 5, 3], [3, 4, 5]), ([6, 3], [3, 6]), ([3], [3]), ([3], [3]), ([8, 9, 3], [3, 8, 9]), ([10, 3], [3, 10]), ([7, 11, 3], [3, 7, 11]), ([3, 12], [3, 12])])
def bm_B30 : List Nat := [0, 0, 3, 7, 15, 15, 63, 127, 15, 15, 783, 1807, 4095, 8191]
theorem bm_tab30 : rtab .any (opsOf Tryz.f3 30) = bm_T30 := by kernel_rfl
theorem bm_bits30 : waitsOk bm_T30.2 bm_B30 = true := by kernel_rfl
def bm_T41 : Bool × List (List Nat × List Nat) := (true, [([], []), ([0], [0]), ([1], [1]), ([2], [2]), ([3, 2], [2, 3]), ([4, 2], [2, 4]), ([5, 2, 2], [2, 5]), ([6], [6]), ([7, 6, 6], [6, 7]), ([6], [6]), ([8, 9, 6], [6, 8, 9]), ([10, 8, 6], [6, 10]), ([11], [11]), ([11], [11]), ([13, 11], [11, 13]), ([14, 11], [11, 14]), ([12, 15, 11], [11, 12, 15]), ([16, 11], [11, 16]), ([11], [11]), ([18, 11, 11], [11, 18]), ([17, 19, 11], [11, 17, 19]), ([11, 20, 6], [6, 11, 20]), ([6, 21, 2], [2, 6, 21]), ([2, 22], [2, 22]), ([23, 19], [23]), ([24], [24]), ([25, 24], [24, 25]), ([26, 24], [24, 26]), ([27, 24, 24], [24, 27]), ([28], [28]), ([29, 28], [28, 29]), ([30, 28], [28, 30]), ([31, 28, 28], [28, 31]), ([32], [32]), ([32], [32]), ([34, 32], [32, 34]), ([35, 32], [32, 35]), ([33, 36, 32], [32, 33, 36]), ([32, 37, 28], [28, 32, 37]), ([28, 38, 24], [24, 28, 38]), ([24, 39], [24, 39])])
def bm_B41 : List Nat := [0, 1, 3, 7, 15, 31, 63, 127, 255, 127, 1023, 2047, 4095, 4095, 12287, 28671, 65535, 131071, 4095, 266239, 1048575, 2097151, 4194303, 8388607, 16777215, 33554431, 67108863, 134217727, 268435455, 536870911, 1073741823, 2147483647, 4294967295, 8589934591, 8589934591, 25769803775, 60129542143, 137438953471, 274877906943, 549755813887, 1099511627775]
theorem bm_tab41 : rtab .any (opsOf Tryz.f3 41) = bm_T41 := by kernel_rfl
theorem bm_bits41 : waitsOk bm_T41.2 bm_B41 = true := by kernel_rfl
def bm_T46 : Bool × List (List Nat × List Nat) := (true, [([], []), ([], []), ([0, 1], [0, 1]), ([2], [2]), ([], []), ([], []), ([5], [5]), ([4, 6], [4, 6]), ([7], [7]), ([3, 8], [3, 8])])
def bm_B46 : List Nat := [0, 0, 3, 7, 0, 0, 32, 112, 240, 511]
theorem bm_tab46 : rtab .any (opsOf Tryz.f3 46) = bm_T46 := by kernel_rfl
theorem bm_bits46 : waitsOk bm_T46.2 bm_B46 = true := by kernel_rfl
def bm_s3 (k : Nat) (l1 : List Int) : Option Bool := (spec_DrawAreBest.f k l1).bind fun d => (impl_AreBest.f k d.1 d.2.1 d.2.2).bind fun a => (spec_AreBest.f k d.1 d.2.1 d.2.2).bind fun a2 => (spec_DrawCostOf.f k l1).bind fun e => (impl_CostOf.f k e.1 e.2).bind fun c => (spec_CostOf.f k e.1 e.2).bind fun c2 => if a2 = a ∧ c2 = c then (if a.2 = true then (impl_BestCost.f k d.1 d.2.2).bind fun b => (impl_CostOf.f k d.1 d.2.1).bind fun o => (if b.2 = true ∧ o.2 = true ∧ (a.1 = true → o.1 = b.1) then some true else none) else some true) else none
def bm_s2 (k : Nat) (l1 : List Int) : Option Bool := (spec_DrawMergeRun.f k l1).bind fun d => (impl_MergeRun.f k d.1 d.2).bind fun m => (spec_MergeRun.f k d.1 d.2).bind fun m2 => (laws_ySame.f k m.1 m2.1).bind fun t => if m2.2 = m.2 ∧ t = true then (if m.2 = true then (impl_BestCost.f k d.1 d.2).bind fun b => (laws_ySum.f k m.1).bind fun s1 => (laws_ySum.f k d.1).bind fun s2 => (if b.2 = true ∧ ((1 < d.1.length ∧ s1 = b.1 ∧ 1 ≤ m.1.length ∧ rd m.1 ((m.1.length : Int) - 1) = s2) ∨ (d.1.length = 1 ∧ m.1.length = 0 ∧ b.1 = rd d.1 0)) ∧ bmUp m.1 = true then bm_s3 k l1 else none) else bm_s3 k l1) else none
def bm_s1 (k : Nat) (l1 : List Int) (w : List Int) (m : Int) (f : List Int) (n c : Int) : Option Bool := (impl_CostOf.f k w f).bind fun o => (impl_AreBest.f k w f m).bind fun a => (impl_WordsFor.f k f m).bind fun ws => (laws_yPrefix.f k ws.1).bind fun t => if o.1 = c ∧ o.2 = true ∧ a.1 = true ∧ a.2 = true ∧ 1 ≤ n ∧ ws.2 = true ∧ t = true ∧ bmLens ws.1 f = true ∧ bmHeavy w f = true then bm_s2 k l1 else none
def laws_FnBestIsMerged.f (k : Nat) (l0 l1 : List Int) : Option Bool := (laws_big.f l0 l1).bind fun b => if b = true then some true else (spec_DrawFirstBest.f k l0).bind fun d => (impl_FirstBest.f k d.1 d.2).bind fun p => (spec_FirstBest.f k d.1 d.2).bind fun p2 => (impl_CountBest.f k d.1 d.2).bind fun n => (spec_CountBest.f k d.1 d.2).bind fun n2 => (impl_BestCost.f k d.1 d.2).bind fun c => (spec_BestCost.f k d.1 d.2).bind fun c2 => (laws_ySame.f k p.1 p2.1).bind fun t => if p2.2 = p.2 ∧ n.2 = p.2 ∧ n2.1 = n.1 ∧ n2.2 = n.2 ∧ c2.1 = c.1 ∧ c2.2 = c.2 ∧ t = true ∧ (p.2 = true → c.2 = true) then (if p.2 = true then bm_s1 k l1 d.1 d.2 p.1 n.1 c.1 else bm_s2 k l1) else none
theorem bm_s3_mono : ∀ a k, LeO (bm_s3 k a) (bm_s3 (k + 1) a) := by
  intro a k
  unfold bm_s3
  exact LeO.bind (spec_DrawAreBest.mono _ _) fun _ => LeO.bind (impl_AreBest.mono _ _ _ _) fun _ => LeO.bind (spec_AreBest.mono _ _ _ _) fun _ => LeO.bind (spec_DrawCostOf.mono _ _) fun _ => LeO.bind (impl_CostOf.mono _ _ _) fun _ => LeO.bind (spec_CostOf.mono _ _ _) fun _ => LeO.ite (LeO.ite (LeO.bind (impl_BestCost.mono _ _ _) fun _ => LeO.bind (impl_CostOf.mono _ _ _) fun _ => LeO.refl _) (LeO.refl _)) (LeO.refl _)
theorem bm_s2_mono : ∀ a k, LeO (bm_s2 k a) (bm_s2 (k + 1) a) := by
  intro a k
  unfold bm_s2
  exact LeO.bind (spec_DrawMergeRun.mono _ _) fun _ => LeO.bind (impl_MergeRun.mono _ _ _) fun _ => LeO.bind (spec_MergeRun.mono _ _ _) fun _ => LeO.bind (laws_ySame.mono _ _ _) fun _ => LeO.ite (LeO.ite (LeO.bind (impl_BestCost.mono _ _ _) fun _ => LeO.bind (laws_ySum.mono _ _) fun _ => LeO.bind (laws_ySum.mono _ _) fun _ => LeO.ite (bm_s3_mono _ _) (LeO.refl _)) (bm_s3_mono _ _)) (LeO.refl _)
theorem bm_s1_mono : ∀ a b c d e f k, LeO (bm_s1 k a b c d e f) (bm_s1 (k + 1) a b c d e f) := by
  intro a b c d e f k
  unfold bm_s1
  exact LeO.bind (impl_CostOf.mono _ _ _) fun _ => LeO.bind (impl_AreBest.mono _ _ _ _) fun _ => LeO.bind (impl_WordsFor.mono _ _ _) fun _ => LeO.bind (laws_yPrefix.mono _ _) fun _ => LeO.ite (bm_s2_mono _ _) (LeO.refl _)
theorem laws_FnBestIsMerged.mono : ∀ a0 a1 k, LeO (laws_FnBestIsMerged.f k a0 a1) (laws_FnBestIsMerged.f (k + 1) a0 a1) := by
  intro a0 a1 k
  unfold laws_FnBestIsMerged.f
  exact LeO.bind (LeO.refl _) fun _ => LeO.ite (LeO.refl _) (LeO.bind (spec_DrawFirstBest.mono _ _) fun _ => LeO.bind (impl_FirstBest.mono _ _ _) fun _ => LeO.bind (spec_FirstBest.mono _ _ _) fun _ => LeO.bind (impl_CountBest.mono _ _ _) fun _ => LeO.bind (spec_CountBest.mono _ _ _) fun _ => LeO.bind (impl_BestCost.mono _ _ _) fun _ => LeO.bind (spec_BestCost.mono _ _ _) fun _ => LeO.bind (laws_ySame.mono _ _ _) fun _ => LeO.ite (LeO.ite (bm_s1_mono _ _ _ _ _ _ _) (bm_s2_mono _ _)) (LeO.refl _))
set_option maxHeartbeats 16000000 in
set_option maxRecDepth 100000 in
theorem bm48 (k : Nat) (A1 : Option Addr) (c1 : Nat) (l1 : List Int) (r : Bool) (w wc : World) (HR1 : Aside0 (Kd.C (Kd.int .u8) w A1 l1.length l1)) (HC1 : Aside0 (l1.length ≤ c1)) (HB : Aside0 (Below w.heap.size w wc)) (HA : Aside0 (bm_s3 k l1 = some r)) (z0 z2 z3 z4 z5 z6 z7 z8 z9 z10 z11 z12 z13 z14 z15 z16 z17 z18 z19 z20 z21 z22 z23 z24 z25 z26 z27 z28 z29 z30 z31 z32 z33 z34 z35 z36 z37 z38 z39 z40 z41 z42 z43 z44 z45 z46 z47 z48 z49 z50 z51 z52 z53 z54 z55 z56 z57 z58 z59 z60 z61 z62 z63 z64 z65 z66 z67 z68 z69 z70 z71 z72 z73 z74 z75 z76 z77 z78 z79 z80 z81 z82 z83 z84 z85 z86 z87 z88 z89 z90 z91 z92 z93 z94 z95 z96 z97 z98 z99 z100 z101 z102 z103 z104 z105 z106 z107 z108 z109 z110 z111 z112 z113 z114 z115 z116 z117 z118 z119 z120 z121 z122 z123 z124 z125 z126 z127 z128 z129 z130 z131 z132 z133 z134 z135 z136 z137 z138 z139 z140 z141 z142 z143 z144 z145 z146 z147 z148 z149 z150 z151 z152 z153 z154 z155 z156 z157 z158 z159 z160 z161 z162 z163 z164 z165 z166 z167 z168 z169 z170 z171 z172 z173 z174 z175 z176 z177 z178 z179 z180 z181 z182 z183 z184 z185 z186 z187 z188 z189 z190 z191 z192 z193 z194 z195 z196 z197 z198 z199 z200 z201 z202 z203 z204 z205 z206 z207 z208 z209 z210 z211 z212 z213 z214 z215 z216 z217 z218 z219 z220 z221 z222 z223 z224 z225 z226 z227 z228 z229 z230 z231 z232 z233 z234 z235 z236 z237 z238 z239 z240 z241 z242 z243 z244 z245 z246 z247 z248 z249 z250 z251 z252 z253 z254 z255 z256 z257 z258 z259 z260 z261 z262 z263 z264 z265 z266 z267 z268 z269 z270 z271 z272 z273 z274 z275 z276 z277 z278 z279 z280 z281 z282 z283 z284 z285 z286 z287 z288 z289 z290 z291 z292 z293 z294 z295 z296 z297 z298 z299 z300 z301 z302 z303 z304 z305 z306 z307 z308 z309 z310 z311 z312 z313 z314 z315 z316 z317 z318 z319 z320 z321 z322 z323 z324 z325 z326 z327 z328 z329 z330 z331 z332 z333 z334 z335 z336 z337 z338 z339 z340 z341 z342 z343 z344 z345 z346 z347 z348 z349 z350 z351 z352 z353 z354 z355 z356 z357 z358 z359 z360 z361 z362 z363 z364 z365 z366 z367 z368 z369 z370 z371 z372 z373 z374 z375 z376 z377 z378 z379 z380 z381 z382 z383 z384 z385 z386 z387 z388 z389 z390 z391 z392 z393 z394 z395 z396 z397 z398 z399 z400 z401 z402 z403 z404 z405 : Value) (K : Act → World → Prop) (hK : ∀ a w', Code.wp Tryz.prog (cB (cB (cB (cB (cB (cB (cB (cB (cB (cB (cB (cB (cB (cB (cB (cB (cB (Tryz.f3.body.getD .skip)))))))))))))))))) (bodyPost Tryz.prog Tryz.f3 (fun e w' => e = .returned (.bool r) ∧ Below w.heap.size w w')) a w' → K a w') :
    Code.wp Tryz.prog (cA (cB (cB (cB (cB (cB (cB (cB (cB (cB (cB (cB (cB (cB (cB (cB (cB (Tryz.f3.body.getD .skip)))))))))))))))))) (Exit.then K (bodyPost Tryz.prog Tryz.f3 (fun e w' => e = .returned (.bool r) ∧ Below w.heap.size w w'))) { tmps := #[z0, .slice A1 l1.length c1, z2, z3, z4, z5, z6, z7, z8, z9, z10, z11, z12, z13, z14, z15, z16, z17, z18, z19, z20, z21, z22, z23, z24, z25, z26, z27, z28, z29, z30, z31, z32, z33, z34, z35, z36, z37, z38, z39, z40, z41, z42, z43, z44, z45, z46, z47, z48, z49, z50, z51, z52, z53, z54, z55, z56, z57, z58, z59, z60, z61, z62, z63, z64, z65, z66, z67, z68, z69, z70, z71, z72, z73, z74, z75, z76, z77, z78, z79, z80, z81, z82, z83, z84, z85, z86, z87, z88, z89, z90, z91, z92, z93, z94, z95, z96, z97, z98, z99, z100, z101, z102, z103, z104, z105, z106, z107, z108, z109, z110, z111, z112, z113, z114, z115, z116, z117, z118, z119, z120, z121, z122, z123, z124, z125, z126, z127, z128, z129, z130, z131, z132, z133, z134, z135, z136, z137, z138, z139, z140, z141, z142, z143, z144, z145, z146, z147, z148, z149, z150, z151, z152, z153, z154, z155, z156, z157, z158, z159, z160, z161, z162, z163, z164, z165, z166, z167, z168, z169, z170, z171, z172, z173, z174, z175, z176, z177, z178, z179, z180, z181, z182, z183, z184, z185, z186, z187, z188, z189, z190, z191, z192, z193, z194, z195, z196, z197, z198, z199, z200, z201, z202, z203, z204, z205, z206, z207, z208, z209, z210, z211, z212, z213, z214, z215, z216, z217, z218, z219, z220, z221, z222, z223, z224, z225, z226, z227, z228, z229, z230, z231, z232, z233, z234, z235, z236, z237, z238, z239, z240, z241, z242, z243, z244, z245, z246, z247, z248, z249, z250, z251, z252, z253, z254, z255, z256, z257, z258, z259, z260, z261, z262, z263, z264, z265, z266, z267, z268, z269, z270, z271, z272, z273, z274, z275, z276, z277, z278, z279, z280, z281, z282, z283, z284, z285, z286, z287, z288, z289, z290, z291, z292, z293, z294, z295, z296, z297, z298, z299, z300, z301, z302, z303, z304, z305, z306, z307, z308, z309, z310, z311, z312, z313, z314, z315, z316, z317, z318, z319, z320, z321, z322, z323, z324, z325, z326, z327, z328, z329, z330, z331, z332, z333, z334, z335, z336, z337, z338, z339, z340, z341, z342, z343, z344, z345, z346, z347, z348, z349, z350, z351, z352, z353, z354, z355, z356, z357, z358, z359, z360, z361, z362, z363, z364, z365, z366, z367, z368, z369, z370, z371, z372, z373, z374, z375, z376, z377, z378, z379, z380, z381, z382, z383, z384, z385, z386, z387, z388, z389, z390, z391, z392, z393, z394, z395, z396, z397, z398, z399, z400, z401, z402, z403, z404, z405], defers := [] } wc := by
  replace hK := seq_of rfl hK
  refine region_of rfl ?_
  have HL := Aside0.mk (LvI_nil wc)
  have H := HA.out
  clear HA
  unfold bm_s3 at H
  replace H := Option.bind_eq_some_iff.mp H
  obtain ⟨⟨lx, ly, m⟩, D1, H⟩ := H
  have D1 := Aside0.mk D1
  (try simp only at H)
  replace H := Option.bind_eq_some_iff.mp H
  obtain ⟨⟨a1, a2⟩, D2, H⟩ := H
  have D2 := Aside0.mk D2
  (try simp only at H)
  replace H := Option.bind_eq_some_iff.mp H
  obtain ⟨⟨a3, a4⟩, D3, H⟩ := H
  have D3 := Aside0.mk D3
  (try simp only at H)
  replace H := Option.bind_eq_some_iff.mp H
  obtain ⟨⟨lu, lv⟩, D4, H⟩ := H
  have D4 := Aside0.mk D4
  (try simp only at H)
  replace H := Option.bind_eq_some_iff.mp H
  obtain ⟨⟨o1, o2⟩, D5, H⟩ := H
  have D5 := Aside0.mk D5
  (try simp only at H)
  replace H := Option.bind_eq_some_iff.mp H
  obtain ⟨⟨o3, o4⟩, D6, H⟩ := H
  have D6 := Aside0.mk D6
  (try simp only at H)
  split at H
  case isFalse => cases H
  rename_i hq
  obtain ⟨q1, q2⟩ := hq
  obtain ⟨rfl, rfl⟩ : a3 = a1 ∧ a4 = a2 := by simpa using q1
  obtain ⟨rfl, rfl⟩ : o3 = o1 ∧ o4 = o2 := by simpa using q2
  clear q1 q2
  go_upto_region 54 with (first | ((with_reducible refine gate_callee (f := 21) rfl ?_); refine goesL_ (some 326) rfl rfl Tryz.func21 (by kernel_rfl) rfl #[.slice A1 l1.length c1] rfl (by (try simp only [List.map_toArray, List.map_cons, List.map_nil]); first | done | rfl) ?_; (with_reducible refine (spec_DrawAreBest.calls k _ _ l1 lx ly m _ (Kd.C_below HR1.out HB.out) HC1.out D1.out).mono ?_); rintro e w9 ⟨v8, v9, rfl, hr, hr2, hb⟩; refine ⟨_, rfl, ?_⟩; have HB' := Aside0.mk (below_step HB.out hb); have HL' := Aside0.mk (LvI_cons (LvI_cons (LvI_below HL.out hb) (LvI_own hr)) (LvI_own hr2)); clear HB HL hb hr hr2; have HB := HB'; have HL := HL'; clear HB' HL'; obtain ⟨Ax, cx, ex⟩ := Kd.V_slice (show Kd.V (Kd.int .i64) 3 _ 0 (fun _ => True) v8 lx from HL.out (v8, lx) (by simp)); subst ex; obtain ⟨Ay, cy, ey⟩ := Kd.V_slice (show Kd.V (Kd.int .i64) 3 _ 0 (fun _ => True) v9 ly from HL.out (v9, ly) (by simp)); subst ey) | ((with_reducible refine gate_callee (f := 14) rfl ?_); refine goesL_ (some 334) rfl rfl Tryz.func14 (by kernel_rfl) rfl #[.slice Ax lx.length cx, .slice Ay ly.length cy, .int .i64 m] rfl (by (try simp only [List.map_toArray, List.map_cons, List.map_nil]); first | done | rfl) ?_; (with_reducible refine (impl_AreBest.calls k _ _ lx _ _ ly m a3 a4 _ (Kd.V_reads' (LvI_get HL.out (.slice Ax lx.length cx) lx (by simp))).2.2 (Kd.V_reads' (LvI_get HL.out (.slice Ax lx.length cx) lx (by simp))).2.1 (Kd.V_reads' (LvI_get HL.out (.slice Ay ly.length cy) ly (by simp))).2.2 (Kd.V_reads' (LvI_get HL.out (.slice Ay ly.length cy) ly (by simp))).2.1 D2.out).mono ?_); rintro e w9 ⟨rfl, hb⟩; refine ⟨_, rfl, ?_⟩; have HB' := Aside0.mk (below_step HB.out hb); have HL' := Aside0.mk (LvI_below HL.out hb); clear HB HL; have HB := HB'; have HL := HL'; clear HB' HL' hb) | ((with_reducible refine gate_callee (f := 22) rfl ?_); refine goesL_ (some 341) rfl rfl Tryz.func22 (by kernel_rfl) rfl #[.slice Ax lx.length cx, .slice Ay ly.length cy, .int .i64 m] rfl (by (try simp only [List.map_toArray, List.map_cons, List.map_nil]); first | done | rfl) ?_; (with_reducible refine (spec_AreBest.calls k _ _ lx _ _ ly m a3 a4 _ (Kd.V_reads' (LvI_get HL.out (.slice Ax lx.length cx) lx (by simp))).2.2 (Kd.V_reads' (LvI_get HL.out (.slice Ax lx.length cx) lx (by simp))).2.1 (Kd.V_reads' (LvI_get HL.out (.slice Ay ly.length cy) ly (by simp))).2.2 (Kd.V_reads' (LvI_get HL.out (.slice Ay ly.length cy) ly (by simp))).2.1 D3.out).mono ?_); rintro e w9 ⟨rfl, hb⟩; refine ⟨_, rfl, ?_⟩; have HB' := Aside0.mk (below_step HB.out hb); have HL' := Aside0.mk (LvI_below HL.out hb); clear HB HL; have HB := HB'; have HL := HL'; clear HB' HL' hb) | ((with_reducible refine gate_callee (f := 23) rfl ?_); refine goesL_ (some 346) rfl rfl Tryz.func23 (by kernel_rfl) rfl #[.slice A1 l1.length c1] rfl (by (try simp only [List.map_toArray, List.map_cons, List.map_nil]); first | done | rfl) ?_; (with_reducible refine (spec_DrawCostOf.calls k _ _ l1 lu lv _ (Kd.C_below HR1.out HB.out) HC1.out D4.out).mono ?_); rintro e w9 ⟨v8, v9, rfl, hr, hr2, hb⟩; refine ⟨_, rfl, ?_⟩; have HB' := Aside0.mk (below_step HB.out hb); have HL' := Aside0.mk (LvI_cons (LvI_cons (LvI_below HL.out hb) (LvI_own hr)) (LvI_own hr2)); clear HB HL hb hr hr2; have HB := HB'; have HL := HL'; clear HB' HL'; obtain ⟨Au, cu, eu⟩ := Kd.V_slice (show Kd.V (Kd.int .i64) 3 _ 0 (fun _ => True) v8 lu from HL.out (v8, lu) (by simp)); subst eu; obtain ⟨Av, cv, ev⟩ := Kd.V_slice (show Kd.V (Kd.int .i64) 3 _ 0 (fun _ => True) v9 lv from HL.out (v9, lv) (by simp)); subst ev) | ((with_reducible refine gate_callee (f := 13) rfl ?_); refine goesL_ (some 352) rfl rfl Tryz.func13 (by kernel_rfl) rfl #[.slice Au lu.length cu, .slice Av lv.length cv] rfl (by (try simp only [List.map_toArray, List.map_cons, List.map_nil]); first | done | rfl) ?_; (with_reducible refine (impl_CostOf.calls k _ _ lu _ _ lv o3 o4 _ (Kd.V_reads' (LvI_get HL.out (.slice Au lu.length cu) lu (by simp))).2.2 (Kd.V_reads' (LvI_get HL.out (.slice Au lu.length cu) lu (by simp))).2.1 (Kd.V_reads' (LvI_get HL.out (.slice Av lv.length cv) lv (by simp))).2.2 (Kd.V_reads' (LvI_get HL.out (.slice Av lv.length cv) lv (by simp))).2.1 D5.out).mono ?_); rintro e w9 ⟨rfl, hb⟩; refine ⟨_, rfl, ?_⟩; have hb := bm_drawn hb; have HB' := Aside0.mk (below_step HB.out hb); have HL' := Aside0.mk (LvI_below HL.out hb); clear HB HL; have HB := HB'; have HL := HL'; clear HB' HL' hb) | ((with_reducible refine gate_callee (f := 24) rfl ?_); refine goesL_ (some 358) rfl rfl Tryz.func24 (by kernel_rfl) rfl #[.slice Au lu.length cu, .slice Av lv.length cv] rfl (by (try simp only [List.map_toArray, List.map_cons, List.map_nil]); first | done | rfl) ?_; (with_reducible refine (spec_CostOf.calls k _ _ lu _ _ lv o3 o4 _ (Kd.V_reads' (LvI_get HL.out (.slice Au lu.length cu) lu (by simp))).2.2 (Kd.V_reads' (LvI_get HL.out (.slice Au lu.length cu) lu (by simp))).2.1 (Kd.V_reads' (LvI_get HL.out (.slice Av lv.length cv) lv (by simp))).2.2 (Kd.V_reads' (LvI_get HL.out (.slice Av lv.length cv) lv (by simp))).2.1 D6.out).mono ?_); rintro e w9 ⟨rfl, hb⟩; refine ⟨_, rfl, ?_⟩; have hb := bm_drawn hb; have HB' := Aside0.mk (below_step HB.out hb); have HL' := Aside0.mk (LvI_below HL.out hb); clear HB HL; have HB := HB'; have HL := HL'; clear HB' HL' hb))
  cases a4 with
  | false =>
    rw [if_neg (by simp)] at H
    obtain rfl := Option.some.inj H
    clear H
    go_wp2
    go_ret
    exact ⟨rfl, HB.out⟩
  | true =>
    rw [if_pos rfl] at H
    replace H := Option.bind_eq_some_iff.mp H
    obtain ⟨⟨b1, b2⟩, D7, H⟩ := H
    have D7 := Aside0.mk D7
    (try simp only at H)
    replace H := Option.bind_eq_some_iff.mp H
    obtain ⟨⟨g1, g2⟩, D8, H⟩ := H
    have D8 := Aside0.mk D8
    (try simp only at H)
    split at H
    case isFalse => cases H
    rename_i hq
    obtain ⟨q1, q2, q3⟩ := hq
    subst q1 q2
    obtain rfl := Option.some.inj H
    clear H
    cases a3 with
    | false =>
      clear q3
      go_wp2_with (first | ((with_reducible refine gate_callee (f := 10) rfl ?_); refine goesL_ (some 383) rfl rfl Tryz.func10 (by kernel_rfl) rfl #[.slice Ax lx.length cx, .int .i64 m] rfl (by (try simp only [List.map_toArray, List.map_cons, List.map_nil]); first | done | rfl) ?_; (with_reducible refine (impl_BestCost.calls k _ _ lx m b1 true _ (Kd.V_reads' (LvI_get HL.out (.slice Ax lx.length cx) lx (by simp))).2.2 (Kd.V_reads' (LvI_get HL.out (.slice Ax lx.length cx) lx (by simp))).2.1 D7.out).mono ?_); rintro e w9 ⟨rfl, hb⟩; refine ⟨_, rfl, ?_⟩; have HB' := Aside0.mk (below_step HB.out hb); have HL' := Aside0.mk (LvI_below HL.out hb); clear HB HL; have HB := HB'; have HL := HL'; clear HB' HL' hb) | ((with_reducible refine gate_callee (f := 13) rfl ?_); refine goesL_ (some 389) rfl rfl Tryz.func13 (by kernel_rfl) rfl #[.slice Ax lx.length cx, .slice Ay ly.length cy] rfl (by (try simp only [List.map_toArray, List.map_cons, List.map_nil]); first | done | rfl) ?_; (with_reducible refine (impl_CostOf.calls k _ _ lx _ _ ly g1 true _ (Kd.V_reads' (LvI_get HL.out (.slice Ax lx.length cx) lx (by simp))).2.2 (Kd.V_reads' (LvI_get HL.out (.slice Ax lx.length cx) lx (by simp))).2.1 (Kd.V_reads' (LvI_get HL.out (.slice Ay ly.length cy) ly (by simp))).2.2 (Kd.V_reads' (LvI_get HL.out (.slice Ay ly.length cy) ly (by simp))).2.1 D8.out).mono ?_); rintro e w9 ⟨rfl, hb⟩; refine ⟨_, rfl, ?_⟩; have hb := bm_drawn hb; have HB' := Aside0.mk (below_step HB.out hb); have HL' := Aside0.mk (LvI_below HL.out hb); clear HB HL; have HB := HB'; have HL := HL'; clear HB' HL' hb))
      go_ret
      exact ⟨rfl, HB.out⟩
    | true =>
      obtain rfl := q3 rfl
      clear q3
      have n1 : (g1 != g1) = false := by simp
      have n2 : (g1 == g1) = true := by simp
      go_wp2_with (first | ((with_reducible refine gate_callee (f := 10) rfl ?_); refine goesL_ (some 383) rfl rfl Tryz.func10 (by kernel_rfl) rfl #[.slice Ax lx.length cx, .int .i64 m] rfl (by (try simp only [List.map_toArray, List.map_cons, List.map_nil]); first | done | rfl) ?_; (with_reducible refine (impl_BestCost.calls k _ _ lx m g1 true _ (Kd.V_reads' (LvI_get HL.out (.slice Ax lx.length cx) lx (by simp))).2.2 (Kd.V_reads' (LvI_get HL.out (.slice Ax lx.length cx) lx (by simp))).2.1 D7.out).mono ?_); rintro e w9 ⟨rfl, hb⟩; refine ⟨_, rfl, ?_⟩; have HB' := Aside0.mk (below_step HB.out hb); have HL' := Aside0.mk (LvI_below HL.out hb); clear HB HL; have HB := HB'; have HL := HL'; clear HB' HL' hb) | ((with_reducible refine gate_callee (f := 13) rfl ?_); refine goesL_ (some 389) rfl rfl Tryz.func13 (by kernel_rfl) rfl #[.slice Ax lx.length cx, .slice Ay ly.length cy] rfl (by (try simp only [List.map_toArray, List.map_cons, List.map_nil]); first | done | rfl) ?_; (with_reducible refine (impl_CostOf.calls k _ _ lx _ _ ly g1 true _ (Kd.V_reads' (LvI_get HL.out (.slice Ax lx.length cx) lx (by simp))).2.2 (Kd.V_reads' (LvI_get HL.out (.slice Ax lx.length cx) lx (by simp))).2.1 (Kd.V_reads' (LvI_get HL.out (.slice Ay ly.length cy) ly (by simp))).2.2 (Kd.V_reads' (LvI_get HL.out (.slice Ay ly.length cy) ly (by simp))).2.1 D8.out).mono ?_); rintro e w9 ⟨rfl, hb⟩; refine ⟨_, rfl, ?_⟩; have hb := bm_drawn hb; have HB' := Aside0.mk (below_step HB.out hb); have HL' := Aside0.mk (LvI_below HL.out hb); clear HB HL; have HB := HB'; have HL := HL'; clear HB' HL' hb))
      go_ret
      exact ⟨rfl, HB.out⟩
set_option maxHeartbeats 16000000 in
set_option maxRecDepth 100000 in
theorem bm34 (k : Nat) (A1 : Option Addr) (c1 : Nat) (l1 : List Int) (r : Bool) (w wc : World) (HR1 : Aside0 (Kd.C (Kd.int .u8) w A1 l1.length l1)) (HC1 : Aside0 (l1.length ≤ c1)) (HB : Aside0 (Below w.heap.size w wc)) (HA : Aside0 (bm_s2 k l1 = some r)) (z0 z2 z3 z4 z5 z6 z7 z8 z9 z10 z11 z12 z13 z14 z15 z16 z17 z18 z19 z20 z21 z22 z23 z24 z25 z26 z27 z28 z29 z30 z31 z32 z33 z34 z35 z36 z37 z38 z39 z40 z41 z42 z43 z44 z45 z46 z47 z48 z49 z50 z51 z52 z53 z54 z55 z56 z57 z58 z59 z60 z61 z62 z63 z64 z65 z66 z67 z68 z69 z70 z71 z72 z73 z74 z75 z76 z77 z78 z79 z80 z81 z82 z83 z84 z85 z86 z87 z88 z89 z90 z91 z92 z93 z94 z95 z96 z97 z98 z99 z100 z101 z102 z103 z104 z105 z106 z107 z108 z109 z110 z111 z112 z113 z114 z115 z116 z117 z118 z119 z120 z121 z122 z123 z124 z125 z126 z127 z128 z129 z130 z131 z132 z133 z134 z135 z136 z137 z138 z139 z140 z141 z142 z143 z144 z145 z146 z147 z148 z149 z150 z151 z152 z153 z154 z155 z156 z157 z158 z159 z160 z161 z162 z163 z164 z165 z166 z167 z168 z169 z170 z171 z172 z173 z174 z175 z176 z177 z178 z179 z180 z181 z182 z183 z184 z185 z186 z187 z188 z189 z190 z191 z192 z193 z194 z195 z196 z197 z198 z199 z200 z201 z202 z203 z204 z205 z206 z207 z208 z209 z210 z211 z212 z213 z214 z215 z216 z217 z218 z219 z220 z221 z222 z223 z224 z225 z226 z227 z228 z229 z230 z231 z232 z233 z234 z235 z236 z237 z238 z239 z240 z241 z242 z243 z244 z245 z246 z247 z248 z249 z250 z251 z252 z253 z254 z255 z256 z257 z258 z259 z260 z261 z262 z263 z264 z265 z266 z267 z268 z269 z270 z271 z272 z273 z274 z275 z276 z277 z278 z279 z280 z281 z282 z283 z284 z285 z286 z287 z288 z289 z290 z291 z292 z293 z294 z295 z296 z297 z298 z299 z300 z301 z302 z303 z304 z305 z306 z307 z308 z309 z310 z311 z312 z313 z314 z315 z316 z317 z318 z319 z320 z321 z322 z323 z324 z325 z326 z327 z328 z329 z330 z331 z332 z333 z334 z335 z336 z337 z338 z339 z340 z341 z342 z343 z344 z345 z346 z347 z348 z349 z350 z351 z352 z353 z354 z355 z356 z357 z358 z359 z360 z361 z362 z363 z364 z365 z366 z367 z368 z369 z370 z371 z372 z373 z374 z375 z376 z377 z378 z379 z380 z381 z382 z383 z384 z385 z386 z387 z388 z389 z390 z391 z392 z393 z394 z395 z396 z397 z398 z399 z400 z401 z402 z403 z404 z405 : Value) (K : Act → World → Prop) (hK : ∀ a w', Code.wp Tryz.prog (cB (cB (cB (cB (cB (cB (cB (cB (cB (cB (cB (cB (Tryz.f3.body.getD .skip))))))))))))) (bodyPost Tryz.prog Tryz.f3 (fun e w' => e = .returned (.bool r) ∧ Below w.heap.size w w')) a w' → K a w') :
    Code.wp Tryz.prog (cA (cB (cB (cB (cB (cB (cB (cB (cB (cB (cB (cB (Tryz.f3.body.getD .skip))))))))))))) (Exit.then K (bodyPost Tryz.prog Tryz.f3 (fun e w' => e = .returned (.bool r) ∧ Below w.heap.size w w'))) { tmps := #[z0, .slice A1 l1.length c1, z2, z3, z4, z5, z6, z7, z8, z9, z10, z11, z12, z13, z14, z15, z16, z17, z18, z19, z20, z21, z22, z23, z24, z25, z26, z27, z28, z29, z30, z31, z32, z33, z34, z35, z36, z37, z38, z39, z40, z41, z42, z43, z44, z45, z46, z47, z48, z49, z50, z51, z52, z53, z54, z55, z56, z57, z58, z59, z60, z61, z62, z63, z64, z65, z66, z67, z68, z69, z70, z71, z72, z73, z74, z75, z76, z77, z78, z79, z80, z81, z82, z83, z84, z85, z86, z87, z88, z89, z90, z91, z92, z93, z94, z95, z96, z97, z98, z99, z100, z101, z102, z103, z104, z105, z106, z107, z108, z109, z110, z111, z112, z113, z114, z115, z116, z117, z118, z119, z120, z121, z122, z123, z124, z125, z126, z127, z128, z129, z130, z131, z132, z133, z134, z135, z136, z137, z138, z139, z140, z141, z142, z143, z144, z145, z146, z147, z148, z149, z150, z151, z152, z153, z154, z155, z156, z157, z158, z159, z160, z161, z162, z163, z164, z165, z166, z167, z168, z169, z170, z171, z172, z173, z174, z175, z176, z177, z178, z179, z180, z181, z182, z183, z184, z185, z186, z187, z188, z189, z190, z191, z192, z193, z194, z195, z196, z197, z198, z199, z200, z201, z202, z203, z204, z205, z206, z207, z208, z209, z210, z211, z212, z213, z214, z215, z216, z217, z218, z219, z220, z221, z222, z223, z224, z225, z226, z227, z228, z229, z230, z231, z232, z233, z234, z235, z236, z237, z238, z239, z240, z241, z242, z243, z244, z245, z246, z247, z248, z249, z250, z251, z252, z253, z254, z255, z256, z257, z258, z259, z260, z261, z262, z263, z264, z265, z266, z267, z268, z269, z270, z271, z272, z273, z274, z275, z276, z277, z278, z279, z280, z281, z282, z283, z284, z285, z286, z287, z288, z289, z290, z291, z292, z293, z294, z295, z296, z297, z298, z299, z300, z301, z302, z303, z304, z305, z306, z307, z308, z309, z310, z311, z312, z313, z314, z315, z316, z317, z318, z319, z320, z321, z322, z323, z324, z325, z326, z327, z328, z329, z330, z331, z332, z333, z334, z335, z336, z337, z338, z339, z340, z341, z342, z343, z344, z345, z346, z347, z348, z349, z350, z351, z352, z353, z354, z355, z356, z357, z358, z359, z360, z361, z362, z363, z364, z365, z366, z367, z368, z369, z370, z371, z372, z373, z374, z375, z376, z377, z378, z379, z380, z381, z382, z383, z384, z385, z386, z387, z388, z389, z390, z391, z392, z393, z394, z395, z396, z397, z398, z399, z400, z401, z402, z403, z404, z405], defers := [] } wc := by
  replace hK := seq_of rfl hK
  refine region_of rfl ?_
  have HL := Aside0.mk (LvI_nil wc)
  have H := HA.out
  clear HA
  unfold bm_s2 at H
  replace H := Option.bind_eq_some_iff.mp H
  obtain ⟨⟨lx, m⟩, D1, H⟩ := H
  have D1 := Aside0.mk D1
  (try simp only at H)
  replace H := Option.bind_eq_some_iff.mp H
  obtain ⟨⟨lr, a1⟩, D2, H⟩ := H
  have D2 := Aside0.mk D2
  (try simp only at H)
  replace H := Option.bind_eq_some_iff.mp H
  obtain ⟨⟨ls, a2⟩, D3, H⟩ := H
  have D3 := Aside0.mk D3
  (try simp only at H)
  replace H := Option.bind_eq_some_iff.mp H
  obtain ⟨t, D4, H⟩ := H
  have D4 := Aside0.mk D4
  (try simp only at H)
  split at H
  case isFalse => cases H
  rename_i hq
  obtain ⟨q1, q2⟩ := hq
  subst q2
  cases q1
  have a_same : (a1 != a1) = false := by simp
  go_upto_region 39 with (first | ((with_reducible refine gate_callee (f := 17) rfl ?_); refine goesL_ (some 236) rfl rfl Tryz.func17 (by kernel_rfl) rfl #[.slice A1 l1.length c1] rfl (by (try simp only [List.map_toArray, List.map_cons, List.map_nil]); first | done | rfl) ?_; (with_reducible refine (spec_DrawMergeRun.calls k _ _ l1 lx m _ (Kd.C_below HR1.out HB.out) HC1.out D1.out).mono ?_); rintro e w9 ⟨v9, rfl, hr, hb⟩; refine ⟨_, rfl, ?_⟩; have HB' := Aside0.mk (below_step HB.out hb); have HL' := Aside0.mk (LvI_cons (LvI_below HL.out hb) (LvI_own hr)); clear HB HL hb hr; have HB := HB'; have HL := HL'; clear HB' HL'; obtain ⟨Ax, cx, ex⟩ := Kd.V_slice (show Kd.V (Kd.int .i64) 3 _ 0 (fun _ => True) v9 lx from HL.out (v9, lx) (by simp)); subst ex) | ((with_reducible refine gate_callee (f := 18) rfl ?_); refine goesL_ (some 242) rfl rfl Tryz.func18 (by kernel_rfl) rfl #[.slice Ax lx.length cx, .int .i64 m] rfl (by (try simp only [List.map_toArray, List.map_cons, List.map_nil]); first | done | rfl) ?_; (with_reducible refine (impl_MergeRun.calls k _ _ lx m lr a1 _ (Kd.V_reads' (LvI_get HL.out (.slice Ax lx.length cx) lx (by simp))).2.2 (Kd.V_reads' (LvI_get HL.out (.slice Ax lx.length cx) lx (by simp))).2.1 D2.out).mono ?_); rintro e w9 ⟨v9, rfl, hr, hb⟩; refine ⟨_, rfl, ?_⟩; have HB' := Aside0.mk (below_step HB.out hb); have HL' := Aside0.mk (LvI_cons (LvI_below HL.out hb) (LvI_own hr)); clear HB HL hb hr; have HB := HB'; have HL := HL'; clear HB' HL'; obtain ⟨Ar, cr, er⟩ := Kd.V_slice (show Kd.V (Kd.int .i64) 3 _ 0 (fun _ => True) v9 lr from HL.out (v9, lr) (by simp)); subst er) | ((with_reducible refine gate_callee (f := 19) rfl ?_); refine goesL_ (some 248) rfl rfl Tryz.func19 (by kernel_rfl) rfl #[.slice Ax lx.length cx, .int .i64 m] rfl (by (try simp only [List.map_toArray, List.map_cons, List.map_nil]); first | done | rfl) ?_; (with_reducible refine (spec_MergeRun.calls k _ _ lx m ls a1 _ (Kd.V_reads' (LvI_get HL.out (.slice Ax lx.length cx) lx (by simp))).2.2 (Kd.V_reads' (LvI_get HL.out (.slice Ax lx.length cx) lx (by simp))).2.1 D3.out).mono ?_); rintro e w9 ⟨v9, rfl, hr, hb⟩; refine ⟨_, rfl, ?_⟩; have HB' := Aside0.mk (below_step HB.out hb); have HL' := Aside0.mk (LvI_cons (LvI_below HL.out hb) (LvI_own hr)); clear HB HL hb hr; have HB := HB'; have HL := HL'; clear HB' HL'; obtain ⟨As, cs, es⟩ := Kd.V_slice (show Kd.V (Kd.int .i64) 3 _ 0 (fun _ => True) v9 ls from HL.out (v9, ls) (by simp)); subst es) | (go_at_call 12; (with_reducible refine (laws_ySame.calls k _ _ lr _ _ ls true _ (Kd.V_reads' (LvI_get HL.out (.slice Ar lr.length cr) lr (by simp))).2.2 (Kd.V_reads' (LvI_get HL.out (.slice Ar lr.length cr) lr (by simp))).2.1 (Kd.V_reads' (LvI_get HL.out (.slice As ls.length cs) ls (by simp))).2.2 (Kd.V_reads' (LvI_get HL.out (.slice As ls.length cs) ls (by simp))).2.1 D4.out).mono ?_); rintro e w9 ⟨rfl, hb⟩; have hb := bm_drawn hb; have HB' := Aside0.mk (below_step HB.out hb); have HL' := Aside0.mk (LvI_below HL.out hb); clear HB HL; have HB := HB'; have HL := HL'; clear HB' HL' hb))
  cases a1 with
  | false =>
    rw [if_neg (by simp)] at H
    have H' := Aside0.mk H
    clear H
    go_upto_region 48 with (fail)
    exact bm48 k A1 c1 l1 r w _ HR1 HC1 HB H' _ _ _ _ _ _ _ _ _ _ _ _ _ _ _ _ _ _ _ _ _ _ _ _ _ _ _ _ _ _ _ _ _ _ _ _ _ _ _ _ _ _ _ _ _ _ _ _ _ _ _ _ _ _ _ _ _ _ _ _ _ _ _ _ _ _ _ _ _ _ _ _ _ _ _ _ _ _ _ _ _ _ _ _ _ _ _ _ _ _ _ _ _ _ _ _ _ _ _ _ _ _ _ _ _ _ _ _ _ _ _ _ _ _ _ _ _ _ _ _ _ _ _ _ _ _ _ _ _ _ _ _ _ _ _ _ _ _ _ _ _ _ _ _ _ _ _ _ _ _ _ _ _ _ _ _ _ _ _ _ _ _ _ _ _ _ _ _ _ _ _ _ _ _ _ _ _ _ _ _ _ _ _ _ _ _ _ _ _ _ _ _ _ _ _ _ _ _ _ _ _ _ _ _ _ _ _ _ _ _ _ _ _ _ _ _ _ _ _ _ _ _ _ _ _ _ _ _ _ _ _ _ _ _ _ _ _ _ _ _ _ _ _ _ _ _ _ _ _ _ _ _ _ _ _ _ _ _ _ _ _ _ _ _ _ _ _ _ _ _ _ _ _ _ _ _ _ _ _ _ _ _ _ _ _ _ _ _ _ _ _ _ _ _ _ _ _ _ _ _ _ _ _ _ _ _ _ _ _ _ _ _ _ _ _ _ _ _ _ _ _ _ _ _ _ _ _ _ _ _ _ _ _ _ _ _ _ _ _ _ _ _ _ _ _ _ _ _ _ _ _ _ _ _ _ _ _ _ _ _ _ _ _ _ _ _ _ _ _ _ _ _ _ _ _ _ _ _ _ _ _ _ _ _ _ _ _ _ _ _ _ _ _ _ _ _ _ _ _ _ _ _ _ _ _ _ (by assumption)
  | true =>
    rw [if_pos rfl] at H
    replace H := Option.bind_eq_some_iff.mp H
    obtain ⟨⟨b1, b2⟩, D5, H⟩ := H
    have D5 := Aside0.mk D5
    (try simp only at H)
    replace H := Option.bind_eq_some_iff.mp H
    obtain ⟨s1, D6, H⟩ := H
    have D6 := Aside0.mk D6
    (try simp only at H)
    replace H := Option.bind_eq_some_iff.mp H
    obtain ⟨s2, D7, H⟩ := H
    have D7 := Aside0.mk D7
    (try simp only at H)
    split at H
    case isFalse => cases H
    rename_i hq
    obtain ⟨q1, q2, q3⟩ := hq
    subst q1
    have H' := Aside0.mk H
    have Q3 := Aside0.mk q3
    clear H q3
    rcases q2 with ⟨g1, g2, g3, g4⟩ | ⟨g1, g2, g3⟩
    · subst g2
      have f1 : decide ((1 : Int) < (lx.length : Int)) = true := decide_eq_true (by omega)
      have f2 : decide ((lx.length : Int) = 1) = false := decide_eq_false (by omega)
      have f2b : ((lx.length : Int) == 1) = false := by rw [beq_eq_false_iff_ne]; omega
      have f3 : (s1 != s1) = false := by simp
      have f4 : (s2 != s2) = false := by simp
      have f5 : (0 : Int) ≤ (lr.length : Int) - 1 := by omega
      have f6 : (lr.length : Int) - 1 < (lr.length : Int) := by omega
      obtain ⟨p, hp⟩ : ∃ p : Int, (lr.length : Int) - 1 = p := ⟨_, rfl⟩
      have hpw : IntKind.i64.wrap ((lr.length : Int) - 1) = p := by rw [← hp]; exact (i64_w _).trans (by have := (Kd.reads_of_C (enc := Value.int .i64) (d := (0 : Int)) (h1 := fun _ => rfl) (Kd.V_reads' (LvI_get HL.out (.slice Ar lr.length cr) lr (by simp))).2.2).2.1; unfold wrap64; omega)
      rw [hp] at f5 f6 g4
      have G4 := Aside0.mk g4
      have f5b : decide ((0 : Int) ≤ p) = true := decide_eq_true f5
      have f6b : decide (p < (lr.length : Int)) = true := decide_eq_true f6
      clear g1 g3 g4 hp
      go_upto_region 41 with (first | ((with_reducible refine gate_callee (f := 10) rfl ?_); refine goesL_ (some 264) rfl rfl Tryz.func10 (by kernel_rfl) rfl #[.slice Ax lx.length cx, .int .i64 m] rfl (by (try simp only [List.map_toArray, List.map_cons, List.map_nil]); first | done | rfl) ?_; (with_reducible refine (impl_BestCost.calls k _ _ lx m s1 true _ (Kd.V_reads' (LvI_get HL.out (.slice Ax lx.length cx) lx (by simp))).2.2 (Kd.V_reads' (LvI_get HL.out (.slice Ax lx.length cx) lx (by simp))).2.1 D5.out).mono ?_); rintro e w9 ⟨rfl, hb⟩; refine ⟨_, rfl, ?_⟩; have HB' := Aside0.mk (below_step HB.out hb); have HL' := Aside0.mk (LvI_below HL.out hb); clear HB HL; have HB := HB'; have HL := HL'; clear HB' HL' hb))
      obtain ⟨ad1, e1, hx1⟩ := Kd.at_int (Kd.V_reads' (LvI_get HL.out (.slice Ar lr.length cr) lr (by simp))).2.2 p f5 f6
      cases e1
      have g4b0 : (rd lr p == s2) = true := beq_iff_eq.mpr G4.out
      have g4b1 : (rd lr p != s2) = false := bne_eq_false_iff_eq.mpr G4.out
      try go_wp2
      have HL' := Aside0.mk (LvI_drew HL.out)
      have HB' := Aside0.mk (below_drew1 HB.out)
      clear HL HB
      have HL := HL'
      have HB := HB'
      clear HL' HB'
      replace hx1 : w9.drew.cell? (ad1.add p.toNat) = some (.int .i64 (rd lr p)) := hx1
      refine start_ (n := 41) (S := fun w' => w'.cell? (ad1.add ((p)).toNat) = some (.int .i64 (rd lr (p)))) (ds := []) #[false, false, false, false, false, false, false, false, false, false, false, false, false, false, false, false, false, false, false, false, false, false, false, false, false, false, false, false, false, false, false, false, false, false, false, false, false, false, false, false, false] (by kernel_rfl) rfl rfl (hx1) (fun hHeld => ?_); refine with_tabW bm_tab41 bm_bits41 (fun HT_ HW_ => ?_)
      generalize w9.drew = w119 at HL HB hx1 hHeld ⊢
      refine pure_ (i := 0) (N := some 267) (v := ?_) (a' := ?_) #[true, false, false, false, false, false, false, false, false, false, false, false, false, false, false, false, false, false, false, false, false, false, false, false, false, false, false, false, false, false, false, false, false, false, false, false, false, false, false, false, false] rfl rfl (any_of HT_.out (by kernel_rfl)) (fun _ _ _ h => h) (Or.inl ⟨by rfl, ?_⟩) ?_ ?_
      rotate_left
      · intro w'
        go_simp
        with_reducible rfl
      rotate_left
      · simp only [Act.put, List.setIfInBounds_toArray, List.set_cons_zero, List.set_cons_succ, i64_w, i32_w]
        rfl
      refine pure_ (i := 1) (N := some 268) (v := ?_) (a' := ?_) #[true, true, false, false, false, false, false, false, false, false, false, false, false, false, false, false, false, false, false, false, false, false, false, false, false, false, false, false, false, false, false, false, false, false, false, false, false, false, false, false, false] rfl rfl (any_of HT_.out (by kernel_rfl)) (fun _ _ _ h => h) (Or.inl ⟨by rfl, ?_⟩) ?_ ?_
      rotate_left
      · intro w'
        go_simp
        with_reducible rfl
      rotate_left
      · simp only [Act.put, List.setIfInBounds_toArray, List.set_cons_zero, List.set_cons_succ, i64_w, i32_w]
        rfl
      refine pure_ (i := 2) (N := some 269) (v := ?_) (a' := ?_) #[true, true, true, false, false, false, false, false, false, false, false, false, false, false, false, false, false, false, false, false, false, false, false, false, false, false, false, false, false, false, false, false, false, false, false, false, false, false, false, false, false] rfl rfl (any_of HT_.out (by kernel_rfl)) (fun _ _ _ h => h) (Or.inl ⟨by rfl, ?_⟩) ?_ ?_
      rotate_left
      · intro w'
        go_simp
        with_reducible rfl
      rotate_left
      · simp only [Act.put, List.setIfInBounds_toArray, List.set_cons_zero, List.set_cons_succ, i64_w, i32_w]
        rfl
      refine pure_ (i := 3) (N := some 270) (v := ?_) (a' := ?_) #[true, true, true, true, false, false, false, false, false, false, false, false, false, false, false, false, false, false, false, false, false, false, false, false, false, false, false, false, false, false, false, false, false, false, false, false, false, false, false, false, false] rfl rfl (any_of HT_.out (by kernel_rfl)) (fun _ _ _ h => h) (Or.inl ⟨by rfl, ?_⟩) ?_ ?_
      rotate_left
      · intro w'
        go_simp
        with_reducible rfl
      rotate_left
      · simp only [Act.put, List.setIfInBounds_toArray, List.set_cons_zero, List.set_cons_succ, i64_w, i32_w]
        rfl
      refine pure_ (i := 4) (N := some 271) (v := ?_) (a' := ?_) #[true, true, true, true, true, false, false, false, false, false, false, false, false, false, false, false, false, false, false, false, false, false, false, false, false, false, false, false, false, false, false, false, false, false, false, false, false, false, false, false, false] rfl rfl (any_of HT_.out (by kernel_rfl)) (fun _ _ _ h => h) (Or.inl ⟨by rfl, ?_⟩) ?_ ?_
      rotate_left
      · intro w'
        go_simp
        with_reducible rfl
      rotate_left
      · simp only [Act.put, List.setIfInBounds_toArray, List.set_cons_zero, List.set_cons_succ, i64_w, i32_w]
        rfl
      refine pure_ (i := 5) (N := some 272) (v := ?_) (a' := ?_) #[true, true, true, true, true, true, false, false, false, false, false, false, false, false, false, false, false, false, false, false, false, false, false, false, false, false, false, false, false, false, false, false, false, false, false, false, false, false, false, false, false] rfl rfl (any_of HT_.out (by kernel_rfl)) (fun _ _ _ h => h) (Or.inl ⟨by rfl, ?_⟩) ?_ ?_
      rotate_left
      · intro w'
        go_simp
        with_reducible rfl
      rotate_left
      · simp only [Act.put, List.setIfInBounds_toArray, List.set_cons_zero, List.set_cons_succ, i64_w, i32_w]
        rfl
      refine pure_ (i := 6) (N := some 273) (v := ?_) (a' := ?_) #[true, true, true, true, true, true, true, false, false, false, false, false, false, false, false, false, false, false, false, false, false, false, false, false, false, false, false, false, false, false, false, false, false, false, false, false, false, false, false, false, false] rfl rfl (any_of HT_.out (by kernel_rfl)) (fun _ _ _ h => h) (Or.inl ⟨by rfl, ?_⟩) ?_ ?_
      rotate_left
      · intro w'
        go_simp
        with_reducible rfl
      rotate_left
      · simp only [Act.put, List.setIfInBounds_toArray, List.set_cons_zero, List.set_cons_succ, i64_w, i32_w]
        rfl
      refine pure_ (i := 7) (N := some 274) (v := ?_) (a' := ?_) #[true, true, true, true, true, true, true, true, false, false, false, false, false, false, false, false, false, false, false, false, false, false, false, false, false, false, false, false, false, false, false, false, false, false, false, false, false, false, false, false, false] rfl rfl (any_of HT_.out (by kernel_rfl)) (fun _ _ _ h => h) (Or.inl ⟨by rfl, ?_⟩) ?_ ?_
      rotate_left
      · intro w'
        go_simp
        with_reducible rfl
      rotate_left
      · simp only [Act.put, List.setIfInBounds_toArray, List.set_cons_zero, List.set_cons_succ, i64_w, i32_w]
        rfl
      refine pure_ (i := 9) (N := some 276) (v := ?_) (a' := ?_) #[true, true, true, true, true, true, true, true, false, true, false, false, false, false, false, false, false, false, false, false, false, false, false, false, false, false, false, false, false, false, false, false, false, false, false, false, false, false, false, false, false] rfl rfl (any_of HT_.out (by kernel_rfl)) (fun _ _ _ h => h) (Or.inl ⟨by rfl, ?_⟩) ?_ ?_
      rotate_left
      · intro w'
        go_simp
        with_reducible rfl
      rotate_left
      · simp only [Act.put, List.setIfInBounds_toArray, List.set_cons_zero, List.set_cons_succ, i64_w, i32_w]
        rfl
      refine one_ (i := 8) (N := some 275) #[true, true, true, true, true, true, true, true, true, true, false, false, false, false, false, false, false, false, false, false, false, false, false, false, false, false, false, false, false, false, false, false, false, false, false, false, false, false, false, false, false] rfl rfl (one_of HT_.out (by kernel_rfl)) (by decide) (fun K hK => ?_)
      refine goes_ Tryz.func20 (by kernel_rfl) rfl #[.slice (some ad1) lr.length cr] (by rfl) rfl rfl (by (try simp only [List.map_toArray, List.map_cons, List.map_nil]); first | done | rfl | (simp only [List.length_drop, List.length_take]; rfl)) ?_
      with_reducible refine (laws_ySum.calls k _ _ lr s1 _ ?side1 ?side2 D6.out).mono ?_
      (case side1 => repeat (first | exact (Kd.V_reads' (LvI_get HL.out (.slice (some ad1) lr.length cr) lr (by simp))).2.2 | (with_reducible refine Kd.C_alloc ?_ _) | (with_reducible refine Kd.C_drewN ?_ _) | (with_reducible refine Kd.C_drew ?_)))
      (case side2 => exact (Kd.V_reads' (LvI_get HL.out (.slice (some ad1) lr.length cr) lr (by simp))).2.1)
      rintro e w' ⟨rfl, ⟨nd, rfl⟩⟩
      refine ⟨_, rfl, ?_⟩
      refine hK.out _ _ (hHeld) (fun hHeld => ?_)
      clear hK K
      refine norm_ (a' := ?_) ?_ ?_
      rotate_left
      · show Act.put _ (some 275) _ = _
        simp only [Act.put, List.setIfInBounds_toArray, List.set_cons_zero, List.set_cons_succ, i64_w, i32_w]
        rfl
      refine pure_ (i := 10) (N := some 277) (v := ?_) (a' := ?_) #[true, true, true, true, true, true, true, true, true, true, true, false, false, false, false, false, false, false, false, false, false, false, false, false, false, false, false, false, false, false, false, false, false, false, false, false, false, false, false, false, false] rfl rfl (any_of HT_.out (by kernel_rfl)) (fun _ _ _ h => h) (Or.inl ⟨by rfl, ?_⟩) ?_ ?_
      rotate_left
      · intro w'
        go_simp
        with_reducible rfl
      rotate_left
      · simp only [Act.put, List.setIfInBounds_toArray, List.set_cons_zero, List.set_cons_succ, i64_w, i32_w]
        rfl
      refine pure_ (i := 11) (N := some 278) (v := ?_) (a' := ?_) #[true, true, true, true, true, true, true, true, true, true, true, true, false, false, false, false, false, false, false, false, false, false, false, false, false, false, false, false, false, false, false, false, false, false, false, false, false, false, false, false, false] rfl rfl (any_of HT_.out (by kernel_rfl)) (fun _ _ _ h => h) (Or.inl ⟨by rfl, ?_⟩) ?_ ?_
      rotate_left
      · intro w'
        go_simp
        with_reducible rfl
      rotate_left
      · simp only [Act.put, List.setIfInBounds_toArray, List.set_cons_zero, List.set_cons_succ, i64_w, i32_w]
        rfl
      refine pure_ (i := 12) (N := some 279) (v := ?_) (a' := ?_) #[true, true, true, true, true, true, true, true, true, true, true, true, true, false, false, false, false, false, false, false, false, false, false, false, false, false, false, false, false, false, false, false, false, false, false, false, false, false, false, false, false] rfl rfl (any_of HT_.out (by kernel_rfl)) (fun _ _ _ h => h) (Or.inl ⟨by rfl, ?_⟩) ?_ ?_
      rotate_left
      · intro w'
        go_simp
        with_reducible rfl
      rotate_left
      · simp only [Act.put, List.setIfInBounds_toArray, List.set_cons_zero, List.set_cons_succ, i64_w, i32_w]
        rfl
      refine pure_ (i := 13) (N := some 280) (v := ?_) (a' := ?_) #[true, true, true, true, true, true, true, true, true, true, true, true, true, true, false, false, false, false, false, false, false, false, false, false, false, false, false, false, false, false, false, false, false, false, false, false, false, false, false, false, false] rfl rfl (any_of HT_.out (by kernel_rfl)) (fun _ _ _ h => h) (Or.inl ⟨by rfl, ?_⟩) ?_ ?_
      rotate_left
      · intro w'
        go_simp
        with_reducible rfl
      rotate_left
      · simp only [Act.put, List.setIfInBounds_toArray, List.set_cons_zero, List.set_cons_succ, i64_w, i32_w]
        rfl
      refine pure_ (i := 14) (N := some 281) (v := ?_) (a' := ?_) #[true, true, true, true, true, true, true, true, true, true, true, true, true, true, true, false, false, false, false, false, false, false, false, false, false, false, false, false, false, false, false, false, false, false, false, false, false, false, false, false, false] rfl rfl (any_of HT_.out (by kernel_rfl)) (fun _ _ _ h => h) (Or.inl ⟨by rfl, ?_⟩) ?_ ?_
      rotate_left
      · intro w'
        go_simp
        with_reducible rfl
      rotate_left
      · simp only [Act.put, List.setIfInBounds_toArray, List.set_cons_zero, List.set_cons_succ, i64_w, i32_w]
        rfl
      refine pure_ (i := 15) (N := some 282) (v := ?_) (a' := ?_) #[true, true, true, true, true, true, true, true, true, true, true, true, true, true, true, true, false, false, false, false, false, false, false, false, false, false, false, false, false, false, false, false, false, false, false, false, false, false, false, false, false] rfl rfl (any_of HT_.out (by kernel_rfl)) (fun _ _ _ h => h) (Or.inl ⟨by rfl, ?_⟩) ?_ ?_
      rotate_left
      · intro w'
        go_simp
        with_reducible rfl
      rotate_left
      · simp only [Act.put, List.setIfInBounds_toArray, List.set_cons_zero, List.set_cons_succ, i64_w, i32_w]
        rfl
      refine pure_ (i := 16) (N := some 283) (v := ?_) (a' := ?_) #[true, true, true, true, true, true, true, true, true, true, true, true, true, true, true, true, true, false, false, false, false, false, false, false, false, false, false, false, false, false, false, false, false, false, false, false, false, false, false, false, false] rfl rfl (any_of HT_.out (by kernel_rfl)) (fun _ _ _ h => h) (Or.inl ⟨by rfl, ?_⟩) ?_ ?_
      rotate_left
      · intro w'
        go_simp
        with_reducible rfl
      rotate_left
      · simp only [Act.put, List.setIfInBounds_toArray, List.set_cons_zero, List.set_cons_succ, i64_w, i32_w]
        rfl
      refine pure_ (i := 18) (N := some 285) (v := ?_) (a' := ?_) #[true, true, true, true, true, true, true, true, true, true, true, true, true, true, true, true, true, false, true, false, false, false, false, false, false, false, false, false, false, false, false, false, false, false, false, false, false, false, false, false, false] rfl rfl (any_of HT_.out (by kernel_rfl)) (fun _ _ _ h => h) (Or.inl ⟨by rfl, ?_⟩) ?_ ?_
      rotate_left
      · intro w'
        go_simp
        with_reducible rfl
      rotate_left
      · simp only [Act.put, List.setIfInBounds_toArray, List.set_cons_zero, List.set_cons_succ, i64_w, i32_w]
        rfl
      refine take_ (i := 17) (N := some 284) (v := ?_) (a' := ?_) #[true, true, true, true, true, true, true, true, true, true, true, true, true, true, true, true, true, true, true, false, false, false, false, false, false, false, false, false, false, false, false, false, false, false, false, false, false, false, false, false, false] rfl rfl (take_ofW HT_.out HW_.out (by kernel_rfl)) (fun _ _ _ h => h) (Or.inl ⟨by rfl, ?_⟩) hHeld ?_ ?_
      rotate_left
      · intro w' s0
        go_simp
        with_reducible rfl
      rotate_left
      · simp only [Act.put, List.setIfInBounds_toArray, List.set_cons_zero, List.set_cons_succ, i64_w, i32_w]
        rfl
      refine one_ (i := 19) (N := some 286) #[true, true, true, true, true, true, true, true, true, true, true, true, true, true, true, true, true, true, true, true, false, false, false, false, false, false, false, false, false, false, false, false, false, false, false, false, false, false, false, false, false] rfl rfl (one_of HT_.out (by kernel_rfl)) (by decide) (fun K hK => ?_)
      refine goes_ Tryz.func20 (by kernel_rfl) rfl #[.slice Ax lx.length cx] (by rfl) rfl rfl (by (try simp only [List.map_toArray, List.map_cons, List.map_nil]); first | done | rfl | (simp only [List.length_drop, List.length_take]; rfl)) ?_
      with_reducible refine (laws_ySum.calls k _ _ lx s2 _ ?side1 ?side2 D7.out).mono ?_
      (case side1 => repeat (first | exact (Kd.V_reads' (LvI_get HL.out (.slice Ax lx.length cx) lx (by simp))).2.2 | (with_reducible refine Kd.C_alloc ?_ _) | (with_reducible refine Kd.C_drewN ?_ _) | (with_reducible refine Kd.C_drew ?_)))
      (case side2 => exact (Kd.V_reads' (LvI_get HL.out (.slice Ax lx.length cx) lx (by simp))).2.1)
      rintro e w' ⟨rfl, ⟨nd, rfl⟩⟩
      refine ⟨_, rfl, ?_⟩
      refine hK.out _ _ (hHeld) (fun hHeld => ?_)
      clear hK K
      refine norm_ (a' := ?_) ?_ ?_
      rotate_left
      · show Act.put _ (some 286) _ = _
        simp only [Act.put, List.setIfInBounds_toArray, List.set_cons_zero, List.set_cons_succ, i64_w, i32_w]
        rfl
      refine pure_ (i := 20) (N := some 287) (v := ?_) (a' := ?_) #[true, true, true, true, true, true, true, true, true, true, true, true, true, true, true, true, true, true, true, true, true, false, false, false, false, false, false, false, false, false, false, false, false, false, false, false, false, false, false, false, false] rfl rfl (any_of HT_.out (by kernel_rfl)) (fun _ _ _ h => h) (Or.inl ⟨by rfl, ?_⟩) ?_ ?_
      rotate_left
      · intro w'
        go_simp
        with_reducible rfl
      rotate_left
      · simp only [Act.put, List.setIfInBounds_toArray, List.set_cons_zero, List.set_cons_succ, i64_w, i32_w]
        rfl
      refine pure_ (i := 21) (N := some 288) (v := ?_) (a' := ?_) #[true, true, true, true, true, true, true, true, true, true, true, true, true, true, true, true, true, true, true, true, true, true, false, false, false, false, false, false, false, false, false, false, false, false, false, false, false, false, false, false, false] rfl rfl (any_of HT_.out (by kernel_rfl)) (fun _ _ _ h => h) (Or.inl ⟨by rfl, ?_⟩) ?_ ?_
      rotate_left
      · intro w'
        go_simp
        with_reducible rfl
      rotate_left
      · simp only [Act.put, List.setIfInBounds_toArray, List.set_cons_zero, List.set_cons_succ, i64_w, i32_w]
        rfl
      refine pure_ (i := 22) (N := some 289) (v := ?_) (a' := ?_) #[true, true, true, true, true, true, true, true, true, true, true, true, true, true, true, true, true, true, true, true, true, true, true, false, false, false, false, false, false, false, false, false, false, false, false, false, false, false, false, false, false] rfl rfl (any_of HT_.out (by kernel_rfl)) (fun _ _ _ h => h) (Or.inl ⟨by rfl, ?_⟩) ?_ ?_
      rotate_left
      · intro w'
        go_simp
        with_reducible rfl
      rotate_left
      · simp only [Act.put, List.setIfInBounds_toArray, List.set_cons_zero, List.set_cons_succ, i64_w, i32_w]
        rfl
      refine pure_ (i := 23) (N := some 290) (v := ?_) (a' := ?_) #[true, true, true, true, true, true, true, true, true, true, true, true, true, true, true, true, true, true, true, true, true, true, true, true, false, false, false, false, false, false, false, false, false, false, false, false, false, false, false, false, false] rfl rfl (any_of HT_.out (by kernel_rfl)) (fun _ _ _ h => h) (Or.inl ⟨by rfl, ?_⟩) ?_ ?_
      rotate_left
      · intro w'
        go_simp
        with_reducible rfl
      rotate_left
      · simp only [Act.put, List.setIfInBounds_toArray, List.set_cons_zero, List.set_cons_succ, i64_w, i32_w]
        rfl
      refine pure_ (i := 24) (N := some 291) (v := ?_) (a' := ?_) #[true, true, true, true, true, true, true, true, true, true, true, true, true, true, true, true, true, true, true, true, true, true, true, true, true, false, false, false, false, false, false, false, false, false, false, false, false, false, false, false, false] rfl rfl (any_of HT_.out (by kernel_rfl)) (fun _ _ _ h => h) (Or.inl ⟨by rfl, ?_⟩) ?_ ?_
      rotate_left
      · intro w'
        go_simp
        with_reducible rfl
      rotate_left
      · simp only [Act.put, List.setIfInBounds_toArray, List.set_cons_zero, List.set_cons_succ, i64_w, i32_w]
        rfl
      refine pure_ (i := 25) (N := some 292) (v := ?_) (a' := ?_) #[true, true, true, true, true, true, true, true, true, true, true, true, true, true, true, true, true, true, true, true, true, true, true, true, true, true, false, false, false, false, false, false, false, false, false, false, false, false, false, false, false] rfl rfl (any_of HT_.out (by kernel_rfl)) (fun _ _ _ h => h) (Or.inl ⟨by rfl, ?_⟩) ?_ ?_
      rotate_left
      · intro w'
        go_simp
        with_reducible rfl
      rotate_left
      · simp only [Act.put, List.setIfInBounds_toArray, List.set_cons_zero, List.set_cons_succ, i64_w, i32_w]
        rfl
      refine pure_ (i := 26) (N := some 293) (v := ?_) (a' := ?_) #[true, true, true, true, true, true, true, true, true, true, true, true, true, true, true, true, true, true, true, true, true, true, true, true, true, true, true, false, false, false, false, false, false, false, false, false, false, false, false, false, false] rfl rfl (any_of HT_.out (by kernel_rfl)) (fun _ _ _ h => h) (Or.inl ⟨by rfl, ?_⟩) ?_ ?_
      rotate_left
      · intro w'
        go_simp
        with_reducible rfl
      rotate_left
      · simp only [Act.put, List.setIfInBounds_toArray, List.set_cons_zero, List.set_cons_succ, i64_w, i32_w]
        rfl
      refine pure_ (i := 27) (N := some 294) (v := ?_) (a' := ?_) #[true, true, true, true, true, true, true, true, true, true, true, true, true, true, true, true, true, true, true, true, true, true, true, true, true, true, true, true, false, false, false, false, false, false, false, false, false, false, false, false, false] rfl rfl (any_of HT_.out (by kernel_rfl)) (fun _ _ _ h => h) (Or.inl ⟨by rfl, ?_⟩) ?_ ?_
      rotate_left
      · intro w'
        go_simp
        with_reducible rfl
      rotate_left
      · simp only [Act.put, List.setIfInBounds_toArray, List.set_cons_zero, List.set_cons_succ, i64_w, i32_w]
        rfl
      refine pure_ (i := 28) (N := some 295) (v := ?_) (a' := ?_) #[true, true, true, true, true, true, true, true, true, true, true, true, true, true, true, true, true, true, true, true, true, true, true, true, true, true, true, true, true, false, false, false, false, false, false, false, false, false, false, false, false] rfl rfl (any_of HT_.out (by kernel_rfl)) (fun _ _ _ h => h) (Or.inl ⟨by rfl, ?_⟩) ?_ ?_
      rotate_left
      · intro w'
        go_simp
        with_reducible rfl
      rotate_left
      · simp only [Act.put, List.setIfInBounds_toArray, List.set_cons_zero, List.set_cons_succ, i64_w, i32_w]
        rfl
      refine pure_ (i := 29) (N := some 296) (v := undef) (a' := ?_) #[true, true, true, true, true, true, true, true, true, true, true, true, true, true, true, true, true, true, true, true, true, true, true, true, true, true, true, true, true, true, false, false, false, false, false, false, false, false, false, false, false] rfl rfl (any_of HT_.out (by kernel_rfl)) (fun _ _ _ h => h) (Or.inr ⟨by rfl, rfl⟩) ?_ ?_
      rotate_left
      · simp only [Act.put, List.setIfInBounds_toArray, List.set_cons_zero, List.set_cons_succ, i64_w, i32_w]
        rfl
      refine pure_ (i := 30) (N := some 297) (v := undef) (a' := ?_) #[true, true, true, true, true, true, true, true, true, true, true, true, true, true, true, true, true, true, true, true, true, true, true, true, true, true, true, true, true, true, true, false, false, false, false, false, false, false, false, false, false] rfl rfl (any_of HT_.out (by kernel_rfl)) (fun _ _ _ h => h) (Or.inr ⟨by rfl, rfl⟩) ?_ ?_
      rotate_left
      · simp only [Act.put, List.setIfInBounds_toArray, List.set_cons_zero, List.set_cons_succ, i64_w, i32_w]
        rfl
      refine pure_ (i := 31) (N := some 298) (v := undef) (a' := ?_) #[true, true, true, true, true, true, true, true, true, true, true, true, true, true, true, true, true, true, true, true, true, true, true, true, true, true, true, true, true, true, true, true, false, false, false, false, false, false, false, false, false] rfl rfl (any_of HT_.out (by kernel_rfl)) (fun _ _ _ h => h) (Or.inr ⟨by rfl, rfl⟩) ?_ ?_
      rotate_left
      · simp only [Act.put, List.setIfInBounds_toArray, List.set_cons_zero, List.set_cons_succ, i64_w, i32_w]
        rfl
      refine pure_ (i := 32) (N := some 299) (v := undef) (a' := ?_) #[true, true, true, true, true, true, true, true, true, true, true, true, true, true, true, true, true, true, true, true, true, true, true, true, true, true, true, true, true, true, true, true, true, false, false, false, false, false, false, false, false] rfl rfl (any_of HT_.out (by kernel_rfl)) (fun _ _ _ h => h) (Or.inr ⟨by rfl, rfl⟩) ?_ ?_
      rotate_left
      · simp only [Act.put, List.setIfInBounds_toArray, List.set_cons_zero, List.set_cons_succ, i64_w, i32_w]
        rfl
      refine pure_ (i := 33) (N := some 300) (v := undef) (a' := ?_) #[true, true, true, true, true, true, true, true, true, true, true, true, true, true, true, true, true, true, true, true, true, true, true, true, true, true, true, true, true, true, true, true, true, true, false, false, false, false, false, false, false] rfl rfl (any_of HT_.out (by kernel_rfl)) (fun _ _ _ h => h) (Or.inr ⟨by rfl, rfl⟩) ?_ ?_
      rotate_left
      · simp only [Act.put, List.setIfInBounds_toArray, List.set_cons_zero, List.set_cons_succ, i64_w, i32_w]
        rfl
      refine pure_ (i := 34) (N := some 301) (v := undef) (a' := ?_) #[true, true, true, true, true, true, true, true, true, true, true, true, true, true, true, true, true, true, true, true, true, true, true, true, true, true, true, true, true, true, true, true, true, true, true, false, false, false, false, false, false] rfl rfl (any_of HT_.out (by kernel_rfl)) (fun _ _ _ h => h) (Or.inr ⟨by rfl, rfl⟩) ?_ ?_
      rotate_left
      · simp only [Act.put, List.setIfInBounds_toArray, List.set_cons_zero, List.set_cons_succ, i64_w, i32_w]
        rfl
      refine pure_ (i := 35) (N := some 302) (v := undef) (a' := ?_) #[true, true, true, true, true, true, true, true, true, true, true, true, true, true, true, true, true, true, true, true, true, true, true, true, true, true, true, true, true, true, true, true, true, true, true, true, false, false, false, false, false] rfl rfl (any_of HT_.out (by kernel_rfl)) (fun _ _ _ h => h) (Or.inr ⟨by rfl, rfl⟩) ?_ ?_
      rotate_left
      · simp only [Act.put, List.setIfInBounds_toArray, List.set_cons_zero, List.set_cons_succ, i64_w, i32_w]
        rfl
      refine pure_ (i := 36) (N := some 303) (v := undef) (a' := ?_) #[true, true, true, true, true, true, true, true, true, true, true, true, true, true, true, true, true, true, true, true, true, true, true, true, true, true, true, true, true, true, true, true, true, true, true, true, true, false, false, false, false] rfl rfl (any_of HT_.out (by kernel_rfl)) (fun _ _ _ h => h) (Or.inr ⟨by rfl, rfl⟩) ?_ ?_
      rotate_left
      · simp only [Act.put, List.setIfInBounds_toArray, List.set_cons_zero, List.set_cons_succ, i64_w, i32_w]
        rfl
      refine pure_ (i := 37) (N := some 304) (v := undef) (a' := ?_) #[true, true, true, true, true, true, true, true, true, true, true, true, true, true, true, true, true, true, true, true, true, true, true, true, true, true, true, true, true, true, true, true, true, true, true, true, true, true, false, false, false] rfl rfl (any_of HT_.out (by kernel_rfl)) (fun _ _ _ h => h) (Or.inr ⟨by rfl, rfl⟩) ?_ ?_
      rotate_left
      · simp only [Act.put, List.setIfInBounds_toArray, List.set_cons_zero, List.set_cons_succ, i64_w, i32_w]
        rfl
      refine pure_ (i := 38) (N := some 305) (v := undef) (a' := ?_) #[true, true, true, true, true, true, true, true, true, true, true, true, true, true, true, true, true, true, true, true, true, true, true, true, true, true, true, true, true, true, true, true, true, true, true, true, true, true, true, false, false] rfl rfl (any_of HT_.out (by kernel_rfl)) (fun _ _ _ h => h) (Or.inr ⟨by rfl, rfl⟩) ?_ ?_
      rotate_left
      · simp only [Act.put, List.setIfInBounds_toArray, List.set_cons_zero, List.set_cons_succ, i64_w, i32_w]
        rfl
      refine pure_ (i := 39) (N := some 306) (v := ?_) (a' := ?_) #[true, true, true, true, true, true, true, true, true, true, true, true, true, true, true, true, true, true, true, true, true, true, true, true, true, true, true, true, true, true, true, true, true, true, true, true, true, true, true, true, false] rfl rfl (any_of HT_.out (by kernel_rfl)) (fun _ _ _ h => h) (Or.inl ⟨by rfl, ?_⟩) ?_ ?_
      rotate_left
      · intro w'
        go_simp
        with_reducible rfl
      rotate_left
      · simp only [Act.put, List.setIfInBounds_toArray, List.set_cons_zero, List.set_cons_succ, i64_w, i32_w]
        rfl
      refine pure_ (i := 40) (N := some 307) (v := ?_) (a' := ?_) #[true, true, true, true, true, true, true, true, true, true, true, true, true, true, true, true, true, true, true, true, true, true, true, true, true, true, true, true, true, true, true, true, true, true, true, true, true, true, true, true, true] rfl rfl (any_of HT_.out (by kernel_rfl)) (fun _ _ _ h => h) (Or.inl ⟨by rfl, ?_⟩) ?_ ?_
      rotate_left
      · intro w'
        go_simp
        with_reducible rfl
      rotate_left
      · simp only [Act.put, List.setIfInBounds_toArray, List.set_cons_zero, List.set_cons_succ, i64_w, i32_w]
        rfl
      refine done_ (done_of HT_.out (by kernel_rfl)) ?_
      try go_wp2
      go_loopg [39] lr.length (fun g v39 w' => ∃ i : Nat, v39 = .int .i64 (i : Int) ∧ Aside0 (1 ≤ i ∧ lr.length - i ≤ g) ∧ Aside0 (LvI w' [(.slice (some ad1) lr.length cr, lr)]) ∧ Aside0 (Below w.heap.size w w'))
      case atStart => exact ⟨1, rfl, ⟨Nat.le_refl _, by omega⟩, ⟨LvI_sub (by repeat (first | (with_reducible exact HL.out) | apply LvI_drewN | apply LvI_drew)) (by simp)⟩, ⟨(by repeat (first | (with_reducible exact HB.out) | apply pw_below_drewN | apply below_drew1))⟩⟩
      case round =>
        clear HL HB
        obtain ⟨i, rfl, HI, HL, HB⟩ := hrel
        have hi1 := HI.out.1
        by_cases c3 : i < lr.length
        · have c3a : (i : Int) < (lr.length : Int) := by omega
          have c3b : decide ((i : Int) < (lr.length : Int)) = true := decide_eq_true c3a
          have c3c : (0 : Int) ≤ (i : Int) := by omega
          have c3d : (i : Int) + 1 ≤ 9223372036854775807 := by have := (Kd.reads_of_C (enc := Value.int .i64) (d := (0 : Int)) (h1 := fun _ => rfl) (Kd.V_reads' (LvI_get HL.out (.slice (some ad1) lr.length cr) lr (by simp))).2.2).2.1; omega
          have c3e : (0 : Int) ≤ (i : Int) - 1 := by omega
          have c3f : (i : Int) - 1 < (lr.length : Int) := by omega
          have hup : decide (rd lr (i : Int) < rd lr ((i : Int) - 1)) = false := by
            have h := Q3.out
            unfold bmUp at h
            have h := List.all_eq_true.1 h i (List.mem_range.2 c3)
            rw [decide_eq_false (show ¬ i = 0 by omega), Bool.false_or, Bool.not_eq_true'] at h
            exact h
          obtain ⟨q, hq⟩ : ∃ q : Int, (i : Int) - 1 = q := ⟨_, rfl⟩
          have hqw : IntKind.i64.wrap ((i : Int) - 1) = q := by rw [← hq]; exact (i64_w _).trans (by unfold wrap64; omega)
          rw [hq] at c3e c3f hup
          have c3g : decide ((0 : Int) ≤ (i : Int)) = true := decide_eq_true c3c
          have c3h : decide ((0 : Int) ≤ q) = true := decide_eq_true c3e
          have c3i : decide (q < (lr.length : Int)) = true := decide_eq_true c3f
          clear hq
          obtain ⟨ad4, e1, hx4⟩ := Kd.at_int (Kd.V_reads' (LvI_get HL.out (.slice (some ad1) lr.length cr) lr (by simp))).2.2 (i : Int) c3c c3a
          obtain rfl : ad1 = ad4 := (by injection e1)
          obtain ⟨ad5, e2, hx5⟩ := Kd.at_int (Kd.V_reads' (LvI_get HL.out (.slice (some ad1) lr.length cr) lr (by simp))).2.2 q c3e c3f
          obtain rfl : ad1 = ad5 := (by injection e2)
          try go_wp2
          have HL' := Aside0.mk (LvI_drew HL.out)
          have HB' := Aside0.mk (below_drew1 HB.out)
          clear HL HB
          have HL := HL'
          have HB := HB'
          clear HL' HB'
          replace hx4 : wr.drew.cell? (ad1.add i) = some (.int .i64 (rd lr (i : Int))) := hx4
          replace hx5 : wr.drew.cell? (ad1.add q.toNat) = some (.int .i64 (rd lr q)) := hx5
          refine start_ (n := 10) (S := fun w' => w'.cell? (ad1.add i) = some (.int .i64 (rd lr (i : Int))) ∧ w'.cell? (ad1.add ((q)).toNat) = some (.int .i64 (rd lr (q)))) (ds := []) #[false, false, false, false, false, false, false, false, false, false] (by kernel_rfl) rfl rfl ⟨hx4, hx5⟩ (fun hHeld => ?_); refine with_tabW bm_tab46 bm_bits46 (fun HT_ HW_ => ?_)
          generalize wr.drew = w144 at HL HB hx4 hx5 hHeld ⊢
          refine pure_ (i := 0) (N := some 314) (v := ?_) (a' := ?_) #[true, false, false, false, false, false, false, false, false, false] rfl rfl (any_of HT_.out (by kernel_rfl)) (fun _ _ _ h => h) (Or.inl ⟨by rfl, ?_⟩) ?_ ?_
          rotate_left
          · intro w'
            go_simp
            with_reducible rfl
          rotate_left
          · simp only [Act.put, List.setIfInBounds_toArray, List.set_cons_zero, List.set_cons_succ, i64_w, i32_w]
            rfl
          refine pure_ (i := 1) (N := some 315) (v := ?_) (a' := ?_) #[true, true, false, false, false, false, false, false, false, false] rfl rfl (any_of HT_.out (by kernel_rfl)) (fun _ _ _ h => h) (Or.inl ⟨by rfl, ?_⟩) ?_ ?_
          rotate_left
          · intro w'
            go_simp
            with_reducible rfl
          rotate_left
          · simp only [Act.put, List.setIfInBounds_toArray, List.set_cons_zero, List.set_cons_succ, i64_w, i32_w]
            rfl
          refine pure_ (i := 2) (N := some 316) (v := ?_) (a' := ?_) #[true, true, true, false, false, false, false, false, false, false] rfl rfl (any_of HT_.out (by kernel_rfl)) (fun _ _ _ h => h) (Or.inl ⟨by rfl, ?_⟩) ?_ ?_
          rotate_left
          · intro w'
            go_simp
            with_reducible rfl
          rotate_left
          · simp only [Act.put, List.setIfInBounds_toArray, List.set_cons_zero, List.set_cons_succ, i64_w, i32_w]
            rfl
          refine pure_ (i := 4) (N := some 318) (v := ?_) (a' := ?_) #[true, true, true, false, true, false, false, false, false, false] rfl rfl (any_of HT_.out (by kernel_rfl)) (fun _ _ _ h => h) (Or.inl ⟨by rfl, ?_⟩) ?_ ?_
          rotate_left
          · intro w'
            go_simp
            with_reducible rfl
          rotate_left
          · simp only [Act.put, List.setIfInBounds_toArray, List.set_cons_zero, List.set_cons_succ, i64_w, i32_w]
            rfl
          refine pure_ (i := 5) (N := some 319) (v := ?_) (a' := ?_) #[true, true, true, false, true, true, false, false, false, false] rfl rfl (any_of HT_.out (by kernel_rfl)) (fun _ _ _ h => h) (Or.inl ⟨by rfl, ?_⟩) ?_ ?_
          rotate_left
          · intro w'
            go_simp
            with_reducible rfl
          rotate_left
          · simp only [Act.put, List.setIfInBounds_toArray, List.set_cons_zero, List.set_cons_succ, i64_w, i32_w]
            rfl
          refine pure_ (i := 6) (N := some 320) (v := ?_) (a' := ?_) #[true, true, true, false, true, true, true, false, false, false] rfl rfl (any_of HT_.out (by kernel_rfl)) (fun _ _ _ h => h) (Or.inl ⟨by rfl, ?_⟩) ?_ ?_
          rotate_left
          · intro w'
            go_simp
            with_reducible rfl
          rotate_left
          · simp only [Act.put, List.setIfInBounds_toArray, List.set_cons_zero, List.set_cons_succ, i64_w, i32_w]
            rfl
          refine pure_ (i := 7) (N := some 321) (v := ?_) (a' := ?_) #[true, true, true, false, true, true, true, true, false, false] rfl rfl (any_of HT_.out (by kernel_rfl)) (fun _ _ _ h => h) (Or.inl ⟨by rfl, ?_⟩) ?_ ?_
          rotate_left
          · intro w'
            go_simp
            with_reducible rfl
          rotate_left
          · simp only [Act.put, List.setIfInBounds_toArray, List.set_cons_zero, List.set_cons_succ, i64_w, i32_w]
            rfl
          refine take_ (i := 3) (N := some 317) (v := ?_) (a' := ?_) #[true, true, true, true, true, true, true, true, false, false] rfl rfl (take_ofW HT_.out HW_.out (by kernel_rfl)) (fun _ _ _ h => h) (Or.inl ⟨by rfl, ?_⟩) hHeld ?_ ?_
          rotate_left
          · rintro w' ⟨s0, s1⟩
            go_simp
            with_reducible rfl
          rotate_left
          · simp only [Act.put, List.setIfInBounds_toArray, List.set_cons_zero, List.set_cons_succ, i64_w, i32_w]
            rfl
          refine take_ (i := 8) (N := some 322) (v := ?_) (a' := ?_) #[true, true, true, true, true, true, true, true, true, false] rfl rfl (take_ofW HT_.out HW_.out (by kernel_rfl)) (fun _ _ _ h => h) (Or.inl ⟨by rfl, ?_⟩) hHeld ?_ ?_
          rotate_left
          · rintro w' ⟨s0, s1⟩
            go_simp
            with_reducible rfl
          rotate_left
          · simp only [Act.put, List.setIfInBounds_toArray, List.set_cons_zero, List.set_cons_succ, i64_w, i32_w]
            rfl
          refine pure_ (i := 9) (N := some 323) (v := ?_) (a' := ?_) #[true, true, true, true, true, true, true, true, true, true] rfl rfl (any_of HT_.out (by kernel_rfl)) (fun _ _ _ h => h) (Or.inl ⟨by rfl, ?_⟩) ?_ ?_
          rotate_left
          · intro w'
            go_simp
            with_reducible rfl
          rotate_left
          · simp only [Act.put, List.setIfInBounds_toArray, List.set_cons_zero, List.set_cons_succ, i64_w, i32_w]
            rfl
          refine done_ (done_of HT_.out (by kernel_rfl)) ?_
          try go_wp2
          go_roundg (lr.length - (i + 1))
          case measure => have := HI.out.2; omega
          case rel => exact ⟨i + 1, by simp, ⟨by omega, by omega⟩, ⟨(by repeat (first | (with_reducible exact HL.out) | apply LvI_drewN | apply LvI_drew))⟩, ⟨(by repeat (first | (with_reducible exact HB.out) | apply pw_below_drewN | apply below_drew1))⟩⟩
        · have c3a : ¬ (i : Int) < (lr.length : Int) := by omega
          have c3b : decide ((i : Int) < (lr.length : Int)) = false := decide_eq_false c3a
          go_upto_region 48 with (fail)
          exact bm48 k A1 c1 l1 r w _ HR1 HC1 HB H' _ _ _ _ _ _ _ _ _ _ _ _ _ _ _ _ _ _ _ _ _ _ _ _ _ _ _ _ _ _ _ _ _ _ _ _ _ _ _ _ _ _ _ _ _ _ _ _ _ _ _ _ _ _ _ _ _ _ _ _ _ _ _ _ _ _ _ _ _ _ _ _ _ _ _ _ _ _ _ _ _ _ _ _ _ _ _ _ _ _ _ _ _ _ _ _ _ _ _ _ _ _ _ _ _ _ _ _ _ _ _ _ _ _ _ _ _ _ _ _ _ _ _ _ _ _ _ _ _ _ _ _ _ _ _ _ _ _ _ _ _ _ _ _ _ _ _ _ _ _ _ _ _ _ _ _ _ _ _ _ _ _ _ _ _ _ _ _ _ _ _ _ _ _ _ _ _ _ _ _ _ _ _ _ _ _ _ _ _ _ _ _ _ _ _ _ _ _ _ _ _ _ _ _ _ _ _ _ _ _ _ _ _ _ _ _ _ _ _ _ _ _ _ _ _ _ _ _ _ _ _ _ _ _ _ _ _ _ _ _ _ _ _ _ _ _ _ _ _ _ _ _ _ _ _ _ _ _ _ _ _ _ _ _ _ _ _ _ _ _ _ _ _ _ _ _ _ _ _ _ _ _ _ _ _ _ _ _ _ _ _ _ _ _ _ _ _ _ _ _ _ _ _ _ _ _ _ _ _ _ _ _ _ _ _ _ _ _ _ _ _ _ _ _ _ _ _ _ _ _ _ _ _ _ _ _ _ _ _ _ _ _ _ _ _ _ _ _ _ _ _ _ _ _ _ _ _ _ _ _ _ _ _ _ _ _ _ _ _ _ _ _ _ _ _ _ _ _ _ _ _ _ _ _ _ _ _ _ _ _ _ _ _ _ _ _ _ _ _ _ _ _ _ _ _ _ (by assumption)
    · subst g3
      have f1 : decide ((1 : Int) < (lx.length : Int)) = false := decide_eq_false (by omega)
      have f2 : decide ((lx.length : Int) = 1) = true := decide_eq_true (by omega)
      have f2b : ((lx.length : Int) == 1) = true := by rw [beq_iff_eq]; omega
      have f3 : decide ((0 : Int) < (lr.length : Int)) = false := decide_eq_false (by omega)
      have f4 : (rd lx 0 != rd lx 0) = false := by simp
      have f1b : decide (1 < lx.length) = false := decide_eq_false (by omega)
      have f3b : decide (0 < lr.length) = false := decide_eq_false (by omega)
      have f5c : decide (0 < lx.length) = true := decide_eq_true (by omega)
      have f5 : (0 : Int) < (lx.length : Int) := by omega
      have f5b : decide ((0 : Int) < (lx.length : Int)) = true := decide_eq_true f5
      clear g1
      go_upto_region 41 with (first | ((with_reducible refine gate_callee (f := 10) rfl ?_); refine goesL_ (some 264) rfl rfl Tryz.func10 (by kernel_rfl) rfl #[.slice Ax lx.length cx, .int .i64 m] rfl (by (try simp only [List.map_toArray, List.map_cons, List.map_nil]); first | done | rfl) ?_; (with_reducible refine (impl_BestCost.calls k _ _ lx m (rd lx 0) true _ (Kd.V_reads' (LvI_get HL.out (.slice Ax lx.length cx) lx (by simp))).2.2 (Kd.V_reads' (LvI_get HL.out (.slice Ax lx.length cx) lx (by simp))).2.1 D5.out).mono ?_); rintro e w9 ⟨rfl, hb⟩; refine ⟨_, rfl, ?_⟩; have HB' := Aside0.mk (below_step HB.out hb); have HL' := Aside0.mk (LvI_below HL.out hb); clear HB HL; have HB := HB'; have HL := HL'; clear HB' HL' hb))
      obtain ⟨ad1, e1, hx1⟩ := Kd.at_int (Kd.V_reads' (LvI_get HL.out (.slice Ax lx.length cx) lx (by simp))).2.2 0 (by decide) f5
      cases e1
      have qi1 : (0 < lx.length) = True := eq_true (by omega)
      (try rw [show ((0 : Int)).toNat = 0 from rfl] at hx1)
      (try rw [Addr.add_zero'] at hx1)
      try go_wp2
      have HL' := Aside0.mk (LvI_drew HL.out)
      have HB' := Aside0.mk (below_drew1 HB.out)
      clear HL HB
      have HL := HL'
      have HB := HB'
      clear HL' HB'
      replace hx1 : w9.drew.cell? ad1 = some (.int .i64 (rd lx 0)) := hx1
      refine start_ (n := 41) (S := fun w' => w'.cell? ad1 = some (.int .i64 (rd lx 0))) (ds := []) #[false, false, false, false, false, false, false, false, false, false, false, false, false, false, false, false, false, false, false, false, false, false, false, false, false, false, false, false, false, false, false, false, false, false, false, false, false, false, false, false, false] (by kernel_rfl) rfl rfl (hx1) (fun hHeld => ?_); refine with_tabW bm_tab41 bm_bits41 (fun HT_ HW_ => ?_)
      generalize w9.drew = w130 at HL HB hx1 hHeld ⊢
      refine pure_ (i := 0) (N := some 267) (v := ?_) (a' := ?_) #[true, false, false, false, false, false, false, false, false, false, false, false, false, false, false, false, false, false, false, false, false, false, false, false, false, false, false, false, false, false, false, false, false, false, false, false, false, false, false, false, false] rfl rfl (any_of HT_.out (by kernel_rfl)) (fun _ _ _ h => h) (Or.inl ⟨by rfl, ?_⟩) ?_ ?_
      rotate_left
      · intro w'
        go_simp
        with_reducible rfl
      rotate_left
      · simp only [Act.put, List.setIfInBounds_toArray, List.set_cons_zero, List.set_cons_succ, i64_w, i32_w]
        rfl
      refine pure_ (i := 1) (N := some 268) (v := ?_) (a' := ?_) #[true, true, false, false, false, false, false, false, false, false, false, false, false, false, false, false, false, false, false, false, false, false, false, false, false, false, false, false, false, false, false, false, false, false, false, false, false, false, false, false, false] rfl rfl (any_of HT_.out (by kernel_rfl)) (fun _ _ _ h => h) (Or.inl ⟨by rfl, ?_⟩) ?_ ?_
      rotate_left
      · intro w'
        go_simp
        with_reducible rfl
      rotate_left
      · simp only [Act.put, List.setIfInBounds_toArray, List.set_cons_zero, List.set_cons_succ, i64_w, i32_w]
        rfl
      refine pure_ (i := 2) (N := some 269) (v := ?_) (a' := ?_) #[true, true, true, false, false, false, false, false, false, false, false, false, false, false, false, false, false, false, false, false, false, false, false, false, false, false, false, false, false, false, false, false, false, false, false, false, false, false, false, false, false] rfl rfl (any_of HT_.out (by kernel_rfl)) (fun _ _ _ h => h) (Or.inl ⟨by rfl, ?_⟩) ?_ ?_
      rotate_left
      · intro w'
        go_simp
        with_reducible rfl
      rotate_left
      · simp only [Act.put, List.setIfInBounds_toArray, List.set_cons_zero, List.set_cons_succ, i64_w, i32_w]
        rfl
      refine pure_ (i := 3) (N := some 270) (v := ?_) (a' := ?_) #[true, true, true, true, false, false, false, false, false, false, false, false, false, false, false, false, false, false, false, false, false, false, false, false, false, false, false, false, false, false, false, false, false, false, false, false, false, false, false, false, false] rfl rfl (any_of HT_.out (by kernel_rfl)) (fun _ _ _ h => h) (Or.inl ⟨by rfl, ?_⟩) ?_ ?_
      rotate_left
      · intro w'
        go_simp
        with_reducible rfl
      rotate_left
      · simp only [Act.put, List.setIfInBounds_toArray, List.set_cons_zero, List.set_cons_succ, i64_w, i32_w]
        rfl
      refine pure_ (i := 4) (N := some 271) (v := ?_) (a' := ?_) #[true, true, true, true, true, false, false, false, false, false, false, false, false, false, false, false, false, false, false, false, false, false, false, false, false, false, false, false, false, false, false, false, false, false, false, false, false, false, false, false, false] rfl rfl (any_of HT_.out (by kernel_rfl)) (fun _ _ _ h => h) (Or.inl ⟨by rfl, ?_⟩) ?_ ?_
      rotate_left
      · intro w'
        go_simp
        with_reducible rfl
      rotate_left
      · simp only [Act.put, List.setIfInBounds_toArray, List.set_cons_zero, List.set_cons_succ, i64_w, i32_w]
        rfl
      refine pure_ (i := 5) (N := some 272) (v := ?_) (a' := ?_) #[true, true, true, true, true, true, false, false, false, false, false, false, false, false, false, false, false, false, false, false, false, false, false, false, false, false, false, false, false, false, false, false, false, false, false, false, false, false, false, false, false] rfl rfl (any_of HT_.out (by kernel_rfl)) (fun _ _ _ h => h) (Or.inl ⟨by rfl, ?_⟩) ?_ ?_
      rotate_left
      · intro w'
        go_simp
        with_reducible rfl
      rotate_left
      · simp only [Act.put, List.setIfInBounds_toArray, List.set_cons_zero, List.set_cons_succ, i64_w, i32_w]
        rfl
      refine pure_ (i := 6) (N := some 273) (v := ?_) (a' := ?_) #[true, true, true, true, true, true, true, false, false, false, false, false, false, false, false, false, false, false, false, false, false, false, false, false, false, false, false, false, false, false, false, false, false, false, false, false, false, false, false, false, false] rfl rfl (any_of HT_.out (by kernel_rfl)) (fun _ _ _ h => h) (Or.inl ⟨by rfl, ?_⟩) ?_ ?_
      rotate_left
      · intro w'
        go_simp
        with_reducible rfl
      rotate_left
      · simp only [Act.put, List.setIfInBounds_toArray, List.set_cons_zero, List.set_cons_succ, i64_w, i32_w]
        rfl
      refine pure_ (i := 7) (N := some 274) (v := undef) (a' := ?_) #[true, true, true, true, true, true, true, true, false, false, false, false, false, false, false, false, false, false, false, false, false, false, false, false, false, false, false, false, false, false, false, false, false, false, false, false, false, false, false, false, false] rfl rfl (any_of HT_.out (by kernel_rfl)) (fun _ _ _ h => h) (Or.inr ⟨by rfl, rfl⟩) ?_ ?_
      rotate_left
      · simp only [Act.put, List.setIfInBounds_toArray, List.set_cons_zero, List.set_cons_succ, i64_w, i32_w]
        rfl
      refine pure_ (i := 8) (N := some 275) (v := undef) (a' := ?_) #[true, true, true, true, true, true, true, true, true, false, false, false, false, false, false, false, false, false, false, false, false, false, false, false, false, false, false, false, false, false, false, false, false, false, false, false, false, false, false, false, false] rfl rfl (any_of HT_.out (by kernel_rfl)) (fun _ _ _ h => h) (Or.inr ⟨by rfl, rfl⟩) ?_ ?_
      rotate_left
      · simp only [Act.put, List.setIfInBounds_toArray, List.set_cons_zero, List.set_cons_succ, i64_w, i32_w]
        rfl
      refine pure_ (i := 9) (N := some 276) (v := undef) (a' := ?_) #[true, true, true, true, true, true, true, true, true, true, false, false, false, false, false, false, false, false, false, false, false, false, false, false, false, false, false, false, false, false, false, false, false, false, false, false, false, false, false, false, false] rfl rfl (any_of HT_.out (by kernel_rfl)) (fun _ _ _ h => h) (Or.inr ⟨by rfl, rfl⟩) ?_ ?_
      rotate_left
      · simp only [Act.put, List.setIfInBounds_toArray, List.set_cons_zero, List.set_cons_succ, i64_w, i32_w]
        rfl
      refine pure_ (i := 10) (N := some 277) (v := undef) (a' := ?_) #[true, true, true, true, true, true, true, true, true, true, true, false, false, false, false, false, false, false, false, false, false, false, false, false, false, false, false, false, false, false, false, false, false, false, false, false, false, false, false, false, false] rfl rfl (any_of HT_.out (by kernel_rfl)) (fun _ _ _ h => h) (Or.inr ⟨by rfl, rfl⟩) ?_ ?_
      rotate_left
      · simp only [Act.put, List.setIfInBounds_toArray, List.set_cons_zero, List.set_cons_succ, i64_w, i32_w]
        rfl
      refine pure_ (i := 11) (N := some 278) (v := undef) (a' := ?_) #[true, true, true, true, true, true, true, true, true, true, true, true, false, false, false, false, false, false, false, false, false, false, false, false, false, false, false, false, false, false, false, false, false, false, false, false, false, false, false, false, false] rfl rfl (any_of HT_.out (by kernel_rfl)) (fun _ _ _ h => h) (Or.inr ⟨by rfl, rfl⟩) ?_ ?_
      rotate_left
      · simp only [Act.put, List.setIfInBounds_toArray, List.set_cons_zero, List.set_cons_succ, i64_w, i32_w]
        rfl
      refine pure_ (i := 12) (N := some 279) (v := undef) (a' := ?_) #[true, true, true, true, true, true, true, true, true, true, true, true, true, false, false, false, false, false, false, false, false, false, false, false, false, false, false, false, false, false, false, false, false, false, false, false, false, false, false, false, false] rfl rfl (any_of HT_.out (by kernel_rfl)) (fun _ _ _ h => h) (Or.inr ⟨by rfl, rfl⟩) ?_ ?_
      rotate_left
      · simp only [Act.put, List.setIfInBounds_toArray, List.set_cons_zero, List.set_cons_succ, i64_w, i32_w]
        rfl
      refine pure_ (i := 13) (N := some 280) (v := undef) (a' := ?_) #[true, true, true, true, true, true, true, true, true, true, true, true, true, true, false, false, false, false, false, false, false, false, false, false, false, false, false, false, false, false, false, false, false, false, false, false, false, false, false, false, false] rfl rfl (any_of HT_.out (by kernel_rfl)) (fun _ _ _ h => h) (Or.inr ⟨by rfl, rfl⟩) ?_ ?_
      rotate_left
      · simp only [Act.put, List.setIfInBounds_toArray, List.set_cons_zero, List.set_cons_succ, i64_w, i32_w]
        rfl
      refine pure_ (i := 14) (N := some 281) (v := undef) (a' := ?_) #[true, true, true, true, true, true, true, true, true, true, true, true, true, true, true, false, false, false, false, false, false, false, false, false, false, false, false, false, false, false, false, false, false, false, false, false, false, false, false, false, false] rfl rfl (any_of HT_.out (by kernel_rfl)) (fun _ _ _ h => h) (Or.inr ⟨by rfl, rfl⟩) ?_ ?_
      rotate_left
      · simp only [Act.put, List.setIfInBounds_toArray, List.set_cons_zero, List.set_cons_succ, i64_w, i32_w]
        rfl
      refine pure_ (i := 15) (N := some 282) (v := undef) (a' := ?_) #[true, true, true, true, true, true, true, true, true, true, true, true, true, true, true, true, false, false, false, false, false, false, false, false, false, false, false, false, false, false, false, false, false, false, false, false, false, false, false, false, false] rfl rfl (any_of HT_.out (by kernel_rfl)) (fun _ _ _ h => h) (Or.inr ⟨by rfl, rfl⟩) ?_ ?_
      rotate_left
      · simp only [Act.put, List.setIfInBounds_toArray, List.set_cons_zero, List.set_cons_succ, i64_w, i32_w]
        rfl
      refine pure_ (i := 16) (N := some 283) (v := undef) (a' := ?_) #[true, true, true, true, true, true, true, true, true, true, true, true, true, true, true, true, true, false, false, false, false, false, false, false, false, false, false, false, false, false, false, false, false, false, false, false, false, false, false, false, false] rfl rfl (any_of HT_.out (by kernel_rfl)) (fun _ _ _ h => h) (Or.inr ⟨by rfl, rfl⟩) ?_ ?_
      rotate_left
      · simp only [Act.put, List.setIfInBounds_toArray, List.set_cons_zero, List.set_cons_succ, i64_w, i32_w]
        rfl
      refine pure_ (i := 17) (N := some 284) (v := undef) (a' := ?_) #[true, true, true, true, true, true, true, true, true, true, true, true, true, true, true, true, true, true, false, false, false, false, false, false, false, false, false, false, false, false, false, false, false, false, false, false, false, false, false, false, false] rfl rfl (any_of HT_.out (by kernel_rfl)) (fun _ _ _ h => h) (Or.inr ⟨by rfl, rfl⟩) ?_ ?_
      rotate_left
      · simp only [Act.put, List.setIfInBounds_toArray, List.set_cons_zero, List.set_cons_succ, i64_w, i32_w]
        rfl
      refine pure_ (i := 18) (N := some 285) (v := undef) (a' := ?_) #[true, true, true, true, true, true, true, true, true, true, true, true, true, true, true, true, true, true, true, false, false, false, false, false, false, false, false, false, false, false, false, false, false, false, false, false, false, false, false, false, false] rfl rfl (any_of HT_.out (by kernel_rfl)) (fun _ _ _ h => h) (Or.inr ⟨by rfl, rfl⟩) ?_ ?_
      rotate_left
      · simp only [Act.put, List.setIfInBounds_toArray, List.set_cons_zero, List.set_cons_succ, i64_w, i32_w]
        rfl
      refine pure_ (i := 19) (N := some 286) (v := undef) (a' := ?_) #[true, true, true, true, true, true, true, true, true, true, true, true, true, true, true, true, true, true, true, true, false, false, false, false, false, false, false, false, false, false, false, false, false, false, false, false, false, false, false, false, false] rfl rfl (any_of HT_.out (by kernel_rfl)) (fun _ _ _ h => h) (Or.inr ⟨by rfl, rfl⟩) ?_ ?_
      rotate_left
      · simp only [Act.put, List.setIfInBounds_toArray, List.set_cons_zero, List.set_cons_succ, i64_w, i32_w]
        rfl
      refine pure_ (i := 20) (N := some 287) (v := undef) (a' := ?_) #[true, true, true, true, true, true, true, true, true, true, true, true, true, true, true, true, true, true, true, true, true, false, false, false, false, false, false, false, false, false, false, false, false, false, false, false, false, false, false, false, false] rfl rfl (any_of HT_.out (by kernel_rfl)) (fun _ _ _ h => h) (Or.inr ⟨by rfl, rfl⟩) ?_ ?_
      rotate_left
      · simp only [Act.put, List.setIfInBounds_toArray, List.set_cons_zero, List.set_cons_succ, i64_w, i32_w]
        rfl
      refine pure_ (i := 21) (N := some 288) (v := undef) (a' := ?_) #[true, true, true, true, true, true, true, true, true, true, true, true, true, true, true, true, true, true, true, true, true, true, false, false, false, false, false, false, false, false, false, false, false, false, false, false, false, false, false, false, false] rfl rfl (any_of HT_.out (by kernel_rfl)) (fun _ _ _ h => h) (Or.inr ⟨by rfl, rfl⟩) ?_ ?_
      rotate_left
      · simp only [Act.put, List.setIfInBounds_toArray, List.set_cons_zero, List.set_cons_succ, i64_w, i32_w]
        rfl
      refine pure_ (i := 22) (N := some 289) (v := ?_) (a' := ?_) #[true, true, true, true, true, true, true, true, true, true, true, true, true, true, true, true, true, true, true, true, true, true, true, false, false, false, false, false, false, false, false, false, false, false, false, false, false, false, false, false, false] rfl rfl (any_of HT_.out (by kernel_rfl)) (fun _ _ _ h => h) (Or.inl ⟨by rfl, ?_⟩) ?_ ?_
      rotate_left
      · intro w'
        go_simp
        with_reducible rfl
      rotate_left
      · simp only [Act.put, List.setIfInBounds_toArray, List.set_cons_zero, List.set_cons_succ, i64_w, i32_w]
        rfl
      refine pure_ (i := 23) (N := some 290) (v := ?_) (a' := ?_) #[true, true, true, true, true, true, true, true, true, true, true, true, true, true, true, true, true, true, true, true, true, true, true, true, false, false, false, false, false, false, false, false, false, false, false, false, false, false, false, false, false] rfl rfl (any_of HT_.out (by kernel_rfl)) (fun _ _ _ h => h) (Or.inl ⟨by rfl, ?_⟩) ?_ ?_
      rotate_left
      · intro w'
        go_simp
        with_reducible rfl
      rotate_left
      · simp only [Act.put, List.setIfInBounds_toArray, List.set_cons_zero, List.set_cons_succ, i64_w, i32_w]
        rfl
      refine pure_ (i := 24) (N := some 291) (v := ?_) (a' := ?_) #[true, true, true, true, true, true, true, true, true, true, true, true, true, true, true, true, true, true, true, true, true, true, true, true, true, false, false, false, false, false, false, false, false, false, false, false, false, false, false, false, false] rfl rfl (any_of HT_.out (by kernel_rfl)) (fun _ _ _ h => h) (Or.inl ⟨by rfl, ?_⟩) ?_ ?_
      rotate_left
      · intro w'
        go_simp
        with_reducible rfl
      rotate_left
      · simp only [Act.put, List.setIfInBounds_toArray, List.set_cons_zero, List.set_cons_succ, i64_w, i32_w]
        rfl
      refine pure_ (i := 25) (N := some 292) (v := ?_) (a' := ?_) #[true, true, true, true, true, true, true, true, true, true, true, true, true, true, true, true, true, true, true, true, true, true, true, true, true, true, false, false, false, false, false, false, false, false, false, false, false, false, false, false, false] rfl rfl (any_of HT_.out (by kernel_rfl)) (fun _ _ _ h => h) (Or.inl ⟨by rfl, ?_⟩) ?_ ?_
      rotate_left
      · intro w'
        go_simp
        with_reducible rfl
      rotate_left
      · simp only [Act.put, List.setIfInBounds_toArray, List.set_cons_zero, List.set_cons_succ, i64_w, i32_w]
        rfl
      refine pure_ (i := 26) (N := some 293) (v := ?_) (a' := ?_) #[true, true, true, true, true, true, true, true, true, true, true, true, true, true, true, true, true, true, true, true, true, true, true, true, true, true, true, false, false, false, false, false, false, false, false, false, false, false, false, false, false] rfl rfl (any_of HT_.out (by kernel_rfl)) (fun _ _ _ h => h) (Or.inl ⟨by rfl, ?_⟩) ?_ ?_
      rotate_left
      · intro w'
        go_simp
        with_reducible rfl
      rotate_left
      · simp only [Act.put, List.setIfInBounds_toArray, List.set_cons_zero, List.set_cons_succ, i64_w, i32_w]
        rfl
      refine pure_ (i := 27) (N := some 294) (v := ?_) (a' := ?_) #[true, true, true, true, true, true, true, true, true, true, true, true, true, true, true, true, true, true, true, true, true, true, true, true, true, true, true, true, false, false, false, false, false, false, false, false, false, false, false, false, false] rfl rfl (any_of HT_.out (by kernel_rfl)) (fun _ _ _ h => h) (Or.inl ⟨by rfl, ?_⟩) ?_ ?_
      rotate_left
      · intro w'
        go_simp
        with_reducible rfl
      rotate_left
      · simp only [Act.put, List.setIfInBounds_toArray, List.set_cons_zero, List.set_cons_succ, i64_w, i32_w]
        rfl
      refine pure_ (i := 28) (N := some 295) (v := ?_) (a' := ?_) #[true, true, true, true, true, true, true, true, true, true, true, true, true, true, true, true, true, true, true, true, true, true, true, true, true, true, true, true, true, false, false, false, false, false, false, false, false, false, false, false, false] rfl rfl (any_of HT_.out (by kernel_rfl)) (fun _ _ _ h => h) (Or.inl ⟨by rfl, ?_⟩) ?_ ?_
      rotate_left
      · intro w'
        go_simp
        with_reducible rfl
      rotate_left
      · simp only [Act.put, List.setIfInBounds_toArray, List.set_cons_zero, List.set_cons_succ, i64_w, i32_w]
        rfl
      refine pure_ (i := 29) (N := some 296) (v := ?_) (a' := ?_) #[true, true, true, true, true, true, true, true, true, true, true, true, true, true, true, true, true, true, true, true, true, true, true, true, true, true, true, true, true, true, false, false, false, false, false, false, false, false, false, false, false] rfl rfl (any_of HT_.out (by kernel_rfl)) (fun _ _ _ h => h) (Or.inl ⟨by rfl, ?_⟩) ?_ ?_
      rotate_left
      · intro w'
        go_simp
        with_reducible rfl
      rotate_left
      · simp only [Act.put, List.setIfInBounds_toArray, List.set_cons_zero, List.set_cons_succ, i64_w, i32_w]
        rfl
      refine pure_ (i := 30) (N := some 297) (v := ?_) (a' := ?_) #[true, true, true, true, true, true, true, true, true, true, true, true, true, true, true, true, true, true, true, true, true, true, true, true, true, true, true, true, true, true, true, false, false, false, false, false, false, false, false, false, false] rfl rfl (any_of HT_.out (by kernel_rfl)) (fun _ _ _ h => h) (Or.inl ⟨by rfl, ?_⟩) ?_ ?_
      rotate_left
      · intro w'
        go_simp
        with_reducible rfl
      rotate_left
      · simp only [Act.put, List.setIfInBounds_toArray, List.set_cons_zero, List.set_cons_succ, i64_w, i32_w]
        rfl
      refine pure_ (i := 31) (N := some 298) (v := ?_) (a' := ?_) #[true, true, true, true, true, true, true, true, true, true, true, true, true, true, true, true, true, true, true, true, true, true, true, true, true, true, true, true, true, true, true, true, false, false, false, false, false, false, false, false, false] rfl rfl (any_of HT_.out (by kernel_rfl)) (fun _ _ _ h => h) (Or.inl ⟨by rfl, ?_⟩) ?_ ?_
      rotate_left
      · intro w'
        go_simp
        with_reducible rfl
      rotate_left
      · simp only [Act.put, List.setIfInBounds_toArray, List.set_cons_zero, List.set_cons_succ, i64_w, i32_w]
        rfl
      refine pure_ (i := 32) (N := some 299) (v := ?_) (a' := ?_) #[true, true, true, true, true, true, true, true, true, true, true, true, true, true, true, true, true, true, true, true, true, true, true, true, true, true, true, true, true, true, true, true, true, false, false, false, false, false, false, false, false] rfl rfl (any_of HT_.out (by kernel_rfl)) (fun _ _ _ h => h) (Or.inl ⟨by rfl, ?_⟩) ?_ ?_
      rotate_left
      · intro w'
        go_simp
        with_reducible rfl
      rotate_left
      · simp only [Act.put, List.setIfInBounds_toArray, List.set_cons_zero, List.set_cons_succ, i64_w, i32_w]
        rfl
      refine pure_ (i := 33) (N := some 300) (v := ?_) (a' := ?_) #[true, true, true, true, true, true, true, true, true, true, true, true, true, true, true, true, true, true, true, true, true, true, true, true, true, true, true, true, true, true, true, true, true, true, false, false, false, false, false, false, false] rfl rfl (any_of HT_.out (by kernel_rfl)) (fun _ _ _ h => h) (Or.inl ⟨by rfl, ?_⟩) ?_ ?_
      rotate_left
      · intro w'
        go_simp
        with_reducible rfl
      rotate_left
      · simp only [Act.put, List.setIfInBounds_toArray, List.set_cons_zero, List.set_cons_succ, i64_w, i32_w]
        rfl
      refine pure_ (i := 34) (N := some 301) (v := ?_) (a' := ?_) #[true, true, true, true, true, true, true, true, true, true, true, true, true, true, true, true, true, true, true, true, true, true, true, true, true, true, true, true, true, true, true, true, true, true, true, false, false, false, false, false, false] rfl rfl (any_of HT_.out (by kernel_rfl)) (fun _ _ _ h => h) (Or.inl ⟨by rfl, ?_⟩) ?_ ?_
      rotate_left
      · intro w'
        go_simp
        with_reducible rfl
      rotate_left
      · simp only [Act.put, List.setIfInBounds_toArray, List.set_cons_zero, List.set_cons_succ, i64_w, i32_w]
        rfl
      refine pure_ (i := 35) (N := some 302) (v := ?_) (a' := ?_) #[true, true, true, true, true, true, true, true, true, true, true, true, true, true, true, true, true, true, true, true, true, true, true, true, true, true, true, true, true, true, true, true, true, true, true, true, false, false, false, false, false] rfl rfl (any_of HT_.out (by kernel_rfl)) (fun _ _ _ h => h) (Or.inl ⟨by rfl, ?_⟩) ?_ ?_
      rotate_left
      · intro w'
        go_simp
        with_reducible rfl
      rotate_left
      · simp only [Act.put, List.setIfInBounds_toArray, List.set_cons_zero, List.set_cons_succ, i64_w, i32_w]
        rfl
      refine take_ (i := 36) (N := some 303) (v := ?_) (a' := ?_) #[true, true, true, true, true, true, true, true, true, true, true, true, true, true, true, true, true, true, true, true, true, true, true, true, true, true, true, true, true, true, true, true, true, true, true, true, true, false, false, false, false] rfl rfl (take_ofW HT_.out HW_.out (by kernel_rfl)) (fun _ _ _ h => h) (Or.inl ⟨by rfl, ?_⟩) hHeld ?_ ?_
      rotate_left
      · intro w' s0
        go_simp
        with_reducible rfl
      rotate_left
      · simp only [Act.put, List.setIfInBounds_toArray, List.set_cons_zero, List.set_cons_succ, i64_w, i32_w]
        rfl
      refine pure_ (i := 37) (N := some 304) (v := ?_) (a' := ?_) #[true, true, true, true, true, true, true, true, true, true, true, true, true, true, true, true, true, true, true, true, true, true, true, true, true, true, true, true, true, true, true, true, true, true, true, true, true, true, false, false, false] rfl rfl (any_of HT_.out (by kernel_rfl)) (fun _ _ _ h => h) (Or.inl ⟨by rfl, ?_⟩) ?_ ?_
      rotate_left
      · intro w'
        go_simp
        with_reducible rfl
      rotate_left
      · simp only [Act.put, List.setIfInBounds_toArray, List.set_cons_zero, List.set_cons_succ, i64_w, i32_w]
        rfl
      refine pure_ (i := 38) (N := some 305) (v := ?_) (a' := ?_) #[true, true, true, true, true, true, true, true, true, true, true, true, true, true, true, true, true, true, true, true, true, true, true, true, true, true, true, true, true, true, true, true, true, true, true, true, true, true, true, false, false] rfl rfl (any_of HT_.out (by kernel_rfl)) (fun _ _ _ h => h) (Or.inl ⟨by rfl, ?_⟩) ?_ ?_
      rotate_left
      · intro w'
        go_simp
        with_reducible rfl
      rotate_left
      · simp only [Act.put, List.setIfInBounds_toArray, List.set_cons_zero, List.set_cons_succ, i64_w, i32_w]
        rfl
      refine pure_ (i := 39) (N := some 306) (v := ?_) (a' := ?_) #[true, true, true, true, true, true, true, true, true, true, true, true, true, true, true, true, true, true, true, true, true, true, true, true, true, true, true, true, true, true, true, true, true, true, true, true, true, true, true, true, false] rfl rfl (any_of HT_.out (by kernel_rfl)) (fun _ _ _ h => h) (Or.inl ⟨by rfl, ?_⟩) ?_ ?_
      rotate_left
      · intro w'
        go_simp
        with_reducible rfl
      rotate_left
      · simp only [Act.put, List.setIfInBounds_toArray, List.set_cons_zero, List.set_cons_succ, i64_w, i32_w]
        rfl
      refine pure_ (i := 40) (N := some 307) (v := ?_) (a' := ?_) #[true, true, true, true, true, true, true, true, true, true, true, true, true, true, true, true, true, true, true, true, true, true, true, true, true, true, true, true, true, true, true, true, true, true, true, true, true, true, true, true, true] rfl rfl (any_of HT_.out (by kernel_rfl)) (fun _ _ _ h => h) (Or.inl ⟨by rfl, ?_⟩) ?_ ?_
      rotate_left
      · intro w'
        go_simp
        with_reducible rfl
      rotate_left
      · simp only [Act.put, List.setIfInBounds_toArray, List.set_cons_zero, List.set_cons_succ, i64_w, i32_w]
        rfl
      refine done_ (done_of HT_.out (by kernel_rfl)) ?_
      try go_wp2
      clear g2
      go_loopg [39] lr.length (fun g v39 w' => ∃ i : Nat, v39 = .int .i64 (i : Int) ∧ Aside0 (1 ≤ i ∧ lr.length - i ≤ g) ∧ Aside0 (LvI w' [(.slice Ar lr.length cr, lr)]) ∧ Aside0 (Below w.heap.size w w'))
      case atStart => exact ⟨1, rfl, ⟨Nat.le_refl _, by omega⟩, ⟨LvI_sub (by repeat (first | (with_reducible exact HL.out) | apply LvI_drewN | apply LvI_drew)) (by simp)⟩, ⟨(by repeat (first | (with_reducible exact HB.out) | apply pw_below_drewN | apply below_drew1))⟩⟩
      case round =>
        clear HL HB
        obtain ⟨i, rfl, HI, HL, HB⟩ := hrel
        have hi1 := HI.out.1
        by_cases c3 : i < lr.length
        · exact absurd c3 (by have := of_decide_eq_false f3b; omega)
        · have c3a : ¬ (i : Int) < (lr.length : Int) := by omega
          have c3b : decide ((i : Int) < (lr.length : Int)) = false := decide_eq_false c3a
          go_upto_region 48 with (fail)
          exact bm48 k A1 c1 l1 r w _ HR1 HC1 HB H' _ _ _ _ _ _ _ _ _ _ _ _ _ _ _ _ _ _ _ _ _ _ _ _ _ _ _ _ _ _ _ _ _ _ _ _ _ _ _ _ _ _ _ _ _ _ _ _ _ _ _ _ _ _ _ _ _ _ _ _ _ _ _ _ _ _ _ _ _ _ _ _ _ _ _ _ _ _ _ _ _ _ _ _ _ _ _ _ _ _ _ _ _ _ _ _ _ _ _ _ _ _ _ _ _ _ _ _ _ _ _ _ _ _ _ _ _ _ _ _ _ _ _ _ _ _ _ _ _ _ _ _ _ _ _ _ _ _ _ _ _ _ _ _ _ _ _ _ _ _ _ _ _ _ _ _ _ _ _ _ _ _ _ _ _ _ _ _ _ _ _ _ _ _ _ _ _ _ _ _ _ _ _ _ _ _ _ _ _ _ _ _ _ _ _ _ _ _ _ _ _ _ _ _ _ _ _ _ _ _ _ _ _ _ _ _ _ _ _ _ _ _ _ _ _ _ _ _ _ _ _ _ _ _ _ _ _ _ _ _ _ _ _ _ _ _ _ _ _ _ _ _ _ _ _ _ _ _ _ _ _ _ _ _ _ _ _ _ _ _ _ _ _ _ _ _ _ _ _ _ _ _ _ _ _ _ _ _ _ _ _ _ _ _ _ _ _ _ _ _ _ _ _ _ _ _ _ _ _ _ _ _ _ _ _ _ _ _ _ _ _ _ _ _ _ _ _ _ _ _ _ _ _ _ _ _ _ _ _ _ _ _ _ _ _ _ _ _ _ _ _ _ _ _ _ _ _ _ _ _ _ _ _ _ _ _ _ _ _ _ _ _ _ _ _ _ _ _ _ _ _ _ _ _ _ _ _ _ _ _ _ _ _ _ _ _ _ _ _ _ _ _ _ _ _ _ (by assumption)
set_option maxHeartbeats 16000000 in
set_option maxRecDepth 100000 in
theorem bm10 (k : Nat) (lw lf lg : List Int) (m n c : Int) (ok three : Bool) (Aw Af Ag : Option Addr) (cw cf cg : Nat) (A1 : Option Addr) (c1 : Nat) (l1 : List Int) (r : Bool) (w wc : World) (HR1 : Aside0 (Kd.C (Kd.int .u8) w A1 l1.length l1)) (HC1 : Aside0 (l1.length ≤ c1)) (HB : Aside0 (Below w.heap.size w wc)) (HL : Aside0 (LvI wc [(.slice Ag lg.length cg, lg), (.slice Af lf.length cf, lf), (.slice Aw lw.length cw, lw)])) (HT : Aside0 (laws_ySame.f k lf lg = some true)) (H3 : ok = true → three = true) (HA : Aside0 ((if ok = true then bm_s1 k l1 lw m lf n c else bm_s2 k l1) = some r)) (z0 z2 z3 z4 z19 z20 z21 z22 z23 z24 z25 z26 z27 z28 z29 z30 z31 z32 z33 z34 z35 z36 z37 z38 z39 z40 z41 z42 z43 z44 z45 z46 z47 z48 z49 z50 z51 z52 z53 z54 z55 z56 z57 z58 z59 z60 z61 z62 z63 z64 z65 z66 z67 z68 z69 z70 z71 z72 z73 z74 z75 z76 z77 z78 z79 z80 z81 z82 z83 z84 z85 z86 z87 z88 z89 z90 z91 z92 z93 z94 z95 z96 z97 z98 z99 z100 z101 z102 z103 z104 z105 z106 z107 z108 z109 z110 z111 z112 z113 z114 z115 z116 z117 z118 z119 z120 z121 z122 z123 z124 z125 z126 z127 z128 z129 z130 z131 z132 z133 z134 z135 z136 z137 z138 z139 z140 z141 z142 z143 z144 z145 z146 z147 z148 z149 z150 z151 z152 z153 z154 z155 z156 z157 z158 z159 z160 z161 z162 z163 z164 z165 z166 z167 z168 z169 z170 z171 z172 z173 z174 z175 z176 z177 z178 z179 z180 z181 z182 z183 z184 z185 z186 z187 z188 z189 z190 z191 z192 z193 z194 z195 z196 z197 z198 z199 z200 z201 z202 z203 z204 z205 z206 z207 z208 z209 z210 z211 z212 z213 z214 z215 z216 z217 z218 z219 z220 z221 z222 z223 z224 z225 z226 z227 z228 z229 z230 z231 z232 z233 z234 z235 z236 z237 z238 z239 z240 z241 z242 z243 z244 z245 z246 z247 z248 z249 z250 z251 z252 z253 z254 z255 z256 z257 z258 z259 z260 z261 z262 z263 z264 z265 z266 z267 z268 z269 z270 z271 z272 z273 z274 z275 z276 z277 z278 z279 z280 z281 z282 z283 z284 z285 z286 z287 z288 z289 z290 z291 z292 z293 z294 z295 z296 z297 z298 z299 z300 z301 z302 z303 z304 z305 z306 z307 z308 z309 z310 z311 z312 z313 z314 z315 z316 z317 z318 z319 z320 z321 z322 z323 z324 z325 z326 z327 z328 z329 z330 z331 z332 z333 z334 z335 z336 z337 z338 z339 z340 z341 z342 z343 z344 z345 z346 z347 z348 z349 z350 z351 z352 z353 z354 z355 z356 z357 z358 z359 z360 z361 z362 z363 z364 z365 z366 z367 z368 z369 z370 z371 z372 z373 z374 z375 z376 z377 z378 z379 z380 z381 z382 z383 z384 z385 z386 z387 z388 z389 z390 z391 z392 z393 z394 z395 z396 z397 z398 z399 z400 z401 z402 z403 z404 z405 : Value) (K1 K2 : Act → World → Prop) (h1 : ∀ a w', Code.wp Tryz.prog (cB (cA (cB (cB (cB (cB (cB (cB (cB (cB (cB (Tryz.f3.body.getD .skip)))))))))))) (Exit.then K2 (bodyPost Tryz.prog Tryz.f3 (fun e w' => e = .returned (.bool r) ∧ Below w.heap.size w w'))) a w' → K1 a w') (h2 : ∀ a w', Code.wp Tryz.prog (cB (cB (cB (cB (cB (cB (cB (cB (cB (cB (Tryz.f3.body.getD .skip))))))))))) (bodyPost Tryz.prog Tryz.f3 (fun e w' => e = .returned (.bool r) ∧ Below w.heap.size w w')) a w' → K2 a w') :
    Code.wp Tryz.prog (cA (cA (cB (cB (cB (cB (cB (cB (cB (cB (cB (Tryz.f3.body.getD .skip)))))))))))) (Exit.then K1 (Exit.then K2 (bodyPost Tryz.prog Tryz.f3 (fun e w' => e = .returned (.bool r) ∧ Below w.heap.size w w')))) { tmps := #[z0, .slice A1 l1.length c1, z2, z3, z4, .slice Aw lw.length cw, .int .i64 m, .slice Af lf.length cf, .bool ok, .slice Ag lg.length cg, .bool ok, .int .i64 n, .bool ok, .int .i64 n, .bool ok, .int .i64 c, .bool three, .int .i64 c, .bool three, z19, z20, z21, z22, z23, z24, z25, z26, z27, z28, z29, z30, z31, z32, z33, z34, z35, z36, z37, z38, z39, z40, z41, z42, z43, z44, z45, z46, z47, z48, z49, z50, z51, z52, z53, z54, z55, z56, z57, z58, z59, z60, z61, z62, z63, z64, z65, z66, z67, z68, z69, z70, z71, z72, z73, z74, z75, z76, z77, z78, z79, z80, z81, z82, z83, z84, z85, z86, z87, z88, z89, z90, z91, z92, z93, z94, z95, z96, z97, z98, z99, z100, z101, z102, z103, z104, z105, z106, z107, z108, z109, z110, z111, z112, z113, z114, z115, z116, z117, z118, z119, z120, z121, z122, z123, z124, z125, z126, z127, z128, z129, z130, z131, z132, z133, z134, z135, z136, z137, z138, z139, z140, z141, z142, z143, z144, z145, z146, z147, z148, z149, z150, z151, z152, z153, z154, z155, z156, z157, z158, z159, z160, z161, z162, z163, z164, z165, z166, z167, z168, z169, z170, z171, z172, z173, z174, z175, z176, z177, z178, z179, z180, z181, z182, z183, z184, z185, z186, z187, z188, z189, z190, z191, z192, z193, z194, z195, z196, z197, z198, z199, z200, z201, z202, z203, z204, z205, z206, z207, z208, z209, z210, z211, z212, z213, z214, z215, z216, z217, z218, z219, z220, z221, z222, z223, z224, z225, z226, z227, z228, z229, z230, z231, z232, z233, z234, z235, z236, z237, z238, z239, z240, z241, z242, z243, z244, z245, z246, z247, z248, z249, z250, z251, z252, z253, z254, z255, z256, z257, z258, z259, z260, z261, z262, z263, z264, z265, z266, z267, z268, z269, z270, z271, z272, z273, z274, z275, z276, z277, z278, z279, z280, z281, z282, z283, z284, z285, z286, z287, z288, z289, z290, z291, z292, z293, z294, z295, z296, z297, z298, z299, z300, z301, z302, z303, z304, z305, z306, z307, z308, z309, z310, z311, z312, z313, z314, z315, z316, z317, z318, z319, z320, z321, z322, z323, z324, z325, z326, z327, z328, z329, z330, z331, z332, z333, z334, z335, z336, z337, z338, z339, z340, z341, z342, z343, z344, z345, z346, z347, z348, z349, z350, z351, z352, z353, z354, z355, z356, z357, z358, z359, z360, z361, z362, z363, z364, z365, z366, z367, z368, z369, z370, z371, z372, z373, z374, z375, z376, z377, z378, z379, z380, z381, z382, z383, z384, z385, z386, z387, z388, z389, z390, z391, z392, z393, z394, z395, z396, z397, z398, z399, z400, z401, z402, z403, z404, z405], defers := [] } wc := by
  replace h1 := cond_of rfl h1
  replace h2 := seq_of rfl h2
  refine region_of rfl ?_
  have H := HA.out
  clear HA
  have i1 : (n != n) = false := by simp
  have i2 : (c != c) = false := by simp
  have i3 : (three != three) = false := by simp
  cases ok with
  | false =>
    rw [if_neg (by simp)] at H
    have H' := Aside0.mk H
    clear H H3
    go_upto_region 34 with ((go_at_call 12; (with_reducible refine (laws_ySame.calls k _ _ lf _ _ lg true _ (Kd.V_reads' (LvI_get HL.out (.slice Af lf.length cf) lf (by simp))).2.2 (Kd.V_reads' (LvI_get HL.out (.slice Af lf.length cf) lf (by simp))).2.1 (Kd.V_reads' (LvI_get HL.out (.slice Ag lg.length cg) lg (by simp))).2.2 (Kd.V_reads' (LvI_get HL.out (.slice Ag lg.length cg) lg (by simp))).2.1 HT.out).mono ?_); rintro e w9 ⟨rfl, hb⟩; have hb := bm_drawn hb; have HB' := Aside0.mk (below_step HB.out hb); have HL' := Aside0.mk (LvI_below HL.out hb); clear HB HL; have HB := HB'; have HL := HL'; clear HB' HL' hb))
    exact bm34 k A1 c1 l1 r w _ HR1 HC1 ⟨(by repeat (first | (with_reducible exact HB.out) | apply pw_below_drewN | apply below_drew1))⟩ H' _ _ _ _ _ _ _ _ _ _ _ _ _ _ _ _ _ _ _ _ _ _ _ _ _ _ _ _ _ _ _ _ _ _ _ _ _ _ _ _ _ _ _ _ _ _ _ _ _ _ _ _ _ _ _ _ _ _ _ _ _ _ _ _ _ _ _ _ _ _ _ _ _ _ _ _ _ _ _ _ _ _ _ _ _ _ _ _ _ _ _ _ _ _ _ _ _ _ _ _ _ _ _ _ _ _ _ _ _ _ _ _ _ _ _ _ _ _ _ _ _ _ _ _ _ _ _ _ _ _ _ _ _ _ _ _ _ _ _ _ _ _ _ _ _ _ _ _ _ _ _ _ _ _ _ _ _ _ _ _ _ _ _ _ _ _ _ _ _ _ _ _ _ _ _ _ _ _ _ _ _ _ _ _ _ _ _ _ _ _ _ _ _ _ _ _ _ _ _ _ _ _ _ _ _ _ _ _ _ _ _ _ _ _ _ _ _ _ _ _ _ _ _ _ _ _ _ _ _ _ _ _ _ _ _ _ _ _ _ _ _ _ _ _ _ _ _ _ _ _ _ _ _ _ _ _ _ _ _ _ _ _ _ _ _ _ _ _ _ _ _ _ _ _ _ _ _ _ _ _ _ _ _ _ _ _ _ _ _ _ _ _ _ _ _ _ _ _ _ _ _ _ _ _ _ _ _ _ _ _ _ _ _ _ _ _ _ _ _ _ _ _ _ _ _ _ _ _ _ _ _ _ _ _ _ _ _ _ _ _ _ _ _ _ _ _ _ _ _ _ _ _ _ _ _ _ _ _ _ _ _ _ _ _ _ _ _ _ _ _ _ _ _ _ _ _ _ _ _ _ _ _ _ _ _ _ _ _ _ _ _ _ _ _ _ _ _ _ _ _ _ _ _ _ _ _ (by assumption)
  | true =>
    rw [if_pos rfl] at H
    obtain rfl := H3 rfl
    clear H3
    unfold bm_s1 at H
    replace H := Option.bind_eq_some_iff.mp H
    obtain ⟨⟨o1, o2⟩, D1, H⟩ := H
    have D1 := Aside0.mk D1
    (try simp only at H)
    replace H := Option.bind_eq_some_iff.mp H
    obtain ⟨⟨a1, a2⟩, D2, H⟩ := H
    have D2 := Aside0.mk D2
    (try simp only at H)
    replace H := Option.bind_eq_some_iff.mp H
    obtain ⟨⟨ws, ok2⟩, D3, H⟩ := H
    have D3 := Aside0.mk D3
    (try simp only at H)
    replace H := Option.bind_eq_some_iff.mp H
    obtain ⟨t, D4, H⟩ := H
    have D4 := Aside0.mk D4
    (try simp only at H)
    split at H
    case isFalse => cases H
    rename_i hq
    obtain ⟨q1, q2, q3, q4, q5, q6, q7, q8, q9⟩ := hq
    subst q1 q2 q3 q4 q6 q7
    have H' := Aside0.mk H
    have Q8 := Aside0.mk q8
    have Q9 := Aside0.mk q9
    have i4 : decide (n < 1) = false := decide_eq_false (by omega)
    have i5 : (o1 != o1) = false := by simp
    clear H q5 q8 q9
    go_wp2_with (first | (go_at_call 12; (with_reducible refine (laws_ySame.calls k _ _ lf _ _ lg true _ (Kd.V_reads' (LvI_get HL.out (.slice Af lf.length cf) lf (by simp))).2.2 (Kd.V_reads' (LvI_get HL.out (.slice Af lf.length cf) lf (by simp))).2.1 (Kd.V_reads' (LvI_get HL.out (.slice Ag lg.length cg) lg (by simp))).2.2 (Kd.V_reads' (LvI_get HL.out (.slice Ag lg.length cg) lg (by simp))).2.1 HT.out).mono ?_); rintro e w9 ⟨rfl, hb⟩; have hb := bm_drawn hb; have HB' := Aside0.mk (below_step HB.out hb); have HL' := Aside0.mk (LvI_below HL.out hb); clear HB HL; have HB := HB'; have HL := HL'; clear HB' HL' hb) | ((with_reducible refine gate_callee (f := 13) rfl ?_); refine goesL_ (some 145) rfl rfl Tryz.func13 (by kernel_rfl) rfl #[.slice Aw lw.length cw, .slice Af lf.length cf] rfl (by (try simp only [List.map_toArray, List.map_cons, List.map_nil]); first | done | rfl) ?_; (with_reducible refine (impl_CostOf.calls k _ _ lw _ _ lf o1 true _ (Kd.V_reads' (LvI_get HL.out (.slice Aw lw.length cw) lw (by simp))).2.2 (Kd.V_reads' (LvI_get HL.out (.slice Aw lw.length cw) lw (by simp))).2.1 (Kd.V_reads' (LvI_get HL.out (.slice Af lf.length cf) lf (by simp))).2.2 (Kd.V_reads' (LvI_get HL.out (.slice Af lf.length cf) lf (by simp))).2.1 D1.out).mono ?_); rintro e w9 ⟨rfl, hb⟩; refine ⟨_, rfl, ?_⟩; have hb := bm_drawn hb; have HB' := Aside0.mk (below_step HB.out hb); have HL' := Aside0.mk (LvI_below HL.out hb); clear HB HL; have HB := HB'; have HL := HL'; clear HB' HL' hb) | ((with_reducible refine gate_callee (f := 14) rfl ?_); refine goesL_ (some 152) rfl rfl Tryz.func14 (by kernel_rfl) rfl #[.slice Aw lw.length cw, .slice Af lf.length cf, .int .i64 m] rfl (by (try simp only [List.map_toArray, List.map_cons, List.map_nil]); first | done | rfl) ?_; (with_reducible refine (impl_AreBest.calls k _ _ lw _ _ lf m true true _ (Kd.V_reads' (LvI_get HL.out (.slice Aw lw.length cw) lw (by simp))).2.2 (Kd.V_reads' (LvI_get HL.out (.slice Aw lw.length cw) lw (by simp))).2.1 (Kd.V_reads' (LvI_get HL.out (.slice Af lf.length cf) lf (by simp))).2.2 (Kd.V_reads' (LvI_get HL.out (.slice Af lf.length cf) lf (by simp))).2.1 D2.out).mono ?_); rintro e w9 ⟨rfl, hb⟩; refine ⟨_, rfl, ?_⟩; have HB' := Aside0.mk (below_step HB.out hb); have HL' := Aside0.mk (LvI_below HL.out hb); clear HB HL; have HB := HB'; have HL := HL'; clear HB' HL' hb) | ((with_reducible refine gate_callee (f := 15) rfl ?_); refine goesL_ (some 158) rfl rfl Tryz.func15 (by kernel_rfl) rfl #[.slice Af lf.length cf, .int .i64 m] rfl (by (try simp only [List.map_toArray, List.map_cons, List.map_nil]); first | done | rfl) ?_; (with_reducible refine (impl_WordsFor.calls k _ _ lf m ws true _ (Kd.V_reads' (LvI_get HL.out (.slice Af lf.length cf) lf (by simp))).2.2 (Kd.V_reads' (LvI_get HL.out (.slice Af lf.length cf) lf (by simp))).2.1 D3.out).mono ?_); rintro e w9 ⟨v9, rfl, hr, hb⟩; refine ⟨_, rfl, ?_⟩; have HS := Aside0.mk (Kd.R_V (base' := 0) (Kd.R_mono (ok' := fun _ => True) hr (fun _ _ => trivial))); have HB' := Aside0.mk (below_step HB.out hb); have HL' := Aside0.mk (LvI_below HL.out hb); clear HB HL; have HB := HB'; have HL := HL'; clear HB' HL' hb; clear hr; obtain ⟨Av, cv, ev⟩ := Kd.V_slice HS.out; subst ev) | (go_at_call 16; (with_reducible refine (laws_yPrefix.calls k _ _ ws true _ (Kd.V_reads' HS.out).2.2 (Kd.V_reads' HS.out).2.1 D4.out).mono ?_); rintro e w9 ⟨rfl, hb⟩; have hb := bm_drawn hb; have HS' := Aside0.mk (Kd.V_below HS.out hb); clear HS; have HS := HS'; clear HS'; have HB' := Aside0.mk (below_step HB.out hb); have HL' := Aside0.mk (LvI_below HL.out hb); clear HB HL; have HB := HB'; have HL := HL'; clear HB' HL' hb))
    go_loopg [191] ws.length (fun g v191 w' => ∃ i : Nat, v191 = .int .i64 (i : Int) ∧ Aside0 (i ≤ ws.length ∧ ws.length - i ≤ g) ∧ Aside0 (LvI w' [(.slice Ag lg.length cg, lg), (.slice Af lf.length cf, lf), (.slice Aw lw.length cw, lw)]) ∧ Aside0 (Kd.V Kd.string 9 w' 0 (fun _ => True) (.slice Av ws.length cv) ws) ∧ Aside0 (Below w.heap.size w w'))
    case atStart => exact ⟨0, rfl, ⟨Nat.zero_le _, by omega⟩, HL, HS, HB⟩
    case round =>
      clear HL HS HB
      obtain ⟨i, rfl, HI, HL, HS, HB⟩ := hrel
      by_cases c3 : i < ws.length
      · have c3a : (i : Int) < (ws.length : Int) := by omega
        have c3b : decide ((i : Int) < (ws.length : Int)) = true := decide_eq_true c3a
        have c3c : (0 : Int) ≤ (i : Int) := by omega
        have c3g : decide ((0 : Int) ≤ (i : Int)) = true := decide_eq_true c3c
        have c3d : (i : Int) + 1 ≤ 9223372036854775807 := by have := (Kd.reads_of_C (d := ByteArray.empty) (Kd.V_reads' HS.out).2.2).2.1; omega
        have hq := Q8.out
        unfold bmLens at hq
        rw [Bool.and_eq_true, decide_eq_true_eq] at hq
        have c3e : (i : Int) < (lf.length : Int) := by have := hq.1; omega
        have c3f : decide ((i : Int) < (lf.length : Int)) = true := decide_eq_true c3e
        have hq2 := List.all_eq_true.1 hq.2 i (List.mem_range.2 c3)
        rw [beq_iff_eq] at hq2
        have h0 : (((rdOf ByteArray.empty ws (i : Int)).size : Int) == rd lf (i : Int)) = true := beq_iff_eq.mpr hq2
        have h1 : (((rdOf ByteArray.empty ws (i : Int)).size : Int) != rd lf (i : Int)) = false := bne_eq_false_iff_eq.mpr hq2
        clear hq hq2
        obtain ⟨ad1, e1, hx1⟩ := Kd.at_string (Kd.V_reads' HS.out).2.2 (i : Int) c3c c3a
        cases e1
        obtain ⟨ad2, e2, hx2⟩ := Kd.at_int (Kd.V_reads' (LvI_get HL.out (.slice Af lf.length cf) lf (by simp))).2.2 (i : Int) c3c c3e
        cases e2
        rw [Int.toNat_natCast] at hx1 hx2
        go_wp2
        go_roundg (ws.length - (i + 1))
        case measure => have := HI.out.2; omega
        case rel => exact ⟨i + 1, by simp, ⟨by omega, by omega⟩, HL, HS, HB⟩
      · have c3a : ¬ (i : Int) < (ws.length : Int) := by omega
        have c3b : decide ((i : Int) < (ws.length : Int)) = false := decide_eq_false c3a
        clear HS
        go_wp2
        go_loopg [206] lw.length (fun g v206 w' => ∃ i : Nat, v206 = .int .i64 (i : Int) ∧ Aside0 (i ≤ lw.length ∧ lw.length - i ≤ g) ∧ Aside0 (LvI w' [(.slice Ag lg.length cg, lg), (.slice Af lf.length cf, lf), (.slice Aw lw.length cw, lw)]) ∧ Aside0 (Below w.heap.size w w'))
        case atStart => exact ⟨0, rfl, ⟨Nat.zero_le _, by omega⟩, HL, HB⟩
        case round =>
          clear HL HB HI c3 c3a c3b
          obtain ⟨i, rfl, HI, HL, HB⟩ := hrel
          by_cases c3 : i < lw.length
          · have c3a : (i : Int) < (lw.length : Int) := by omega
            have c3b : decide ((i : Int) < (lw.length : Int)) = true := decide_eq_true c3a
            have c3c : (0 : Int) ≤ (i : Int) := by omega
            have c3g : decide ((0 : Int) ≤ (i : Int)) = true := decide_eq_true c3c
            have c3d : (lw.length : Int) ≤ 9223372036854775807 := by have := (Kd.reads_of_C (enc := Value.int .i64) (d := (0 : Int)) (h1 := fun _ => rfl) (Kd.V_reads' (LvI_get HL.out (.slice Aw lw.length cw) lw (by simp))).2.2).2.1; omega
            have hq := Q9.out
            unfold bmHeavy at hq
            rw [Bool.and_eq_true, decide_eq_true_eq] at hq
            have hq1 := hq.1
            have HQ2 := Aside0.mk (List.all_eq_true.1 hq.2 i (List.mem_range.2 c3))
            clear hq
            have c3e : (i : Int) < (lf.length : Int) := by omega
            have c3f : decide ((i : Int) < (lf.length : Int)) = true := decide_eq_true c3e
            obtain ⟨ad3, e3, hx3⟩ := Kd.at_int (Kd.V_reads' (LvI_get HL.out (.slice Aw lw.length cw) lw (by simp))).2.2 (i : Int) c3c c3a
            cases e3
            rw [Int.toNat_natCast] at hx3
            have c3h : (i : Int) + 1 ≤ 9223372036854775807 := by omega
            go_wp2
            go_loopg [213] lw.length (fun g v213 w' => ∃ j : Nat, v213 = .int .i64 (j : Int) ∧ Aside0 (j ≤ lw.length ∧ lw.length - j ≤ g) ∧ Aside0 (LvI w' [(.slice Ag lg.length cg, lg), (.slice Af lf.length cf, lf), (.slice (some ad3) lw.length cw, lw)]) ∧ Aside0 (Below w.heap.size w w'))
            case atStart => exact ⟨0, rfl, ⟨Nat.zero_le _, by omega⟩, HL, HB⟩
            case round =>
              clear HL HB hx3
              obtain ⟨j, rfl, HJ, HL, HB⟩ := hrel
              by_cases c4 : j < lw.length
              · have c4a : (j : Int) < (lw.length : Int) := by omega
                have c4b : decide ((j : Int) < (lw.length : Int)) = true := decide_eq_true c4a
                have c4c : (0 : Int) ≤ (j : Int) := by omega
                have c4g : decide ((0 : Int) ≤ (j : Int)) = true := decide_eq_true c4c
                have c4h : (j : Int) + 1 ≤ 9223372036854775807 := by omega
                have c4e : (j : Int) < (lf.length : Int) := by omega
                have c4f : decide ((j : Int) < (lf.length : Int)) = true := decide_eq_true c4e
                obtain ⟨ad4, e4, hx4⟩ := Kd.at_int (Kd.V_reads' (LvI_get HL.out (.slice (some ad3) lw.length cw) lw (by simp))).2.2 (j : Int) c4c c4a
                obtain rfl : ad3 = ad4 := (by injection e4)
                rw [Int.toNat_natCast] at hx4
                have hq2 := List.all_eq_true.1 HQ2.out j (List.mem_range.2 c4)
                rw [Bool.not_eq_true'] at hq2
                cases c5 : decide (rd lw (j : Int) < rd lw (i : Int)) with
                | true =>
                  rw [c5, Bool.true_and] at hq2
                  obtain ⟨adf, e5, hx6⟩ := Kd.at_int (Kd.V_reads' (LvI_get HL.out (.slice Af lf.length cf) lf (by simp))).2.2 (i : Int) c3c c3e
                  cases e5
                  obtain ⟨ad6, e6, hx7⟩ := Kd.at_int (Kd.V_reads' (LvI_get HL.out (.slice (some adf) lf.length cf) lf (by simp))).2.2 (j : Int) c4c c4e
                  obtain rfl : adf = ad6 := (by injection e6)
                  rw [Int.toNat_natCast] at hx6 hx7
                  try go_wp2
                  have HL' := Aside0.mk (LvI_drew HL.out)
                  have HB' := Aside0.mk (below_drew1 HB.out)
                  clear HL HB
                  have HL := HL'
                  have HB := HB'
                  clear HL' HB'
                  replace hx6 : wr.drew.cell? (adf.add i) = some (.int .i64 (rd lf (i : Int))) := hx6
                  replace hx7 : wr.drew.cell? (adf.add j) = some (.int .i64 (rd lf (j : Int))) := hx7
                  refine start_ (n := 14) (S := fun w' => w'.cell? (adf.add i) = some (.int .i64 (rd lf (i : Int))) ∧ w'.cell? (adf.add j) = some (.int .i64 (rd lf (j : Int)))) (ds := []) #[false, false, false, false, false, false, false, false, false, false, false, false, false, false] (by kernel_rfl) rfl rfl ⟨hx6, hx7⟩ (fun hHeld => ?_); refine with_tabW bm_tab30 bm_bits30 (fun HT_ HW_ => ?_)
                  generalize wr.drew = w83 at HL HB hx6 hx7 hHeld ⊢
                  refine pure_ (i := 0) (N := some 218) (v := ?_) (a' := ?_) #[true, false, false, false, false, false, false, false, false, false, false, false, false, false] rfl rfl (any_of HT_.out (by kernel_rfl)) (fun _ _ _ h => h) (Or.inl ⟨by rfl, ?_⟩) ?_ ?_
                  rotate_left
                  · intro w'
                    go_simp
                    with_reducible rfl
                  rotate_left
                  · simp only [Act.put, List.setIfInBounds_toArray, List.set_cons_zero, List.set_cons_succ, i64_w, i32_w]
                    rfl
                  refine pure_ (i := 1) (N := some 219) (v := ?_) (a' := ?_) #[true, true, false, false, false, false, false, false, false, false, false, false, false, false] rfl rfl (any_of HT_.out (by kernel_rfl)) (fun _ _ _ h => h) (Or.inl ⟨by rfl, ?_⟩) ?_ ?_
                  rotate_left
                  · intro w'
                    go_simp
                    with_reducible rfl
                  rotate_left
                  · simp only [Act.put, List.setIfInBounds_toArray, List.set_cons_zero, List.set_cons_succ, i64_w, i32_w]
                    rfl
                  refine pure_ (i := 2) (N := some 220) (v := ?_) (a' := ?_) #[true, true, true, false, false, false, false, false, false, false, false, false, false, false] rfl rfl (any_of HT_.out (by kernel_rfl)) (fun _ _ _ h => h) (Or.inl ⟨by rfl, ?_⟩) ?_ ?_
                  rotate_left
                  · intro w'
                    go_simp
                    with_reducible rfl
                  rotate_left
                  · simp only [Act.put, List.setIfInBounds_toArray, List.set_cons_zero, List.set_cons_succ, i64_w, i32_w]
                    rfl
                  refine pure_ (i := 3) (N := some 221) (v := ?_) (a' := ?_) #[true, true, true, true, false, false, false, false, false, false, false, false, false, false] rfl rfl (any_of HT_.out (by kernel_rfl)) (fun _ _ _ h => h) (Or.inl ⟨by rfl, ?_⟩) ?_ ?_
                  rotate_left
                  · intro w'
                    go_simp
                    with_reducible rfl
                  rotate_left
                  · simp only [Act.put, List.setIfInBounds_toArray, List.set_cons_zero, List.set_cons_succ, i64_w, i32_w]
                    rfl
                  refine pure_ (i := 4) (N := some 222) (v := ?_) (a' := ?_) #[true, true, true, true, true, false, false, false, false, false, false, false, false, false] rfl rfl (any_of HT_.out (by kernel_rfl)) (fun _ _ _ h => h) (Or.inl ⟨by rfl, ?_⟩) ?_ ?_
                  rotate_left
                  · intro w'
                    go_simp
                    with_reducible rfl
                  rotate_left
                  · simp only [Act.put, List.setIfInBounds_toArray, List.set_cons_zero, List.set_cons_succ, i64_w, i32_w]
                    rfl
                  refine pure_ (i := 5) (N := some 223) (v := ?_) (a' := ?_) #[true, true, true, true, true, true, false, false, false, false, false, false, false, false] rfl rfl (any_of HT_.out (by kernel_rfl)) (fun _ _ _ h => h) (Or.inl ⟨by rfl, ?_⟩) ?_ ?_
                  rotate_left
                  · intro w'
                    go_simp
                    with_reducible rfl
                  rotate_left
                  · simp only [Act.put, List.setIfInBounds_toArray, List.set_cons_zero, List.set_cons_succ, i64_w, i32_w]
                    rfl
                  refine pure_ (i := 6) (N := some 224) (v := ?_) (a' := ?_) #[true, true, true, true, true, true, true, false, false, false, false, false, false, false] rfl rfl (any_of HT_.out (by kernel_rfl)) (fun _ _ _ h => h) (Or.inl ⟨by rfl, ?_⟩) ?_ ?_
                  rotate_left
                  · intro w'
                    go_simp
                    with_reducible rfl
                  rotate_left
                  · simp only [Act.put, List.setIfInBounds_toArray, List.set_cons_zero, List.set_cons_succ, i64_w, i32_w]
                    rfl
                  refine pure_ (i := 8) (N := some 226) (v := ?_) (a' := ?_) #[true, true, true, true, true, true, true, false, true, false, false, false, false, false] rfl rfl (any_of HT_.out (by kernel_rfl)) (fun _ _ _ h => h) (Or.inl ⟨by rfl, ?_⟩) ?_ ?_
                  rotate_left
                  · intro w'
                    go_simp
                    with_reducible rfl
                  rotate_left
                  · simp only [Act.put, List.setIfInBounds_toArray, List.set_cons_zero, List.set_cons_succ, i64_w, i32_w]
                    rfl
                  refine pure_ (i := 9) (N := some 227) (v := ?_) (a' := ?_) #[true, true, true, true, true, true, true, false, true, true, false, false, false, false] rfl rfl (any_of HT_.out (by kernel_rfl)) (fun _ _ _ h => h) (Or.inl ⟨by rfl, ?_⟩) ?_ ?_
                  rotate_left
                  · intro w'
                    go_simp
                    with_reducible rfl
                  rotate_left
                  · simp only [Act.put, List.setIfInBounds_toArray, List.set_cons_zero, List.set_cons_succ, i64_w, i32_w]
                    rfl
                  refine pure_ (i := 10) (N := some 228) (v := ?_) (a' := ?_) #[true, true, true, true, true, true, true, false, true, true, true, false, false, false] rfl rfl (any_of HT_.out (by kernel_rfl)) (fun _ _ _ h => h) (Or.inl ⟨by rfl, ?_⟩) ?_ ?_
                  rotate_left
                  · intro w'
                    go_simp
                    with_reducible rfl
                  rotate_left
                  · simp only [Act.put, List.setIfInBounds_toArray, List.set_cons_zero, List.set_cons_succ, i64_w, i32_w]
                    rfl
                  refine take_ (i := 7) (N := some 225) (v := ?_) (a' := ?_) #[true, true, true, true, true, true, true, true, true, true, true, false, false, false] rfl rfl (take_ofW HT_.out HW_.out (by kernel_rfl)) (fun _ _ _ h => h) (Or.inl ⟨by rfl, ?_⟩) hHeld ?_ ?_
                  rotate_left
                  · rintro w' ⟨s0, s1⟩
                    go_simp
                    with_reducible rfl
                  rotate_left
                  · simp only [Act.put, List.setIfInBounds_toArray, List.set_cons_zero, List.set_cons_succ, i64_w, i32_w]
                    rfl
                  refine take_ (i := 11) (N := some 229) (v := ?_) (a' := ?_) #[true, true, true, true, true, true, true, true, true, true, true, true, false, false] rfl rfl (take_ofW HT_.out HW_.out (by kernel_rfl)) (fun _ _ _ h => h) (Or.inl ⟨by rfl, ?_⟩) hHeld ?_ ?_
                  rotate_left
                  · rintro w' ⟨s0, s1⟩
                    go_simp
                    with_reducible rfl
                  rotate_left
                  · simp only [Act.put, List.setIfInBounds_toArray, List.set_cons_zero, List.set_cons_succ, i64_w, i32_w]
                    rfl
                  refine pure_ (i := 12) (N := some 230) (v := ?_) (a' := ?_) #[true, true, true, true, true, true, true, true, true, true, true, true, true, false] rfl rfl (any_of HT_.out (by kernel_rfl)) (fun _ _ _ h => h) (Or.inl ⟨by rfl, ?_⟩) ?_ ?_
                  rotate_left
                  · intro w'
                    go_simp
                    with_reducible rfl
                  rotate_left
                  · simp only [Act.put, List.setIfInBounds_toArray, List.set_cons_zero, List.set_cons_succ, i64_w, i32_w]
                    rfl
                  refine pure_ (i := 13) (N := some 231) (v := ?_) (a' := ?_) #[true, true, true, true, true, true, true, true, true, true, true, true, true, true] rfl rfl (any_of HT_.out (by kernel_rfl)) (fun _ _ _ h => h) (Or.inl ⟨by rfl, ?_⟩) ?_ ?_
                  rotate_left
                  · intro w'
                    go_simp
                    with_reducible rfl
                  rotate_left
                  · simp only [Act.put, List.setIfInBounds_toArray, List.set_cons_zero, List.set_cons_succ, i64_w, i32_w]
                    rfl
                  refine done_ (done_of HT_.out (by kernel_rfl)) ?_
                  try go_wp2
                  go_roundg (lw.length - (j + 1))
                  case measure => have := HJ.out.2; omega
                  case rel => exact ⟨j + 1, by simp, ⟨by omega, by omega⟩, ⟨(by repeat (first | (with_reducible exact HL.out) | apply LvI_drewN | apply LvI_drew))⟩, ⟨(by repeat (first | (with_reducible exact HB.out) | apply pw_below_drewN | apply below_drew1))⟩⟩
                | false =>
                  clear hq2
                  try go_wp2
                  have HL' := Aside0.mk (LvI_drew HL.out)
                  have HB' := Aside0.mk (below_drew1 HB.out)
                  clear HL HB
                  have HL := HL'
                  have HB := HB'
                  clear HL' HB'
                  refine start_ (n := 14) (S := fun w' => True) (ds := []) #[false, false, false, false, false, false, false, false, false, false, false, false, false, false] (by kernel_rfl) rfl rfl trivial (fun hHeld => ?_); refine with_tabW bm_tab30 bm_bits30 (fun HT_ HW_ => ?_)
                  generalize wr.drew = w84 at HL HB hHeld ⊢
                  refine pure_ (i := 0) (N := some 218) (v := ?_) (a' := ?_) #[true, false, false, false, false, false, false, false, false, false, false, false, false, false] rfl rfl (any_of HT_.out (by kernel_rfl)) (fun _ _ _ h => h) (Or.inl ⟨by rfl, ?_⟩) ?_ ?_
                  rotate_left
                  · intro w'
                    go_simp
                    with_reducible rfl
                  rotate_left
                  · simp only [Act.put, List.setIfInBounds_toArray, List.set_cons_zero, List.set_cons_succ, i64_w, i32_w]
                    rfl
                  refine pure_ (i := 1) (N := some 219) (v := ?_) (a' := ?_) #[true, true, false, false, false, false, false, false, false, false, false, false, false, false] rfl rfl (any_of HT_.out (by kernel_rfl)) (fun _ _ _ h => h) (Or.inl ⟨by rfl, ?_⟩) ?_ ?_
                  rotate_left
                  · intro w'
                    go_simp
                    with_reducible rfl
                  rotate_left
                  · simp only [Act.put, List.setIfInBounds_toArray, List.set_cons_zero, List.set_cons_succ, i64_w, i32_w]
                    rfl
                  refine pure_ (i := 2) (N := some 220) (v := ?_) (a' := ?_) #[true, true, true, false, false, false, false, false, false, false, false, false, false, false] rfl rfl (any_of HT_.out (by kernel_rfl)) (fun _ _ _ h => h) (Or.inl ⟨by rfl, ?_⟩) ?_ ?_
                  rotate_left
                  · intro w'
                    go_simp
                    with_reducible rfl
                  rotate_left
                  · simp only [Act.put, List.setIfInBounds_toArray, List.set_cons_zero, List.set_cons_succ, i64_w, i32_w]
                    rfl
                  refine pure_ (i := 3) (N := some 221) (v := ?_) (a' := ?_) #[true, true, true, true, false, false, false, false, false, false, false, false, false, false] rfl rfl (any_of HT_.out (by kernel_rfl)) (fun _ _ _ h => h) (Or.inl ⟨by rfl, ?_⟩) ?_ ?_
                  rotate_left
                  · intro w'
                    go_simp
                    with_reducible rfl
                  rotate_left
                  · simp only [Act.put, List.setIfInBounds_toArray, List.set_cons_zero, List.set_cons_succ, i64_w, i32_w]
                    rfl
                  refine pure_ (i := 4) (N := some 222) (v := undef) (a' := ?_) #[true, true, true, true, true, false, false, false, false, false, false, false, false, false] rfl rfl (any_of HT_.out (by kernel_rfl)) (fun _ _ _ h => h) (Or.inr ⟨by rfl, rfl⟩) ?_ ?_
                  rotate_left
                  · simp only [Act.put, List.setIfInBounds_toArray, List.set_cons_zero, List.set_cons_succ, i64_w, i32_w]
                    rfl
                  refine pure_ (i := 5) (N := some 223) (v := undef) (a' := ?_) #[true, true, true, true, true, true, false, false, false, false, false, false, false, false] rfl rfl (any_of HT_.out (by kernel_rfl)) (fun _ _ _ h => h) (Or.inr ⟨by rfl, rfl⟩) ?_ ?_
                  rotate_left
                  · simp only [Act.put, List.setIfInBounds_toArray, List.set_cons_zero, List.set_cons_succ, i64_w, i32_w]
                    rfl
                  refine pure_ (i := 6) (N := some 224) (v := undef) (a' := ?_) #[true, true, true, true, true, true, true, false, false, false, false, false, false, false] rfl rfl (any_of HT_.out (by kernel_rfl)) (fun _ _ _ h => h) (Or.inr ⟨by rfl, rfl⟩) ?_ ?_
                  rotate_left
                  · simp only [Act.put, List.setIfInBounds_toArray, List.set_cons_zero, List.set_cons_succ, i64_w, i32_w]
                    rfl
                  refine pure_ (i := 7) (N := some 225) (v := undef) (a' := ?_) #[true, true, true, true, true, true, true, true, false, false, false, false, false, false] rfl rfl (any_of HT_.out (by kernel_rfl)) (fun _ _ _ h => h) (Or.inr ⟨by rfl, rfl⟩) ?_ ?_
                  rotate_left
                  · simp only [Act.put, List.setIfInBounds_toArray, List.set_cons_zero, List.set_cons_succ, i64_w, i32_w]
                    rfl
                  refine pure_ (i := 8) (N := some 226) (v := undef) (a' := ?_) #[true, true, true, true, true, true, true, true, true, false, false, false, false, false] rfl rfl (any_of HT_.out (by kernel_rfl)) (fun _ _ _ h => h) (Or.inr ⟨by rfl, rfl⟩) ?_ ?_
                  rotate_left
                  · simp only [Act.put, List.setIfInBounds_toArray, List.set_cons_zero, List.set_cons_succ, i64_w, i32_w]
                    rfl
                  refine pure_ (i := 9) (N := some 227) (v := undef) (a' := ?_) #[true, true, true, true, true, true, true, true, true, true, false, false, false, false] rfl rfl (any_of HT_.out (by kernel_rfl)) (fun _ _ _ h => h) (Or.inr ⟨by rfl, rfl⟩) ?_ ?_
                  rotate_left
                  · simp only [Act.put, List.setIfInBounds_toArray, List.set_cons_zero, List.set_cons_succ, i64_w, i32_w]
                    rfl
                  refine pure_ (i := 10) (N := some 228) (v := undef) (a' := ?_) #[true, true, true, true, true, true, true, true, true, true, true, false, false, false] rfl rfl (any_of HT_.out (by kernel_rfl)) (fun _ _ _ h => h) (Or.inr ⟨by rfl, rfl⟩) ?_ ?_
                  rotate_left
                  · simp only [Act.put, List.setIfInBounds_toArray, List.set_cons_zero, List.set_cons_succ, i64_w, i32_w]
                    rfl
                  refine pure_ (i := 11) (N := some 229) (v := undef) (a' := ?_) #[true, true, true, true, true, true, true, true, true, true, true, true, false, false] rfl rfl (any_of HT_.out (by kernel_rfl)) (fun _ _ _ h => h) (Or.inr ⟨by rfl, rfl⟩) ?_ ?_
                  rotate_left
                  · simp only [Act.put, List.setIfInBounds_toArray, List.set_cons_zero, List.set_cons_succ, i64_w, i32_w]
                    rfl
                  refine pure_ (i := 12) (N := some 230) (v := undef) (a' := ?_) #[true, true, true, true, true, true, true, true, true, true, true, true, true, false] rfl rfl (any_of HT_.out (by kernel_rfl)) (fun _ _ _ h => h) (Or.inr ⟨by rfl, rfl⟩) ?_ ?_
                  rotate_left
                  · simp only [Act.put, List.setIfInBounds_toArray, List.set_cons_zero, List.set_cons_succ, i64_w, i32_w]
                    rfl
                  refine pure_ (i := 13) (N := some 231) (v := ?_) (a' := ?_) #[true, true, true, true, true, true, true, true, true, true, true, true, true, true] rfl rfl (any_of HT_.out (by kernel_rfl)) (fun _ _ _ h => h) (Or.inl ⟨by rfl, ?_⟩) ?_ ?_
                  rotate_left
                  · intro w'
                    go_simp
                    with_reducible rfl
                  rotate_left
                  · simp only [Act.put, List.setIfInBounds_toArray, List.set_cons_zero, List.set_cons_succ, i64_w, i32_w]
                    rfl
                  refine done_ (done_of HT_.out (by kernel_rfl)) ?_
                  try go_wp2
                  go_roundg (lw.length - (j + 1))
                  case measure => have := HJ.out.2; omega
                  case rel => exact ⟨j + 1, by simp, ⟨by omega, by omega⟩, ⟨(by repeat (first | (with_reducible exact HL.out) | apply LvI_drewN | apply LvI_drew))⟩, ⟨(by repeat (first | (with_reducible exact HB.out) | apply pw_below_drewN | apply below_drew1))⟩⟩
              · have c4a : ¬ (j : Int) < (lw.length : Int) := by omega
                have c4b : decide ((j : Int) < (lw.length : Int)) = false := decide_eq_false c4a
                go_wp2
                go_roundg (lw.length - (i + 1))
                case measure => have := HI.out.2; omega
                case rel => exact ⟨i + 1, by simp, ⟨by omega, by omega⟩, HL, HB⟩
          · have c3a : ¬ (i : Int) < (lw.length : Int) := by omega
            have c3b : decide ((i : Int) < (lw.length : Int)) = false := decide_eq_false c3a
            go_upto_region 34 with (fail)
            exact bm34 k A1 c1 l1 r w _ HR1 HC1 ⟨(by repeat (first | (with_reducible exact HB.out) | apply pw_below_drewN | apply below_drew1))⟩ H' _ _ _ _ _ _ _ _ _ _ _ _ _ _ _ _ _ _ _ _ _ _ _ _ _ _ _ _ _ _ _ _ _ _ _ _ _ _ _ _ _ _ _ _ _ _ _ _ _ _ _ _ _ _ _ _ _ _ _ _ _ _ _ _ _ _ _ _ _ _ _ _ _ _ _ _ _ _ _ _ _ _ _ _ _ _ _ _ _ _ _ _ _ _ _ _ _ _ _ _ _ _ _ _ _ _ _ _ _ _ _ _ _ _ _ _ _ _ _ _ _ _ _ _ _ _ _ _ _ _ _ _ _ _ _ _ _ _ _ _ _ _ _ _ _ _ _ _ _ _ _ _ _ _ _ _ _ _ _ _ _ _ _ _ _ _ _ _ _ _ _ _ _ _ _ _ _ _ _ _ _ _ _ _ _ _ _ _ _ _ _ _ _ _ _ _ _ _ _ _ _ _ _ _ _ _ _ _ _ _ _ _ _ _ _ _ _ _ _ _ _ _ _ _ _ _ _ _ _ _ _ _ _ _ _ _ _ _ _ _ _ _ _ _ _ _ _ _ _ _ _ _ _ _ _ _ _ _ _ _ _ _ _ _ _ _ _ _ _ _ _ _ _ _ _ _ _ _ _ _ _ _ _ _ _ _ _ _ _ _ _ _ _ _ _ _ _ _ _ _ _ _ _ _ _ _ _ _ _ _ _ _ _ _ _ _ _ _ _ _ _ _ _ _ _ _ _ _ _ _ _ _ _ _ _ _ _ _ _ _ _ _ _ _ _ _ _ _ _ _ _ _ _ _ _ _ _ _ _ _ _ _ _ _ _ _ _ _ _ _ _ _ _ _ _ _ _ _ _ _ _ _ _ _ _ _ _ _ _ _ _ _ _ _ _ _ _ _ _ _ _ _ _ _ _ _ (by assumption)
set_option maxHeartbeats 16000000 in
set_option maxRecDepth 100000 in
theorem laws_FnBestIsMerged.calls (k : Nat) (A0 : Option Addr) (c0 : Nat) (l0 : List Int) (A1 : Option Addr) (c1 : Nat) (l1 : List Int) (r : Bool) (w : World) (hr0 : Kd.C (Kd.int .u8) w A0 l0.length l0) (hc0 : l0.length ≤ c0) (hr1 : Kd.C (Kd.int .u8) w A1 l1.length l1) (hc1 : l1.length ≤ c1) (h : laws_FnBestIsMerged.f k l0 l1 = some r) :
    Calls Tryz.prog 3 #[.slice A0 l0.length c0, .slice A1 l1.length c1] w fun e w' => e = .returned (.bool r) ∧ Below w.heap.size w w' := by
  have HR0 := Aside0.mk hr0
  have HC0 := Aside0.mk hc0
  have HR1 := Aside0.mk hr1
  have HC1 := Aside0.mk hc1
  have HB := Aside0.mk (Below.refl w.heap.size w)
  have HL := Aside0.mk (LvI_nil w)
  unfold laws_FnBestIsMerged.f at h
  have H := h
  clear hr0 hc0 hr1 hc1 h
  replace H := Option.bind_eq_some_iff.mp H
  obtain ⟨b, D0, H⟩ := H
  have D0 := Aside0.mk D0
  cases b with
  | true =>
    rw [if_pos rfl] at H
    obtain rfl := Option.some.inj H
    clear H
    go_enter Tryz.func3, Tryz.ntmps3
    (try simp only [List.append_eq, List.cons_append, List.nil_append])
    go_wp2_with (((with_reducible refine gate_callee (f := 4) rfl ?_); refine goesL_ (some 58) rfl rfl Tryz.func4 (by kernel_rfl) rfl #[.slice A0 l0.length c0, .slice A1 l1.length c1] rfl (by (try simp only [List.map_toArray, List.map_cons, List.map_nil]); first | done | rfl) ?_; (with_reducible refine (laws_big.calls _ _ l0 _ _ l1 true _ (Kd.C_below HR0.out HB.out) HC0.out (Kd.C_below HR1.out HB.out) HC1.out D0.out).mono ?_); rintro e w9 ⟨rfl, hb⟩; refine ⟨_, rfl, ?_⟩; have hb := bm_drawn hb; have HB' := Aside0.mk (below_step HB.out hb); have HL' := Aside0.mk (LvI_below HL.out hb); clear HB HL; have HB := HB'; have HL := HL'; clear HB' HL' hb))
    go_ret
    exact ⟨rfl, HB.out⟩
  | false =>
    rw [if_neg (by simp)] at H
    replace H := Option.bind_eq_some_iff.mp H
    obtain ⟨⟨lw, m⟩, D1, H⟩ := H
    have D1 := Aside0.mk D1
    (try simp only at H)
    replace H := Option.bind_eq_some_iff.mp H
    obtain ⟨⟨lf, ok⟩, D2, H⟩ := H
    have D2 := Aside0.mk D2
    (try simp only at H)
    replace H := Option.bind_eq_some_iff.mp H
    obtain ⟨⟨lg, ok2⟩, D3, H⟩ := H
    have D3 := Aside0.mk D3
    (try simp only at H)
    replace H := Option.bind_eq_some_iff.mp H
    obtain ⟨⟨n, ok3⟩, D4, H⟩ := H
    have D4 := Aside0.mk D4
    (try simp only at H)
    replace H := Option.bind_eq_some_iff.mp H
    obtain ⟨⟨n2, ok4⟩, D5, H⟩ := H
    have D5 := Aside0.mk D5
    (try simp only at H)
    replace H := Option.bind_eq_some_iff.mp H
    obtain ⟨⟨c, three⟩, D6, H⟩ := H
    have D6 := Aside0.mk D6
    (try simp only at H)
    replace H := Option.bind_eq_some_iff.mp H
    obtain ⟨⟨c2, three2⟩, D7, H⟩ := H
    have D7 := Aside0.mk D7
    (try simp only at H)
    replace H := Option.bind_eq_some_iff.mp H
    obtain ⟨t, D8, H⟩ := H
    have D8 := Aside0.mk D8
    (try simp only at H)
    split at H
    case isFalse => cases H
    rename_i hq
    obtain ⟨q1, q2, q3, q4, q5, q6, q7, q8⟩ := hq
    subst q1
    subst q2
    subst q3
    subst q4
    subst q5
    subst q6
    subst q7
    have H' := Aside0.mk H
    clear H
    have Q8 := Aside0.mk q8
    clear q8
    go_enter Tryz.func3, Tryz.ntmps3
    (try simp only [List.append_eq, List.cons_append, List.nil_append])
    go_upto_region 10 with (first | ((with_reducible refine gate_callee (f := 4) rfl ?_); refine goesL_ (some 58) rfl rfl Tryz.func4 (by kernel_rfl) rfl #[.slice A0 l0.length c0, .slice A1 l1.length c1] rfl (by (try simp only [List.map_toArray, List.map_cons, List.map_nil]); first | done | rfl) ?_; (with_reducible refine (laws_big.calls _ _ l0 _ _ l1 false _ (Kd.C_below HR0.out HB.out) HC0.out (Kd.C_below HR1.out HB.out) HC1.out D0.out).mono ?_); rintro e w9 ⟨rfl, hb⟩; refine ⟨_, rfl, ?_⟩; have hb := bm_drawn hb; have HB' := Aside0.mk (below_step HB.out hb); have HL' := Aside0.mk (LvI_below HL.out hb); clear HB HL; have HB := HB'; have HL := HL'; clear HB' HL' hb) | ((with_reducible refine gate_callee (f := 5) rfl ?_); refine goesL_ (some 61) rfl rfl Tryz.func5 (by kernel_rfl) rfl #[.slice A0 l0.length c0] rfl (by (try simp only [List.map_toArray, List.map_cons, List.map_nil]); first | done | rfl) ?_; (with_reducible refine (spec_DrawFirstBest.calls k _ _ l0 lw m _ (Kd.C_below HR0.out HB.out) HC0.out D1.out).mono ?_); rintro e w9 ⟨v9, rfl, hr, hb⟩; refine ⟨_, rfl, ?_⟩; have HB' := Aside0.mk (below_step HB.out hb); have HL' := Aside0.mk (LvI_cons (LvI_below HL.out hb) (LvI_own hr)); clear HB HL hb hr; have HB := HB'; have HL := HL'; clear HB' HL'; obtain ⟨Aw, cw, ew⟩ := Kd.V_slice (show Kd.V (Kd.int .i64) 3 _ 0 (fun _ => True) v9 lw from HL.out (v9, lw) (by simp)); subst ew) | ((with_reducible refine gate_callee (f := 6) rfl ?_); refine goesL_ (some 67) rfl rfl Tryz.func6 (by kernel_rfl) rfl #[.slice Aw lw.length cw, .int .i64 m] rfl (by (try simp only [List.map_toArray, List.map_cons, List.map_nil]); first | done | rfl) ?_; (with_reducible refine (impl_FirstBest.calls k _ _ lw m lf _ _ (Kd.V_reads' (LvI_get HL.out (.slice Aw lw.length cw) lw (by simp))).2.2 (Kd.V_reads' (LvI_get HL.out (.slice Aw lw.length cw) lw (by simp))).2.1 D2.out).mono ?_); rintro e w9 ⟨v9, rfl, hr, hb⟩; refine ⟨_, rfl, ?_⟩; have HB' := Aside0.mk (below_step HB.out hb); have HL' := Aside0.mk (LvI_cons (LvI_below HL.out hb) (LvI_own hr)); clear HB HL hb hr; have HB := HB'; have HL := HL'; clear HB' HL'; obtain ⟨Af, cf, ef⟩ := Kd.V_slice (show Kd.V (Kd.int .i64) 3 _ 0 (fun _ => True) v9 lf from HL.out (v9, lf) (by simp)); subst ef) | ((with_reducible refine gate_callee (f := 7) rfl ?_); refine goesL_ (some 73) rfl rfl Tryz.func7 (by kernel_rfl) rfl #[.slice Aw lw.length cw, .int .i64 m] rfl (by (try simp only [List.map_toArray, List.map_cons, List.map_nil]); first | done | rfl) ?_; (with_reducible refine (spec_FirstBest.calls k _ _ lw m lg _ _ (Kd.V_reads' (LvI_get HL.out (.slice Aw lw.length cw) lw (by simp))).2.2 (Kd.V_reads' (LvI_get HL.out (.slice Aw lw.length cw) lw (by simp))).2.1 D3.out).mono ?_); rintro e w9 ⟨v9, rfl, hr, hb⟩; refine ⟨_, rfl, ?_⟩; have HB' := Aside0.mk (below_step HB.out hb); have HL' := Aside0.mk (LvI_cons (LvI_below HL.out hb) (LvI_own hr)); clear HB HL hb hr; have HB := HB'; have HL := HL'; clear HB' HL'; obtain ⟨Ag, cg, eg⟩ := Kd.V_slice (show Kd.V (Kd.int .i64) 3 _ 0 (fun _ => True) v9 lg from HL.out (v9, lg) (by simp)); subst eg) | ((with_reducible refine gate_callee (f := 8) rfl ?_); refine goesL_ (some 79) rfl rfl Tryz.func8 (by kernel_rfl) rfl #[.slice Aw lw.length cw, .int .i64 m] rfl (by (try simp only [List.map_toArray, List.map_cons, List.map_nil]); first | done | rfl) ?_; (with_reducible refine (impl_CountBest.calls k _ _ lw m _ _ _ (Kd.V_reads' (LvI_get HL.out (.slice Aw lw.length cw) lw (by simp))).2.2 (Kd.V_reads' (LvI_get HL.out (.slice Aw lw.length cw) lw (by simp))).2.1 D4.out).mono ?_); rintro e w9 ⟨rfl, hb⟩; refine ⟨_, rfl, ?_⟩; have HB' := Aside0.mk (below_step HB.out hb); have HL' := Aside0.mk (LvI_below HL.out hb); clear HB HL; have HB := HB'; have HL := HL'; clear HB' HL' hb) | ((with_reducible refine gate_callee (f := 9) rfl ?_); refine goesL_ (some 85) rfl rfl Tryz.func9 (by kernel_rfl) rfl #[.slice Aw lw.length cw, .int .i64 m] rfl (by (try simp only [List.map_toArray, List.map_cons, List.map_nil]); first | done | rfl) ?_; (with_reducible refine (spec_CountBest.calls k _ _ lw m _ _ _ (Kd.V_reads' (LvI_get HL.out (.slice Aw lw.length cw) lw (by simp))).2.2 (Kd.V_reads' (LvI_get HL.out (.slice Aw lw.length cw) lw (by simp))).2.1 D5.out).mono ?_); rintro e w9 ⟨rfl, hb⟩; refine ⟨_, rfl, ?_⟩; have HB' := Aside0.mk (below_step HB.out hb); have HL' := Aside0.mk (LvI_below HL.out hb); clear HB HL; have HB := HB'; have HL := HL'; clear HB' HL' hb) | ((with_reducible refine gate_callee (f := 10) rfl ?_); refine goesL_ (some 91) rfl rfl Tryz.func10 (by kernel_rfl) rfl #[.slice Aw lw.length cw, .int .i64 m] rfl (by (try simp only [List.map_toArray, List.map_cons, List.map_nil]); first | done | rfl) ?_; (with_reducible refine (impl_BestCost.calls k _ _ lw m _ _ _ (Kd.V_reads' (LvI_get HL.out (.slice Aw lw.length cw) lw (by simp))).2.2 (Kd.V_reads' (LvI_get HL.out (.slice Aw lw.length cw) lw (by simp))).2.1 D6.out).mono ?_); rintro e w9 ⟨rfl, hb⟩; refine ⟨_, rfl, ?_⟩; have HB' := Aside0.mk (below_step HB.out hb); have HL' := Aside0.mk (LvI_below HL.out hb); clear HB HL; have HB := HB'; have HL := HL'; clear HB' HL' hb) | ((with_reducible refine gate_callee (f := 11) rfl ?_); refine goesL_ (some 97) rfl rfl Tryz.func11 (by kernel_rfl) rfl #[.slice Aw lw.length cw, .int .i64 m] rfl (by (try simp only [List.map_toArray, List.map_cons, List.map_nil]); first | done | rfl) ?_; (with_reducible refine (spec_BestCost.calls k _ _ lw m _ _ _ (Kd.V_reads' (LvI_get HL.out (.slice Aw lw.length cw) lw (by simp))).2.2 (Kd.V_reads' (LvI_get HL.out (.slice Aw lw.length cw) lw (by simp))).2.1 D7.out).mono ?_); rintro e w9 ⟨rfl, hb⟩; refine ⟨_, rfl, ?_⟩; have HB' := Aside0.mk (below_step HB.out hb); have HL' := Aside0.mk (LvI_below HL.out hb); clear HB HL; have HB := HB'; have HL := HL'; clear HB' HL' hb))
    exact bm10 k lw lf lg m _ _ _ _ _ _ _ _ _ _ A1 c1 l1 r w _ HR1 HC1 HB HL D8 Q8.out H' _ _ _ _ _ _ _ _ _ _ _ _ _ _ _ _ _ _ _ _ _ _ _ _ _ _ _ _ _ _ _ _ _ _ _ _ _ _ _ _ _ _ _ _ _ _ _ _ _ _ _ _ _ _ _ _ _ _ _ _ _ _ _ _ _ _ _ _ _ _ _ _ _ _ _ _ _ _ _ _ _ _ _ _ _ _ _ _ _ _ _ _ _ _ _ _ _ _ _ _ _ _ _ _ _ _ _ _ _ _ _ _ _ _ _ _ _ _ _ _ _ _ _ _ _ _ _ _ _ _ _ _ _ _ _ _ _ _ _ _ _ _ _ _ _ _ _ _ _ _ _ _ _ _ _ _ _ _ _ _ _ _ _ _ _ _ _ _ _ _ _ _ _ _ _ _ _ _ _ _ _ _ _ _ _ _ _ _ _ _ _ _ _ _ _ _ _ _ _ _ _ _ _ _ _ _ _ _ _ _ _ _ _ _ _ _ _ _ _ _ _ _ _ _ _ _ _ _ _ _ _ _ _ _ _ _ _ _ _ _ _ _ _ _ _ _ _ _ _ _ _ _ _ _ _ _ _ _ _ _ _ _ _ _ _ _ _ _ _ _ _ _ _ _ _ _ _ _ _ _ _ _ _ _ _ _ _ _ _ _ _ _ _ _ _ _ _ _ _ _ _ _ _ _ _ _ _ _ _ _ _ _ _ _ _ _ _ _ _ _ _ _ _ _ _ _ _ _ _ _ _ _ _ _ _ _ _ _ _ _ _ _ _ _ _ _ _ _ _ _ _ _ _ _ _ _ _ _ _ _ _ _ _ _ _ _ _ _ _ _ _ _ _ _ _ _ _ _ _ _ _ _ _ _ _ _ _ _ _ _ _ _ _ (by assumption) (by assumption)
def laws_FnBestIsMerged.Pure : Prop := ∀ (l0 : List Int) (l1 : List Int), l0.length ≤ maxLen → l0.length * 1 ≤ 140737488351232 → (∀ x ∈ l0, (Lit.int .u8 x).wf = true) → l1.length ≤ maxLen → l1.length * 1 ≤ 140737488351232 → (∀ x ∈ l1, (Lit.int .u8 x).wf = true) → ∃ k, laws_FnBestIsMerged.f k l0 l1 = some true
theorem laws_FnBestIsMerged.walk (P : laws_FnBestIsMerged.Pure) (a0 : Option Addr) (len0 cap0 : Nat) (z0 : List Int) (a1 : Option Addr) (len1 cap1 : Nat) (z1 : List Int) (w : World) (w0 : (a0 = none ∧ len0 = 0 ∧ cap0 = 0 ∧ z0 = []) ∨ ∃ x, a0 = some x ∧ len0 ≤ cap0 ∧ cap0 ≤ maxLen ∧ z0.length = cap0 ∧ (∀ i, i < z0.length → w.cell? (x.add i) = some (.int .u8 (z0.getD i 0))) ∧ ∀ n ∈ z0, (Lit.int .u8 n).wf = true) (y0 : len0 * 1 ≤ 140737488351232) (w1 : (a1 = none ∧ len1 = 0 ∧ cap1 = 0 ∧ z1 = []) ∨ ∃ x, a1 = some x ∧ len1 ≤ cap1 ∧ cap1 ≤ maxLen ∧ z1.length = cap1 ∧ (∀ i, i < z1.length → w.cell? (x.add i) = some (.int .u8 (z1.getD i 0))) ∧ ∀ n ∈ z1, (Lit.int .u8 n).wf = true) (y1 : len1 * 1 ≤ 140737488351232) :
    Calls Tryz.prog 3 #[.slice a0 len0 cap0, .slice a1 len1 cap1] w fun e w' => e = .returned (.bool true) ∧ Below w.heap.size w w' := by
  obtain ⟨l0, rfl, hr0, hm0, hw0, hc0⟩ := ReadsInt.ofRowC w0
  obtain ⟨l1, rfl, hr1, hm1, hw1, hc1⟩ := ReadsInt.ofRowC w1
  obtain ⟨k, h⟩ := P l0 l1 hm0 y0 hw0 hm1 y1 hw1
  refine (laws_FnBestIsMerged.calls k _ _ l0 _ _ l1 true w (Kd.C_of_reads (d := (0 : Int)) (h1 := fun _ => rfl) hr0) hc0 (Kd.C_of_reads (d := (0 : Int)) (h1 := fun _ => rfl) hr1) hc1 h).mono ?_
  rintro e w' ⟨rfl, hd⟩
  exact ⟨rfl, hd⟩
end Go.Proofs.YtcdmmpbcjcajlaaGreat.XFnBestIsMerged
