-- by wip/shake.py
import Derived.Test.YtmanjfdchhipmaaGreatDoorXFnBestWithinx13
namespace Go.Proofs.YtmanjfdchhipmaaGreatDoor.XFnBestWithin
set_option maxHeartbeats 8000000
set_option maxRecDepth 100000
open Go.RowKit Go.Proofs.YtmanjfdchhipmaaGreatDoor.Hand Go.Proofs.YtmanjfdchhipmaaGreatDoorW.PrintWords Go.Proofs.YtmanjfdchhipmaaGreatDoorW.PrintLast Go.Proofs.YtmanjfdchhipmaaGreatDoorW.PrintMore
attribute [local go_sem] max2_int min2_int max_two min_two max_three min_three max_four min_four   -- for this text's walks alone
set_option linter.unusedVariables false
set_option linter.unusedSimpArgs false
theorem part_j8 {A0 : Option Addr} {c0 : Nat} {l0 : List Int} {A1 : Option Addr} {c1 : Nat} {l1 : List Int} {r : Bool} {w wc : World} {t452 : List Int} {t456 : List ByteArray} {Ao64 : Option Addr} {co64 : Nat} {v458 : Value} {kq : Nat} {x197_72 : Bool} {v197 : Value} (HR0 : Aside0 (Kd.C (Kd.int .u8) w A0 l0.length l0)) (HC0 : Aside0 (l0.length ≤ c0)) (HR1 : Aside0 (Kd.C (Kd.int .u8) w A1 l1.length l1)) (HC1 : Aside0 (l1.length ≤ c1)) (hv_v197 : v197 = .bool x197_72) (HA : Aside0 (laws_FnBestWithin.j8 kq t452 t456 x197_72 = some r)) (HJ72 : Aside0 (kq ≤ kq)) (HO_26 : Aside0 (Kd.R (Kd.int .i64) 3 wc w.heap.size (fun _ => True) (.slice Ao64 t452.length co64) t452)) (HO_28 : Aside0 (Kd.R Kd.string 9 wc w.heap.size (fun _ => True) v458 t456)) (HB : Aside0 (Below w.heap.size w wc)) {z0 z1 z2 z3 z4 z5 z6 z7 z8 z9 z10 z11 z12 z13 z14 z15 z16 z17 z18 z19 z20 z21 z22 z23 z24 z25 z27 z29 z30 z31 z32 z33 z34 z35 z36 z37 z38 z39 z40 z41 z42 z43 z44 z45 z46 z47 z48 z49 z50 z51 z52 z53 z54 z55 z56 z57 z58 z59 z60 z61 z62 z63 z64 z65 z66 z67 z68 z69 z70 z71 z72 z73 z74 z75 z76 z77 z78 z79 z80 z81 z82 z83 z84 z85 z86 z87 z88 z89 z90 z91 z92 z93 z94 z95 z96 z97 z98 z99 z100 z101 z102 z103 z104 z105 z106 z107 z108 z109 z110 z111 z112 z113 z114 z115 z116 z117 z118 z119 z120 z121 z122 z123 z124 z125 z126 z127 z128 z129 z130 z131 z132 z133 z134 z135 z136 z137 z138 z139 z140 z141 z142 z143 z144 z145 z146 z147 z148 z149 z150 z151 z152 z153 z154 z155 z156 z157 z158 z159 z160 z161 z162 z163 z164 z165 z166 z167 z168 z169 z170 z171 z172 z173 z174 z175 z176 z177 z178 z179 z180 z181 z182 z183 z184 z185 z186 z187 z188 z189 z190 z191 z192 z193 z194 z195 z196 z198 z199 z200 z201 z202 z203 z204 z205 z206 z207 z208 z209 z210 z211 z212 z213 z214 z215 z216 z217 : Value} {Kq10 : Act → World → Prop} (hKq10 : ∀ a w', Code.wp Tryz.prog (cB (cB (cB (cB (cB (cB (cB (cB (cB (cB (cB (cB (cB (cB (cB (cB (cB (Tryz.f3.body.getD .skip)))))))))))))))))) (bodyPost Tryz.prog Tryz.f3 (fun e w' => e = .returned (.bool r) ∧ Below w.heap.size w w')) a w' → Kq10 a w') {Kq11 : Act → World → Prop} (hKq11 : ∀ a w', Code.wp Tryz.prog (cB (cT (cB (cA (cB (cB (cB (cB (cB (cB (cB (cB (cB (cB (cB (cB (cB (cB (cB (cB (Tryz.f3.body.getD .skip))))))))))))))))))))) (Exit.then Kq10 (bodyPost Tryz.prog Tryz.f3 (fun e w' => e = .returned (.bool r) ∧ Below w.heap.size w w'))) a w' → Kq11 a w') {Kq12 : Act → World → Prop} (hKq12 : ∀ a w', Code.wp Tryz.prog (cB (cA (cT (cB (cA (cB (cB (cB (cB (cB (cB (cB (cB (cB (cB (cB (cB (cB (cB (cB (cB (Tryz.f3.body.getD .skip)))))))))))))))))))))) (Exit.then Kq11 (Exit.then Kq10 (bodyPost Tryz.prog Tryz.f3 (fun e w' => e = .returned (.bool r) ∧ Below w.heap.size w w')))) a w' → Kq12 a w') :
  Kq12 { tmps := #[z0, z1, z2, z3, z4, z5, z6, z7, z8, z9, z10, z11, z12, z13, z14, z15, z16, z17, z18, z19, z20, z21, z22, z23, z24, z25, .slice Ao64 t452.length co64, z27, v458, z29, z30, z31, z32, z33, z34, z35, z36, z37, z38, z39, z40, z41, z42, z43, z44, z45, z46, z47, z48, z49, z50, z51, z52, z53, z54, z55, z56, z57, z58, z59, z60, z61, z62, z63, z64, z65, z66, z67, z68, z69, z70, z71, z72, z73, z74, z75, z76, z77, z78, z79, z80, z81, z82, z83, z84, z85, z86, z87, z88, z89, z90, z91, z92, z93, z94, z95, z96, z97, z98, z99, z100, z101, z102, z103, z104, z105, z106, z107, z108, z109, z110, z111, z112, z113, z114, z115, z116, z117, z118, z119, z120, z121, z122, z123, z124, z125, z126, z127, z128, z129, z130, z131, z132, z133, z134, z135, z136, z137, z138, z139, z140, z141, z142, z143, z144, z145, z146, z147, z148, z149, z150, z151, z152, z153, z154, z155, z156, z157, z158, z159, z160, z161, z162, z163, z164, z165, z166, z167, z168, z169, z170, z171, z172, z173, z174, z175, z176, z177, z178, z179, z180, z181, z182, z183, z184, z185, z186, z187, z188, z189, z190, z191, z192, z193, z194, z195, z196, v197, z198, z199, z200, z201, z202, z203, z204, z205, z206, z207, z208, z209, z210, z211, z212, z213, z214, z215, z216, z217], defers := [] } wc := by
 replace hKq10 := seq_of rfl hKq10; (try simp only [List.append_eq, List.cons_append, List.nil_append] at hKq10)
 replace hKq11 := seq_of rfl hKq11; (try simp only [List.append_eq, List.cons_append, List.nil_append] at hKq11)
 replace hKq12 := cond_of rfl hKq12; (try simp only [List.append_eq, List.cons_append, List.nil_append] at hKq12)
 subst hv_v197
 have HJ14 := Aside0.mk (Nat.le_refl 0)
 have HJ33 := Aside0.mk (Nat.le_refl 0)
 have HJ37 := Aside0.mk (Nat.le_refl 0)
 have HJ39 := Aside0.mk (Nat.le_refl 0)
 have HJ61 := Aside0.mk (Nat.le_refl 0)
 have HJ7 := Aside0.mk (Nat.le_refl 0)
 cases kq with
 | zero => exact absurd HA.out (by simp [laws_FnBestWithin.j8])
 | succ kj72 =>
  have H := HA.out
  clear HA
  simp only [laws_FnBestWithin.j8] at H
  by_cases c78 : x197_72 = true
  ·subst c78
   rw [if_pos rfl] at H
   obtain rfl := Option.some.inj H
   go_wp2
   go_ret
   exact ⟨zF, zB HB.out⟩
  ·replace c78 := Bool.eq_false_iff.mpr c78
   subst c78
   rw [if_neg zN] at H
   have H' := Aside0.mk H
   clear H
   obtain ⟨Ao79, co79, eo79⟩ := Kd.R_slice HO_28.out
   subst eo79
   go_wp2
   go_loopg [200] kj72 (fun kq v200 w' => ∃ (x200_8 : Int), v200 = .int .i64 x200_8 ∧ Aside0 (laws_FnBestWithin.l1 kq t452 t456 (t456.length : Int) x200_8 = some r) ∧ Aside0 (kq ≤ kj72) ∧ Aside0 (Kd.R (Kd.int .i64) 3 w' w.heap.size (fun _ => True) (.slice Ao64 t452.length co64) t452) ∧ Aside0 (Kd.R Kd.string 9 w' w.heap.size (fun _ => True) (.slice Ao79 t456.length co79) t456) ∧ Aside0 (Below w.heap.size w w'))
   case atStart => exact ⟨(0), zE1, H', ⟨Nat.le_refl _⟩, ⟨zR HO_26.out⟩, ⟨zR HO_28.out⟩, ⟨zB HB.out⟩⟩
   case round =>
    clear H'
    try clear c1
    try clear c2
    try clear p2
    try clear c3
    try clear c4
    try clear c5
    try clear p5
    try clear q5
    try clear hx5
    try clear hf5
    try clear c6
    try clear p6
    try clear c7
    try clear c8
    try clear c9
    try clear c10
    try clear c11
    try clear c12
    try clear c13
    try clear c13b0
    try clear c13b1
    try clear c13b2
    try clear c14
    try clear c15
    try clear c16
    try clear c17
    try clear c20
    try clear c21
    try clear c21b0
    try clear c22
    try clear c22b0
    try clear c23
    try clear c24
    try clear c24b0
    try clear c26
    try clear c27
    try clear c27b0
    try clear c36
    try clear c36b0
    try clear c36b1
    try clear c36b2
    try clear c37
    try clear c39
    try clear c41
    try clear c42
    try clear c42b0
    try clear c42b1
    try clear c43
    try clear c43b0
    try clear c43b1
    try clear c47
    try clear c47b0
    try clear c48
    try clear c48b0
    try clear c49
    try clear c49b0
    try clear p50
    try clear q50
    try clear hx50
    try clear hf50
    try clear c54
    try clear c55
    try clear c55b0
    try clear c55b1
    try clear p64
    try clear c67
    try clear c67b0
    try clear c67b1
    try clear c67b2
    try clear c71
    try clear c72
    try clear c75
    try clear c78
    try clear hx50_0
    try clear p2
    try clear p5
    try clear p50
    try clear p6
    try clear p64
    try clear q5
    try clear q50
    obtain ⟨x200_8, rfl, HA, HK8, HO_26, HO_198, HB⟩ := hrel
    cases gk with
    | zero => exact absurd HA.out (by simp [laws_FnBestWithin.l1])
    | succ k8 =>
     have H := HA.out
     clear HA
     simp only [laws_FnBestWithin.l1] at H
     by_cases c80 : x200_8 < (t456.length : Int)
     ·rw [if_pos c80] at H
      have c80b0 : decide (x200_8 < (t456.length : Int)) = true := decide_eq_true c80
      clear c80
      by_cases c81 : 0 ≤ x200_8
      ·rw [if_pos c81] at H
       have c81b0 : decide (0 ≤ x200_8) = true := decide_eq_true c81
       clear c81
       by_cases c82 : x200_8 < (t456.length : Int)
       ·rw [if_pos c82] at H
        have c82b0 : decide (x200_8 < (t456.length : Int)) = true := decide_eq_true c82
        clear c82
        by_cases c83 : x200_8 < (t452.length : Int)
        ·rw [if_pos c83] at H
         have c83b0 : decide (x200_8 < (t452.length : Int)) = true := decide_eq_true c83
         clear c83
         by_cases c84 : ((rdOf ByteArray.empty t456 x200_8).size : Int) = (rd t452 x200_8)
         ·rw [if_pos c84] at H
          have c84b0 : (((rdOf ByteArray.empty t456 x200_8).size : Int) == (rd t452 x200_8)) = true := beq_iff_eq.mpr c84
          have c84b1 : (((rdOf ByteArray.empty t456 x200_8).size : Int) != (rd t452 x200_8)) = false := bne_eq_false_iff_eq.mpr c84
          clear c84
          replace H := Option.bind_eq_some_iff.mp H
          obtain ⟨t468, A850, H⟩ := H
          (try dsimp only at H)
          have A85 := Aside0.mk A850
          clear A850
          by_cases c86 : t468 = true
          ·subst c86
           rw [if_pos rfl] at H
           have H' := Aside0.mk H
           clear H
           have p466 : 0 ≤ (x200_8 : Int) := zD
           have q466 : x200_8 < (t456.length : Int) := zD
           obtain ⟨ad466, e466, hx466_0⟩ := Kd.at_string (Kd.R_reads' HO_198.out).2.2 x200_8 p466 q466
           cases e466
           replace p466 := eq_true p466
           replace q466 := eq_true q466
           have p467 : 0 ≤ (x200_8 : Int) := zD
           have q467 : x200_8 < (t452.length : Int) := zD
           obtain ⟨ad467, e467, hx467_0⟩ := Kd.at_int (Kd.R_reads' HO_26.out).2.2 x200_8 p467 q467
           cases e467
           replace p467 := eq_true p467
           replace q467 := eq_true q467
           go_wp2_with (first | (go_at_call 18; (with_reducible refine (impl_IsWord.calls (rdOf ByteArray.empty t456 x200_8) true _ A85.out).mono ?_); rintro e w87 ⟨rfl, hb⟩; have n0_ := Aside0.mk (Kd.R_below (zR HO_26.out) hb); have n1_ := Aside0.mk (Kd.R_below (zR HO_198.out) hb); have n2_ := Aside0.mk (below_step (zB HB.out) hb); clear HO_26; clear HO_198; clear HB; have HO_26 := n0_; have HO_198 := n1_; have HB := n2_; clear n0_ n1_ n2_; (try clear hb); (try clear hb2); (try clear hk); (try clear hi)))
           go_roundg k8
           case measure => have := HJ7.out; have := HJ14.out; have := HJ33.out; have := HJ37.out; have := HJ39.out; have := HJ61.out; have := HJ72.out; have := HK8.out; omega
           case rel => exact ⟨(wrap64 (x200_8 + 1)), zE1, H', ⟨by have := HJ7.out; have := HJ14.out; have := HJ33.out; have := HJ37.out; have := HJ39.out; have := HJ61.out; have := HJ72.out; have := HK8.out; omega⟩, ⟨zR HO_26.out⟩, ⟨zR HO_198.out⟩, ⟨zB HB.out⟩⟩
          ·replace c86 := Bool.eq_false_iff.mpr c86
           subst c86
           rw [if_neg zN] at H
           obtain rfl := Option.some.inj H
           have p466 : 0 ≤ (x200_8 : Int) := zD
           have q466 : x200_8 < (t456.length : Int) := zD
           obtain ⟨ad466, e466, hx466_0⟩ := Kd.at_string (Kd.R_reads' HO_198.out).2.2 x200_8 p466 q466
           cases e466
           replace p466 := eq_true p466
           replace q466 := eq_true q466
           have p467 : 0 ≤ (x200_8 : Int) := zD
           have q467 : x200_8 < (t452.length : Int) := zD
           obtain ⟨ad467, e467, hx467_0⟩ := Kd.at_int (Kd.R_reads' HO_26.out).2.2 x200_8 p467 q467
           cases e467
           replace p467 := eq_true p467
           replace q467 := eq_true q467
           go_wp2_with (first | (go_at_call 18; (with_reducible refine (impl_IsWord.calls (rdOf ByteArray.empty t456 x200_8) false _ A85.out).mono ?_); rintro e w88 ⟨rfl, hb⟩; have n0_ := Aside0.mk (Kd.R_below (zR HO_26.out) hb); have n1_ := Aside0.mk (Kd.R_below (zR HO_198.out) hb); have n2_ := Aside0.mk (below_step (zB HB.out) hb); clear HO_26; clear HO_198; clear HB; have HO_26 := n0_; have HO_198 := n1_; have HB := n2_; clear n0_ n1_ n2_; (try clear hb); (try clear hb2); (try clear hk); (try clear hi)))
           go_ret
           exact ⟨zF, zB HB.out⟩
         ·rw [if_neg c84] at H
          have c84b0 : (((rdOf ByteArray.empty t456 x200_8).size : Int) == (rd t452 x200_8)) = false := beq_eq_false_iff_ne.mpr c84
          have c84b1 : (((rdOf ByteArray.empty t456 x200_8).size : Int) != (rd t452 x200_8)) = true := bne_iff_ne.mpr c84
          obtain rfl := Option.some.inj H
          have p466 : 0 ≤ (x200_8 : Int) := zD
          have q466 : x200_8 < (t456.length : Int) := zD
          obtain ⟨ad466, e466, hx466_0⟩ := Kd.at_string (Kd.R_reads' HO_198.out).2.2 x200_8 p466 q466
          cases e466
          replace p466 := eq_true p466
          replace q466 := eq_true q466
          have p467 : 0 ≤ (x200_8 : Int) := zD
          have q467 : x200_8 < (t452.length : Int) := zD
          obtain ⟨ad467, e467, hx467_0⟩ := Kd.at_int (Kd.R_reads' HO_26.out).2.2 x200_8 p467 q467
          cases e467
          replace p467 := eq_true p467
          replace q467 := eq_true q467
          go_wp2
          go_ret
          exact ⟨zF, zB HB.out⟩
        ·rw [if_neg c83] at H
         exact absurd H (by simp)
       ·rw [if_neg c82] at H
        exact absurd H (by simp)
      ·rw [if_neg c81] at H
       exact absurd H (by simp)
     ·rw [if_neg c80] at H
      have c80b0 : decide (x200_8 < (t456.length : Int)) = false := decide_eq_false c80
      clear c80
      obtain rfl := Option.some.inj H
      go_wp2
      go_ret
      exact ⟨zF, zB HB.out⟩
theorem part_j7 {A0 : Option Addr} {c0 : Nat} {l0 : List Int} {A1 : Option Addr} {c1 : Nat} {l1 : List Int} {r : Bool} {w wc : World} {t452 : List Int} {t456 : List ByteArray} {t457 : Bool} {Ao64 : Option Addr} {co64 : Nat} {v458 : Value} {kq : Nat} {x186_61 : Bool} {v186 : Value} (HR0 : Aside0 (Kd.C (Kd.int .u8) w A0 l0.length l0)) (HC0 : Aside0 (l0.length ≤ c0)) (HR1 : Aside0 (Kd.C (Kd.int .u8) w A1 l1.length l1)) (HC1 : Aside0 (l1.length ≤ c1)) (hv_v186 : v186 = .bool x186_61) (HA : Aside0 (laws_FnBestWithin.j7 kq t452 t456 t457 x186_61 = some r)) (HJ61 : Aside0 (kq ≤ kq)) (HO_26 : Aside0 (Kd.R (Kd.int .i64) 3 wc w.heap.size (fun _ => True) (.slice Ao64 t452.length co64) t452)) (HO_28 : Aside0 (Kd.R Kd.string 9 wc w.heap.size (fun _ => True) v458 t456)) (HB : Aside0 (Below w.heap.size w wc)) {z0 z1 z2 z3 z4 z5 z6 z7 z8 z9 z10 z11 z12 z13 z14 z15 z16 z17 z18 z19 z20 z21 z22 z23 z24 z25 z27 z30 z31 z32 z33 z34 z35 z36 z37 z38 z39 z40 z41 z42 z43 z44 z45 z46 z47 z48 z49 z50 z51 z52 z53 z54 z55 z56 z57 z58 z59 z60 z61 z62 z63 z64 z65 z66 z67 z68 z69 z70 z71 z72 z73 z74 z75 z76 z77 z78 z79 z80 z81 z82 z83 z84 z85 z86 z87 z88 z89 z90 z91 z92 z93 z94 z95 z96 z97 z98 z99 z100 z101 z102 z103 z104 z105 z106 z107 z108 z109 z110 z111 z112 z113 z114 z115 z116 z117 z118 z119 z120 z121 z122 z123 z124 z125 z126 z127 z128 z129 z130 z131 z132 z133 z134 z135 z136 z137 z138 z139 z140 z141 z142 z143 z144 z145 z146 z147 z148 z149 z150 z151 z152 z153 z154 z155 z156 z157 z158 z159 z160 z161 z162 z163 z164 z165 z166 z167 z168 z169 z170 z171 z172 z173 z174 z175 z176 z177 z178 z179 z180 z181 z182 z183 z184 z185 z187 z188 z189 z190 z191 z192 z193 z194 z195 z196 z197 z198 z199 z200 z201 z202 z203 z204 z205 z206 z207 z208 z209 z210 z211 z212 z213 z214 z215 z216 z217 : Value} {Kq8 : Act → World → Prop} (hKq8 : ∀ a w', Code.wp Tryz.prog (cB (cB (cB (cB (cB (cB (cB (cB (cB (cB (cB (cB (cB (cB (cB (cB (Tryz.f3.body.getD .skip))))))))))))))))) (bodyPost Tryz.prog Tryz.f3 (fun e w' => e = .returned (.bool r) ∧ Below w.heap.size w w')) a w' → Kq8 a w') {Kq9 : Act → World → Prop} (hKq9 : ∀ a w', Code.wp Tryz.prog (cB (cA (cB (cB (cB (cB (cB (cB (cB (cB (cB (cB (cB (cB (cB (cB (cB (Tryz.f3.body.getD .skip)))))))))))))))))) (Exit.then Kq8 (bodyPost Tryz.prog Tryz.f3 (fun e w' => e = .returned (.bool r) ∧ Below w.heap.size w w'))) a w' → Kq9 a w') :
  Kq9 { tmps := #[z0, z1, z2, z3, z4, z5, z6, z7, z8, z9, z10, z11, z12, z13, z14, z15, z16, z17, z18, z19, z20, z21, z22, z23, z24, z25, .slice Ao64 t452.length co64, z27, v458, .bool t457, z30, z31, z32, z33, z34, z35, z36, z37, z38, z39, z40, z41, z42, z43, z44, z45, z46, z47, z48, z49, z50, z51, z52, z53, z54, z55, z56, z57, z58, z59, z60, z61, z62, z63, z64, z65, z66, z67, z68, z69, z70, z71, z72, z73, z74, z75, z76, z77, z78, z79, z80, z81, z82, z83, z84, z85, z86, z87, z88, z89, z90, z91, z92, z93, z94, z95, z96, z97, z98, z99, z100, z101, z102, z103, z104, z105, z106, z107, z108, z109, z110, z111, z112, z113, z114, z115, z116, z117, z118, z119, z120, z121, z122, z123, z124, z125, z126, z127, z128, z129, z130, z131, z132, z133, z134, z135, z136, z137, z138, z139, z140, z141, z142, z143, z144, z145, z146, z147, z148, z149, z150, z151, z152, z153, z154, z155, z156, z157, z158, z159, z160, z161, z162, z163, z164, z165, z166, z167, z168, z169, z170, z171, z172, z173, z174, z175, z176, z177, z178, z179, z180, z181, z182, z183, z184, z185, v186, z187, z188, z189, z190, z191, z192, z193, z194, z195, z196, z197, z198, z199, z200, z201, z202, z203, z204, z205, z206, z207, z208, z209, z210, z211, z212, z213, z214, z215, z216, z217], defers := [] } wc := by
 replace hKq8 := seq_of rfl hKq8; (try simp only [List.append_eq, List.cons_append, List.nil_append] at hKq8)
 replace hKq9 := cond_of rfl hKq9; (try simp only [List.append_eq, List.cons_append, List.nil_append] at hKq9)
 subst hv_v186
 cases kq with
 | zero => exact absurd HA.out (by simp [laws_FnBestWithin.j7])
 | succ kj61 =>
  have H := HA.out
  clear HA
  simp only [laws_FnBestWithin.j7] at H
  by_cases c71 : x186_61 = true
  ·subst c71
   rw [if_pos rfl] at H
   obtain rfl := Option.some.inj H
   go_wp2
   go_ret
   exact ⟨zF, zB HB.out⟩
  ·replace c71 := Bool.eq_false_iff.mpr c71
   subst c71
   rw [if_neg zN] at H
   by_cases c72 : t457 = true
   ·subst c72
    rw [if_pos rfl] at H
    have HC73 := Aside0.mk H
    clear H
    go_upto_region 37 with (fail)
    refine wp_cutK (by assumption) ?_
    intro Kq12 HKq12
    have H := HC73.out
    clear HC73
    replace H := Option.bind_eq_some_iff.mp H
    obtain ⟨t465, A740, H⟩ := H
    (try dsimp only at H)
    have A74 := Aside0.mk A740
    clear A740
    by_cases c75 : t465 = true
    ·subst c75
     rw [if_pos rfl] at H
     have H' := Aside0.mk H
     clear H
     obtain ⟨Ao76, co76, eo76⟩ := Kd.R_slice HO_28.out
     subst eo76
     go_wp2_with (first | ((with_reducible refine gate_callee (f := 17) rfl ?_); refine goesL_ (some 189) rfl rfl Tryz.func17 (by kernel_rfl) rfl #[.slice Ao76 t456.length co76] rfl (by (try simp only [List.map_toArray, List.map_cons, List.map_nil]); first | done | rfl | (simp only [List.length_drop, List.length_take]; rfl)) ?_; (with_reducible refine (laws_yPrefix.calls kj61 _ _ t456 true _ ?side1 ?side2 A74.out).mono ?_); (case side1 => exact zC (Kd.R_reads' HO_28.out).2.2); (case side2 => exact (Kd.R_reads' HO_28.out).2.1); rintro e w' ⟨rfl, ⟨nd, rfl⟩⟩; refine ⟨_, rfl, ?_⟩))
     (try simp only [Act.put, List.setIfInBounds_toArray, List.set_cons_zero, List.set_cons_succ])
     exact part_j8 (x197_72 := (((t456.length : Int) != (t452.length : Int)))) HR0 HC0 HR1 HC1 zE1 H' ⟨Nat.le_refl _⟩ ⟨zR HO_26.out⟩ ⟨zR HO_28.out⟩ ⟨zB HB.out⟩ (by assumption) (by assumption) HKq12.out
    ·replace c75 := Bool.eq_false_iff.mpr c75
     subst c75
     rw [if_neg zN] at H
     have H' := Aside0.mk H
     clear H
     obtain ⟨Ao77, co77, eo77⟩ := Kd.R_slice HO_28.out
     subst eo77
     go_wp2_with (first | ((with_reducible refine gate_callee (f := 17) rfl ?_); refine goesL_ (some 189) rfl rfl Tryz.func17 (by kernel_rfl) rfl #[.slice Ao77 t456.length co77] rfl (by (try simp only [List.map_toArray, List.map_cons, List.map_nil]); first | done | rfl | (simp only [List.length_drop, List.length_take]; rfl)) ?_; (with_reducible refine (laws_yPrefix.calls kj61 _ _ t456 false _ ?side1 ?side2 A74.out).mono ?_); (case side1 => exact zC (Kd.R_reads' HO_28.out).2.2); (case side2 => exact (Kd.R_reads' HO_28.out).2.1); rintro e w' ⟨rfl, ⟨nd, rfl⟩⟩; refine ⟨_, rfl, ?_⟩))
     (try simp only [Act.put, List.setIfInBounds_toArray, List.set_cons_zero, List.set_cons_succ])
     exact part_j8 (x197_72 := (true)) HR0 HC0 HR1 HC1 zE1 H' ⟨Nat.le_refl _⟩ ⟨zR HO_26.out⟩ ⟨zR HO_28.out⟩ ⟨zB HB.out⟩ (by assumption) (by assumption) HKq12.out
   ·replace c72 := Bool.eq_false_iff.mpr c72
    subst c72
    rw [if_neg zN] at H
    obtain rfl := Option.some.inj H
    go_wp2
    go_ret
    exact ⟨zF, zB HB.out⟩
theorem part_j6 {A0 : Option Addr} {c0 : Nat} {l0 : List Int} {A1 : Option Addr} {c1 : Nat} {l1 : List Int} {r : Bool} {w wc : World}  {kq : Nat} (HR0 : Aside0 (Kd.C (Kd.int .u8) w A0 l0.length l0)) (HC0 : Aside0 (l0.length ≤ c0)) (HR1 : Aside0 (Kd.C (Kd.int .u8) w A1 l1.length l1)) (HC1 : Aside0 (l1.length ≤ c1)) (HA : Aside0 (laws_FnBestWithin.j6 kq l1 = some r)) (HJ39 : Aside0 (kq ≤ kq)) (HB : Aside0 (Below w.heap.size w wc)) {z0 z2 z3 z4 z5 z6 z7 z8 z9 z10 z11 z12 z13 z14 z15 z16 z17 z18 z19 z20 z21 z22 z23 z24 z25 z26 z27 z28 z29 z30 z31 z32 z33 z34 z35 z36 z37 z38 z39 z40 z41 z42 z43 z44 z45 z46 z47 z48 z49 z50 z51 z52 z53 z54 z55 z56 z57 z58 z59 z60 z61 z62 z63 z64 z65 z66 z67 z68 z69 z70 z71 z72 z73 z74 z75 z76 z77 z78 z79 z80 z81 z82 z83 z84 z85 z86 z87 z88 z89 z90 z91 z92 z93 z94 z95 z96 z97 z98 z99 z100 z101 z102 z103 z104 z105 z106 z107 z108 z109 z110 z111 z112 z113 z114 z115 z116 z117 z118 z119 z120 z121 z122 z123 z124 z125 z126 z127 z128 z129 z130 z131 z132 z133 z134 z135 z136 z137 z138 z139 z140 z141 z142 z143 z144 z145 z146 z147 z148 z149 z150 z151 z152 z153 z154 z155 z156 z157 z158 z159 z160 z161 z162 z163 z164 z165 z166 z167 z168 z169 z170 z171 z172 z173 z174 z175 z176 z177 z178 z179 z180 z181 z182 z183 z184 z185 z186 z187 z188 z189 z190 z191 z192 z193 z194 z195 z196 z197 z198 z199 z200 z201 z202 z203 z204 z205 z206 z207 z208 z209 z210 z211 z212 z213 z214 z215 z216 z217 : Value} {Kq6 : Act → World → Prop} (hKq6 : ∀ a w', Code.wp Tryz.prog (cB (cB (cB (cB (cB (cB (cB (cB (cB (cB (cB (cB (Tryz.f3.body.getD .skip))))))))))))) (bodyPost Tryz.prog Tryz.f3 (fun e w' => e = .returned (.bool r) ∧ Below w.heap.size w w')) a w' → Kq6 a w') :
  Kq6 { tmps := #[z0, .slice A1 l1.length c1, z2, z3, z4, z5, z6, z7, z8, z9, z10, z11, z12, z13, z14, z15, z16, z17, z18, z19, z20, z21, z22, z23, z24, z25, z26, z27, z28, z29, z30, z31, z32, z33, z34, z35, z36, z37, z38, z39, z40, z41, z42, z43, z44, z45, z46, z47, z48, z49, z50, z51, z52, z53, z54, z55, z56, z57, z58, z59, z60, z61, z62, z63, z64, z65, z66, z67, z68, z69, z70, z71, z72, z73, z74, z75, z76, z77, z78, z79, z80, z81, z82, z83, z84, z85, z86, z87, z88, z89, z90, z91, z92, z93, z94, z95, z96, z97, z98, z99, z100, z101, z102, z103, z104, z105, z106, z107, z108, z109, z110, z111, z112, z113, z114, z115, z116, z117, z118, z119, z120, z121, z122, z123, z124, z125, z126, z127, z128, z129, z130, z131, z132, z133, z134, z135, z136, z137, z138, z139, z140, z141, z142, z143, z144, z145, z146, z147, z148, z149, z150, z151, z152, z153, z154, z155, z156, z157, z158, z159, z160, z161, z162, z163, z164, z165, z166, z167, z168, z169, z170, z171, z172, z173, z174, z175, z176, z177, z178, z179, z180, z181, z182, z183, z184, z185, z186, z187, z188, z189, z190, z191, z192, z193, z194, z195, z196, z197, z198, z199, z200, z201, z202, z203, z204, z205, z206, z207, z208, z209, z210, z211, z212, z213, z214, z215, z216, z217], defers := [] } wc := by
 replace hKq6 := seq_of rfl hKq6; (try simp only [List.append_eq, List.cons_append, List.nil_append] at hKq6)
 cases kq with
 | zero => exact absurd HA.out (by simp [laws_FnBestWithin.j6])
 | succ kj39 =>
  have H := HA.out
  clear HA
  simp only [laws_FnBestWithin.j6] at H
  replace H := Option.bind_eq_some_iff.mp H
  obtain ⟨⟨t452, t453⟩, A590, H⟩ := H
  (try dsimp only at H)
  have A59 := Aside0.mk A590
  clear A590
  replace H := Option.bind_eq_some_iff.mp H
  obtain ⟨⟨t456, t457⟩, A600, H⟩ := H
  (try dsimp only at H)
  have A60 := Aside0.mk A600
  clear A600
  replace H := Option.bind_eq_some_iff.mp H
  obtain ⟨⟨t460, t461⟩, A610, H⟩ := H
  (try dsimp only at H)
  have A61 := Aside0.mk A610
  clear A610
  have HC62 := Aside0.mk H
  clear H
  go_upto_region 34 with (first | ((with_reducible refine gate_callee (f := 13) rfl ?_); refine goesL_ (some 163) rfl rfl Tryz.func13 (by kernel_rfl) rfl #[.slice A1 l1.length c1] rfl (by (try simp only [List.map_toArray, List.map_cons, List.map_nil]); first | done | rfl | (simp only [List.length_drop, List.length_take]; rfl)) ?_; (with_reducible refine (spec_DrawWordsFor.calls kj39 _ _ l1 t452 t453 _ ?side1 ?side2 A59.out).mono ?_); (case side1 => exact zC (Kd.C_below HR1.out HB.out)); (case side2 => exact HC1.out); rintro e w63 ⟨v454, rfl, ho0, hb⟩; refine ⟨_, rfl, ?_⟩; have n0_ := Aside0.mk (Kd.R_lower ho0 (below_size (zB HB.out))); have n1_ := Aside0.mk (below_step (zB HB.out) hb); clear HB; have HO455 := n0_; have HB := n1_; clear n0_ n1_; (try clear hb); (try clear hb2); (try clear hk); (try clear hi); (try clear ho0); obtain ⟨Ao64, co64, eo64⟩ := Kd.R_slice HO455.out; subst eo64) | ((with_reducible refine gate_callee (f := 14) rfl ?_); refine goesL_ (some 169) rfl rfl Tryz.func14 (by kernel_rfl) rfl #[.slice Ao64 t452.length co64, .int .i64 t453] rfl (by (try simp only [List.map_toArray, List.map_cons, List.map_nil]); first | done | rfl | (simp only [List.length_drop, List.length_take]; rfl)) ?_; (with_reducible refine (impl_WordsFor.calls kj39 _ _ t452 t453 t456 t457 _ ?side1 ?side2 A60.out).mono ?_); (case side1 => exact zC (Kd.R_reads' HO455.out).2.2); (case side2 => exact (Kd.R_reads' HO455.out).2.1); rintro e w65 ⟨v458, rfl, ho0, hb⟩; refine ⟨_, rfl, ?_⟩; have n0_ := Aside0.mk (Kd.R_below (zR HO455.out) hb); have n1_ := Aside0.mk (Kd.R_lower ho0 (below_size (zB HB.out))); have n2_ := Aside0.mk (below_step (zB HB.out) hb); clear HO455; clear HB; have HO455 := n0_; have HO459 := n1_; have HB := n2_; clear n0_ n1_ n2_; (try clear hb); (try clear hb2); (try clear hk); (try clear hi); (try clear ho0)) | ((with_reducible refine gate_callee (f := 15) rfl ?_); refine goesL_ (some 175) rfl rfl Tryz.func15 (by kernel_rfl) rfl #[.slice Ao64 t452.length co64, .int .i64 t453] rfl (by (try simp only [List.map_toArray, List.map_cons, List.map_nil]); first | done | rfl | (simp only [List.length_drop, List.length_take]; rfl)) ?_; (with_reducible refine (spec_WordsFor.calls kj39 _ _ t452 t453 t460 t461 _ ?side1 ?side2 A61.out).mono ?_); (case side1 => exact zC (Kd.R_reads' HO455.out).2.2); (case side2 => exact (Kd.R_reads' HO455.out).2.1); rintro e w66 ⟨v462, rfl, ho0, hb⟩; refine ⟨_, rfl, ?_⟩; have n0_ := Aside0.mk (Kd.R_below (zR HO455.out) hb); have n1_ := Aside0.mk (Kd.R_elder' (zR HO459.out) (Kd.R_base ho0) hb); have n2_ := Aside0.mk (Kd.R_lower (Kd.R_new' ho0 (Kd.R_lt (zR HO459.out))) (below_size (zB HB.out))); have n3_ := Aside0.mk (below_step (zB HB.out) hb); clear HO455; clear HO459; clear HB; have HO455 := n0_; have HO459 := n1_; have HO463 := n2_; have HB := n3_; clear n0_ n1_ n2_ n3_; (try clear hb); (try clear hb2); (try clear hk); (try clear hi); (try clear ho0)))
  (try simp only [Act.put, List.setIfInBounds_toArray, List.set_cons_zero, List.set_cons_succ])
  refine wp_cutK (by assumption) ?_
  intro Kq9 HKq9
  have H := HC62.out
  clear HC62
  by_cases c67 : (t457 != t461) = true
  ·rw [if_pos c67] at H
   have c67b0 : (t457 != t461) = true := c67
   (try (have c67b1 : decide (t457 = t461) = false := by simpa using c67))
   (try (have c67b2 : (t457 == t461) = false := by simpa using c67))
   (try (have c67b3 : ¬ (t457 = t461) := by simpa using c67))
   clear c67
   (first | rw [c67b0] | (simp only [i64_w, i32_w]; rw [c67b0]) | skip)
   have H' := Aside0.mk H
   clear H
   go_wp2
   (try simp only [Act.put, List.setIfInBounds_toArray, List.set_cons_zero, List.set_cons_succ])
   exact part_j7 (x186_61 := (true)) HR0 HC0 HR1 HC1 zE1 H' ⟨Nat.le_refl _⟩ ⟨zR HO455.out⟩ ⟨by (with_reducible repeat (first | apply Kd.R_alloc | apply Kd.R_drewN | apply Kd.R_drew)); exact Kd.R_mono HO459.out (fun _ hk => trivial)⟩ ⟨zB HB.out⟩ (by assumption) HKq9.out
  ·rw [if_neg c67] at H
   have c67b0 : (t457 != t461) = false := by simpa using c67
   (try (have c67b1 : decide (t457 = t461) = true := by simpa using c67))
   (try (have c67b2 : (t457 == t461) = true := by simpa using c67))
   clear c67
   (first | rw [c67b0] | (simp only [i64_w, i32_w]; rw [c67b0]) | skip)
   replace H := Option.bind_eq_some_iff.mp H
   obtain ⟨t464, A680, H⟩ := H
   (try dsimp only at H)
   have A68 := Aside0.mk A680
   clear A680
   have H' := Aside0.mk H
   clear H
   obtain ⟨Ao69, co69, eo69⟩ := Kd.R_slice HO459.out
   subst eo69
   obtain ⟨Ao70, co70, eo70⟩ := Kd.R_slice HO463.out
   subst eo70
   go_wp2_with (first | (go_at_call 16; (with_reducible refine (laws_yTexts.calls kj39 _ _ t456 _ _ t460 t464 _ ?side1 ?side2 ?side3 ?side4 A68.out).mono ?_); (case side1 => exact zC (Kd.R_reads' HO459.out).2.2); (case side2 => exact (Kd.R_reads' HO459.out).2.1); (case side3 => exact zC (Kd.R_reads' HO463.out).2.2); (case side4 => exact (Kd.R_reads' HO463.out).2.1); rintro e w' ⟨rfl, ⟨nd, rfl⟩⟩))
   (try simp only [Act.put, List.setIfInBounds_toArray, List.set_cons_zero, List.set_cons_succ])
   exact part_j7 (x186_61 := (!t464)) HR0 HC0 HR1 HC1 zE1 H' ⟨Nat.le_refl _⟩ ⟨zR HO455.out⟩ ⟨by (with_reducible repeat (first | apply Kd.R_alloc | apply Kd.R_drewN | apply Kd.R_drew)); exact Kd.R_mono HO459.out (fun _ hk => trivial)⟩ ⟨zB HB.out⟩ (by assumption) HKq9.out
theorem part_j4 {A0 : Option Addr} {c0 : Nat} {l0 : List Int} {A1 : Option Addr} {c1 : Nat} {l1 : List Int} {r : Bool} {w wc : World} {t440 : Int} {t441 : Int} {t442 : Int} {kq : Nat} {x136_37 : Bool} {v136 : Value} (HR0 : Aside0 (Kd.C (Kd.int .u8) w A0 l0.length l0)) (HC0 : Aside0 (l0.length ≤ c0)) (HR1 : Aside0 (Kd.C (Kd.int .u8) w A1 l1.length l1)) (HC1 : Aside0 (l1.length ≤ c1)) (hv_v136 : v136 = .bool x136_37) (HA : Aside0 (laws_FnBestWithin.j4 kq l1 t440 t441 t442 x136_37 = some r)) (HJ37 : Aside0 (kq ≤ kq)) (HB : Aside0 (Below w.heap.size w wc)) {z0 z2 z3 z4 z5 z6 z7 z8 z9 z10 z11 z12 z13 z14 z15 z19 z20 z21 z22 z23 z24 z25 z26 z27 z28 z29 z30 z31 z32 z33 z34 z35 z36 z37 z38 z39 z40 z41 z42 z43 z44 z45 z46 z47 z48 z49 z50 z51 z52 z53 z54 z55 z56 z57 z58 z59 z60 z61 z62 z63 z64 z65 z66 z67 z68 z69 z70 z71 z72 z73 z74 z75 z76 z77 z78 z79 z80 z81 z82 z83 z84 z85 z86 z87 z88 z89 z90 z91 z92 z93 z94 z95 z96 z97 z98 z99 z100 z101 z102 z103 z104 z105 z106 z107 z108 z109 z110 z111 z112 z113 z114 z115 z116 z117 z118 z119 z120 z121 z122 z123 z124 z125 z126 z127 z128 z129 z130 z131 z132 z133 z134 z135 z137 z138 z139 z140 z141 z142 z143 z144 z145 z146 z147 z148 z149 z150 z151 z152 z153 z154 z155 z156 z157 z158 z159 z160 z161 z162 z163 z164 z165 z166 z167 z168 z169 z170 z171 z172 z173 z174 z175 z176 z177 z178 z179 z180 z181 z182 z183 z184 z185 z186 z187 z188 z189 z190 z191 z192 z193 z194 z195 z196 z197 z198 z199 z200 z201 z202 z203 z204 z205 z206 z207 z208 z209 z210 z211 z212 z213 z214 z215 z216 z217 : Value} {Kq6 : Act → World → Prop} (hKq6 : ∀ a w', Code.wp Tryz.prog (cB (cB (cB (cB (cB (cB (cB (cB (cB (cB (cB (cB (Tryz.f3.body.getD .skip))))))))))))) (bodyPost Tryz.prog Tryz.f3 (fun e w' => e = .returned (.bool r) ∧ Below w.heap.size w w')) a w' → Kq6 a w') {Kq7 : Act → World → Prop} (hKq7 : ∀ a w', Code.wp Tryz.prog (cB (cA (cB (cB (cB (cB (cB (cB (cB (cB (cB (cB (cB (Tryz.f3.body.getD .skip)))))))))))))) (Exit.then Kq6 (bodyPost Tryz.prog Tryz.f3 (fun e w' => e = .returned (.bool r) ∧ Below w.heap.size w w'))) a w' → Kq7 a w') :
  Kq7 { tmps := #[z0, .slice A1 l1.length c1, z2, z3, z4, z5, z6, z7, z8, z9, z10, z11, z12, z13, z14, z15, .int .i64 t440, .int .i64 t441, .int .i64 t442, z19, z20, z21, z22, z23, z24, z25, z26, z27, z28, z29, z30, z31, z32, z33, z34, z35, z36, z37, z38, z39, z40, z41, z42, z43, z44, z45, z46, z47, z48, z49, z50, z51, z52, z53, z54, z55, z56, z57, z58, z59, z60, z61, z62, z63, z64, z65, z66, z67, z68, z69, z70, z71, z72, z73, z74, z75, z76, z77, z78, z79, z80, z81, z82, z83, z84, z85, z86, z87, z88, z89, z90, z91, z92, z93, z94, z95, z96, z97, z98, z99, z100, z101, z102, z103, z104, z105, z106, z107, z108, z109, z110, z111, z112, z113, z114, z115, z116, z117, z118, z119, z120, z121, z122, z123, z124, z125, z126, z127, z128, z129, z130, z131, z132, z133, z134, z135, v136, z137, z138, z139, z140, z141, z142, z143, z144, z145, z146, z147, z148, z149, z150, z151, z152, z153, z154, z155, z156, z157, z158, z159, z160, z161, z162, z163, z164, z165, z166, z167, z168, z169, z170, z171, z172, z173, z174, z175, z176, z177, z178, z179, z180, z181, z182, z183, z184, z185, z186, z187, z188, z189, z190, z191, z192, z193, z194, z195, z196, z197, z198, z199, z200, z201, z202, z203, z204, z205, z206, z207, z208, z209, z210, z211, z212, z213, z214, z215, z216, z217], defers := [] } wc := by
 replace hKq6 := seq_of rfl hKq6; (try simp only [List.append_eq, List.cons_append, List.nil_append] at hKq6)
 replace hKq7 := cond_of rfl hKq7; (try simp only [List.append_eq, List.cons_append, List.nil_append] at hKq7)
 subst hv_v136
 have HJ14 := Aside0.mk (Nat.le_refl 0)
 have HJ33 := Aside0.mk (Nat.le_refl 0)
 have HJ7 := Aside0.mk (Nat.le_refl 0)
 cases kq with
 | zero => exact absurd HA.out (by simp [laws_FnBestWithin.j4])
 | succ kj37 =>
  have H := HA.out
  clear HA
  simp only [laws_FnBestWithin.j4] at H
  have HC40 := Aside0.mk H
  clear H
  go_upto_if 136 with (fail)
  refine wp_cutK (by assumption) ?_
  intro Kq6 HKq6
  have H := HC40.out
  clear HC40
  by_cases c41 : x136_37 = true
  ·subst c41
   rw [if_pos rfl] at H
   by_cases c42 : 0 ≤ t440
   ·rw [if_pos c42] at H
    have c42b0 := eq_true c42
    have c42b1 : decide (0 ≤ t440) = true := decide_eq_true c42
    clear c42
    by_cases c43 : (t440 : Int).toNat ≤ 35184372088832
    ·rw [if_pos c43] at H
     have c43b0 := eq_true c43
     have c43b1 : decide ((t440 : Int).toNat ≤ 35184372088832) = true := decide_eq_true c43
     clear c43
     obtain ⟨y446, hy446⟩ : ∃ y_ : List Int, y_ = (List.replicate (t440 : Int).toNat 0) := ⟨_, rfl⟩
     replace H : (laws_FnBestWithin.l0 kj37 l1 t441 t442 y446 (y446.length : Int) 0) = some r := by first | (rw [hy446]; with_reducible exact H) | (have H2_ := (Option.bind_some _ _).symm.trans H; rw [hy446]; with_reducible exact H2_) | (have H2_ := (Option.bind_some _ _).symm.trans H; with_reducible exact H2_) | with_reducible exact H | (rw [hy446]; exact H) | exact H
     have Ny446 := Aside0.mk hy446
     clear hy446
     have H' := Aside0.mk H
     clear H
     go_wp2_with (first | ((with_reducible refine gate_dst (N := 138) rfl ?_); (try (refine gate_guard (by rfl) ?_; dsimp only)); refine Kd.R_make (Kd.int .i64) _ 3 rfl (N := 138) rfl 24 _ _ rfl t440 rfl rfl Tryz.underlying24 (.int .i64 0) 8 info3 rfl (by decide) (by omega) 0 (ok := fun _ => True) (okp := fun _ => True) rfl (fun _ hk => hk) trivial (zD) (Nat.le_trans (Nat.mul_le_mul_right _ (zD : t440.toNat ≤ 35184372088832)) (by omega)) (Below.refl _ _) (Nat.le_refl _) ?_; intro v447 w44 ho45 hb hg_ hnew_; clear hg_ hnew_; (first | rw [← Ny446.out] at ho45 | (simp only [Int.reduceToNat] at ho45; rw [← Ny446.out] at ho45)); have n0_ := Aside0.mk (Kd.R_lower ho45 (below_size (zB HB.out))); have n1_ := Aside0.mk (below_step (zB HB.out) hb); clear HB; have HO448 := n0_; have HB := n1_; clear n0_ n1_; clear hb ho45; obtain ⟨Ao46, co46, eo46⟩ := Kd.R_slice HO448.out; subst eo46))
     go_loopg [141] kj37 (fun kq v141 w' => ∃ (x22_5 : List Int) (x141_5 : Int), v141 = .int .i64 x141_5 ∧ Aside0 (laws_FnBestWithin.l0 kq l1 t441 t442 x22_5 (y446.length : Int) x141_5 = some r) ∧ Aside0 (kq ≤ kj37) ∧ Aside0 (Kd.R (Kd.int .i64) 3 w' w.heap.size (fun _ => True) (.slice Ao46 y446.length co46) x22_5) ∧ Aside0 (Below w.heap.size w w'))
     case atStart => exact ⟨(y446), (0), zE1, H', ⟨Nat.le_refl _⟩, ⟨zR HO448.out⟩, ⟨zB HB.out⟩⟩
     case round =>
      clear H'
      try clear c1
      try clear c2
      try clear p2
      try clear c3
      try clear c4
      try clear c5
      try clear c6
      try clear p6
      try clear c7
      try clear c8
      try clear c9
      try clear c10
      try clear c11
      try clear c12
      try clear c13
      try clear c13b0
      try clear c13b1
      try clear c13b2
      try clear c14
      try clear c16
      try clear c20
      try clear c21
      try clear c21b0
      try clear c22
      try clear c22b0
      try clear c23
      try clear c24
      try clear c24b0
      try clear c26
      try clear c27
      try clear c27b0
      try clear c36
      try clear c36b0
      try clear c36b1
      try clear c36b2
      try clear c37
      try clear c39
      try clear c41
      try clear c42
      try clear c42b0
      try clear c42b1
      try clear c43
      try clear c43b0
      try clear c43b1
      try clear p2
      try clear p6
      obtain ⟨x22_5, x141_5, rfl, HA, HK5, HO_22, HB⟩ := hrel
      have hl22_5 := (Kd.R_reads' HO_22.out).1
      rw [hl22_5] at HO_22
      (try simp only [hl22_5])
      cases gk with
      | zero => exact absurd HA.out (by simp [laws_FnBestWithin.l0])
      | succ k5 =>
       have H := HA.out
       clear HA
       simp only [laws_FnBestWithin.l0] at H
       by_cases c47 : x141_5 < (y446.length : Int)
       ·rw [if_pos c47] at H
        have c47b0 : decide (x141_5 < (y446.length : Int)) = true := decide_eq_true c47
        (try (have c47h0 := c47b0; simp only [hl22_5] at c47h0))
        clear c47
        (first | rw [c47b0] | (simp only [i64_w, i32_w]; rw [c47b0]) | skip)
        by_cases c48 : 0 ≤ x141_5
        ·rw [if_pos c48] at H
         have c48b0 : decide (0 ≤ x141_5) = true := decide_eq_true c48
         (try (have c48h0 := c48b0; simp only [hl22_5] at c48h0))
         clear c48
         by_cases c49 : x141_5 < (x22_5.length : Int)
         ·rw [if_pos c49] at H
          have c49b0 : decide (x141_5 < (x22_5.length : Int)) = true := decide_eq_true c49
          (try (have c49h0 := c49b0; simp only [hl22_5] at c49h0))
          clear c49
          obtain ⟨y449, hy449⟩ : ∃ y_ : List Int, y_ = (x22_5.set (x141_5 : Int).toNat 1) := ⟨_, rfl⟩
          replace H : (laws_FnBestWithin.l0 k5 l1 t441 t442 y449 (y446.length : Int) (wrap64 (x141_5 + 1))) = some r := by first | (rw [hy449]; with_reducible exact H) | (have H2_ := (Option.bind_some _ _).symm.trans H; rw [hy449]; with_reducible exact H2_) | (have H2_ := (Option.bind_some _ _).symm.trans H; with_reducible exact H2_) | with_reducible exact H | (rw [hy449]; exact H) | exact H
          have Ny449 := Aside0.mk hy449
          clear hy449
          have H' := Aside0.mk H
          clear H
          have p50 : 0 ≤ (x141_5 : Int) := zD
          have q50 : (x141_5 : Int) < ((x22_5.length : Int) : Int) := zD
          obtain ⟨go50, co50, eo50, gb50, gl50, cl50, HG50⟩ := Kd.R_form HO_22.out (by omega)
          (first | cases eo50 | (injection eo50 with ea_ en_ ec_; (first | subst ea_ | (injection ea_ with ea_; subst ea_)); subst ec_; clear en_))
          have GB50 := Aside0.mk gb50
          have GG50 := Aside0.mk HG50
          clear gb50 gl50 HG50
          obtain ⟨hx50_0, hf50_0⟩ := Kd.R_celln 0 HO_22.out (x141_5 : Int) p50 q50
          replace p50 := eq_true p50
          replace q50 := eq_true q50
          have HP51 := Kd.R_putg HO_22.out (x141_5 : Int) 1
          go_wp2_with (first | ((with_reducible refine gate_store (t := 3) (p := 146) rfl ?_); refine store_event (t := 3) (p := 146) (v := ?vo_w52) (w1 := (wr.setCell ⟨go50, (x141_5 : Int).toNat, none⟩ (.int .i64 1))) ?hg ?ho ?hn ?hr ?_; (case ho => rfl); (case hg => rfl); (case hn => rfl); (case hr => first | (go_simp; done) | (go_simp; rfl)); intro w52 hw; have hg : wr.grownBy w52 (some go50) := (by rw [hw]; exact HP51.2); have hp_ : Kd.R (Kd.int .i64) 3 w52 w.heap.size (fun _ => True) (.slice (some ⟨go50, 0, none⟩) x22_5.length co46) y449 := (by rw [hw, Ny449.out]; exact HP51.1); clear HP51; have n0_ := Aside0.mk (hp_); have n1_ := Aside0.mk ((by rw [hw]; exact below_set (HB.out) GB50.out : Below w.heap.size w w52)); clear HO_22; clear HB; have HO_22 := n0_; have HB := n1_; clear n0_ n1_; clear hg hw hp_))
          (try simp only [← hl22_5])
          go_roundg k5
          case measure => have := HJ7.out; have := HJ14.out; have := HJ33.out; have := HJ37.out; have := HK5.out; omega
          case rel => exact ⟨(y449), (wrap64 (x141_5 + 1)), zE1, H', ⟨by have := HJ7.out; have := HJ14.out; have := HJ33.out; have := HJ37.out; have := HK5.out; omega⟩, ⟨by (try simp only [hl22_5]); (with_reducible repeat (first | apply Kd.R_alloc | apply Kd.R_drewN | apply Kd.R_drew)); exact HO_22.out⟩, ⟨zB HB.out⟩⟩
         ·rw [if_neg c49] at H
          exact absurd H (by simp)
        ·rw [if_neg c48] at H
         exact absurd H (by simp)
       ·rw [if_neg c47] at H
        have c47b0 : decide (x141_5 < (y446.length : Int)) = false := decide_eq_false c47
        (try (have c47h0 := c47b0; simp only [hl22_5] at c47h0))
        clear c47
        (first | rw [c47b0] | (simp only [i64_w, i32_w]; rw [c47b0]) | skip)
        replace H := Option.bind_eq_some_iff.mp H
        obtain ⟨⟨t450, t451⟩, A530, H⟩ := H
        (try dsimp only at H)
        have A53 := Aside0.mk A530
        clear A530
        by_cases c54 : t451 = true
        ·subst c54
         rw [if_pos rfl] at H
         by_cases c55 : t450 = t442
         ·rw [if_pos c55] at H
          have c55b0 : (t450 == t442) = true := beq_iff_eq.mpr c55
          have c55b1 : (t450 != t442) = false := bne_eq_false_iff_eq.mpr c55
          (try (have c55h0 := c55b0; simp only [hl22_5] at c55h0))
          (try (have c55h1 := c55b1; simp only [hl22_5] at c55h1))
          clear c55
          have H' := Aside0.mk H
          clear H
          go_wp2_with (first | ((with_reducible refine gate_callee (f := 9) rfl ?_); refine goesL_ (some 151) rfl rfl Tryz.func9 (by kernel_rfl) rfl #[.slice Ao46 x22_5.length co46, .int .i64 t441] rfl (by (try simp only [List.map_toArray, List.map_cons, List.map_nil]); first | done | rfl | (simp only [List.length_drop, List.length_take]; rfl)) ?_; (with_reducible refine (impl_BestCost.calls k5 _ _ x22_5 t441 t450 true _ ?side1 ?side2 A53.out).mono ?_); (case side1 => exact zC (Kd.R_reads' HO_22.out).2.2); (case side2 => exact (Kd.R_reads' HO_22.out).2.1); rintro e w56 ⟨rfl, hb⟩; refine ⟨_, rfl, ?_⟩; have n0_ := Aside0.mk (Kd.R_below (zR HO_22.out) hb); have n1_ := Aside0.mk (below_step (zB HB.out) hb); clear HO_22; clear HB; have HO_22 := n0_; have HB := n1_; clear n0_ n1_; (try clear hb); (try clear hb2); (try clear hk); (try clear hi)))
          (try simp only [← hl22_5])
          (try simp only [Act.put, List.setIfInBounds_toArray, List.set_cons_zero, List.set_cons_succ])
          exact part_j6  HR0 HC0 HR1 HC1 H' ⟨Nat.le_refl _⟩ ⟨zB HB.out⟩ HKq6.out
         ·rw [if_neg c55] at H
          have c55b0 : (t450 == t442) = false := beq_eq_false_iff_ne.mpr c55
          have c55b1 : (t450 != t442) = true := bne_iff_ne.mpr c55
          (try (have c55h0 := c55b0; simp only [hl22_5] at c55h0))
          (try (have c55h1 := c55b1; simp only [hl22_5] at c55h1))
          obtain rfl := Option.some.inj H
          go_wp2_with (first | ((with_reducible refine gate_callee (f := 9) rfl ?_); refine goesL_ (some 151) rfl rfl Tryz.func9 (by kernel_rfl) rfl #[.slice Ao46 x22_5.length co46, .int .i64 t441] rfl (by (try simp only [List.map_toArray, List.map_cons, List.map_nil]); first | done | rfl | (simp only [List.length_drop, List.length_take]; rfl)) ?_; (with_reducible refine (impl_BestCost.calls k5 _ _ x22_5 t441 t450 true _ ?side1 ?side2 A53.out).mono ?_); (case side1 => exact zC (Kd.R_reads' HO_22.out).2.2); (case side2 => exact (Kd.R_reads' HO_22.out).2.1); rintro e w57 ⟨rfl, hb⟩; refine ⟨_, rfl, ?_⟩; have n0_ := Aside0.mk (Kd.R_below (zR HO_22.out) hb); have n1_ := Aside0.mk (below_step (zB HB.out) hb); clear HO_22; clear HB; have HO_22 := n0_; have HB := n1_; clear n0_ n1_; (try clear hb); (try clear hb2); (try clear hk); (try clear hi)))
          go_ret
          exact ⟨zF, zB HB.out⟩
        ·replace c54 := Bool.eq_false_iff.mpr c54
         subst c54
         rw [if_neg zN] at H
         obtain rfl := Option.some.inj H
         go_wp2_with (first | ((with_reducible refine gate_callee (f := 9) rfl ?_); refine goesL_ (some 151) rfl rfl Tryz.func9 (by kernel_rfl) rfl #[.slice Ao46 x22_5.length co46, .int .i64 t441] rfl (by (try simp only [List.map_toArray, List.map_cons, List.map_nil]); first | done | rfl | (simp only [List.length_drop, List.length_take]; rfl)) ?_; (with_reducible refine (impl_BestCost.calls k5 _ _ x22_5 t441 t450 false _ ?side1 ?side2 A53.out).mono ?_); (case side1 => exact zC (Kd.R_reads' HO_22.out).2.2); (case side2 => exact (Kd.R_reads' HO_22.out).2.1); rintro e w58 ⟨rfl, hb⟩; refine ⟨_, rfl, ?_⟩; have n0_ := Aside0.mk (Kd.R_below (zR HO_22.out) hb); have n1_ := Aside0.mk (below_step (zB HB.out) hb); clear HO_22; clear HB; have HO_22 := n0_; have HB := n1_; clear n0_ n1_; (try clear hb); (try clear hb2); (try clear hk); (try clear hi)))
         go_ret
         exact ⟨zF, zB HB.out⟩
    ·rw [if_neg c43] at H
     exact absurd H (by simp)
   ·rw [if_neg c42] at H
    exact absurd H (by simp)
  ·replace c41 := Bool.eq_false_iff.mpr c41
   subst c41
   rw [if_neg zN] at H
   have H' := Aside0.mk H
   clear H
   go_wp2
   (try simp only [Act.put, List.setIfInBounds_toArray, List.set_cons_zero, List.set_cons_succ])
   exact part_j6  HR0 HC0 HR1 HC1 H' ⟨Nat.le_refl _⟩ ⟨zB HB.out⟩ HKq6.out
theorem part_j3 {A0 : Option Addr} {c0 : Nat} {l0 : List Int} {A1 : Option Addr} {c1 : Nat} {l1 : List Int} {r : Bool} {w wc : World} {t440 : Int} {t441 : Int} {t442 : Int} {t443 : Bool} {kq : Nat} {x131_33 : Bool} {v131 : Value} (HR0 : Aside0 (Kd.C (Kd.int .u8) w A0 l0.length l0)) (HC0 : Aside0 (l0.length ≤ c0)) (HR1 : Aside0 (Kd.C (Kd.int .u8) w A1 l1.length l1)) (HC1 : Aside0 (l1.length ≤ c1)) (hv_v131 : v131 = .bool x131_33) (HA : Aside0 (laws_FnBestWithin.j3 kq l1 t440 t441 t442 t443 x131_33 = some r)) (HJ33 : Aside0 (kq ≤ kq)) (HB : Aside0 (Below w.heap.size w wc)) {z0 z2 z3 z4 z5 z6 z7 z8 z9 z10 z11 z12 z13 z14 z15 z20 z21 z22 z23 z24 z25 z26 z27 z28 z29 z30 z31 z32 z33 z34 z35 z36 z37 z38 z39 z40 z41 z42 z43 z44 z45 z46 z47 z48 z49 z50 z51 z52 z53 z54 z55 z56 z57 z58 z59 z60 z61 z62 z63 z64 z65 z66 z67 z68 z69 z70 z71 z72 z73 z74 z75 z76 z77 z78 z79 z80 z81 z82 z83 z84 z85 z86 z87 z88 z89 z90 z91 z92 z93 z94 z95 z96 z97 z98 z99 z100 z101 z102 z103 z104 z105 z106 z107 z108 z109 z110 z111 z112 z113 z114 z115 z116 z117 z118 z119 z120 z121 z122 z123 z124 z125 z126 z127 z128 z129 z130 z132 z133 z134 z135 z136 z137 z138 z139 z140 z141 z142 z143 z144 z145 z146 z147 z148 z149 z150 z151 z152 z153 z154 z155 z156 z157 z158 z159 z160 z161 z162 z163 z164 z165 z166 z167 z168 z169 z170 z171 z172 z173 z174 z175 z176 z177 z178 z179 z180 z181 z182 z183 z184 z185 z186 z187 z188 z189 z190 z191 z192 z193 z194 z195 z196 z197 z198 z199 z200 z201 z202 z203 z204 z205 z206 z207 z208 z209 z210 z211 z212 z213 z214 z215 z216 z217 : Value} {Kq4 : Act → World → Prop} (hKq4 : ∀ a w', Code.wp Tryz.prog (cB (cB (cB (cB (cB (cB (cB (cB (cB (cB (cB (Tryz.f3.body.getD .skip)))))))))))) (bodyPost Tryz.prog Tryz.f3 (fun e w' => e = .returned (.bool r) ∧ Below w.heap.size w w')) a w' → Kq4 a w') {Kq5 : Act → World → Prop} (hKq5 : ∀ a w', Code.wp Tryz.prog (cB (cA (cB (cB (cB (cB (cB (cB (cB (cB (cB (cB (Tryz.f3.body.getD .skip))))))))))))) (Exit.then Kq4 (bodyPost Tryz.prog Tryz.f3 (fun e w' => e = .returned (.bool r) ∧ Below w.heap.size w w'))) a w' → Kq5 a w') :
  Kq5 { tmps := #[z0, .slice A1 l1.length c1, z2, z3, z4, z5, z6, z7, z8, z9, z10, z11, z12, z13, z14, z15, .int .i64 t440, .int .i64 t441, .int .i64 t442, .bool t443, z20, z21, z22, z23, z24, z25, z26, z27, z28, z29, z30, z31, z32, z33, z34, z35, z36, z37, z38, z39, z40, z41, z42, z43, z44, z45, z46, z47, z48, z49, z50, z51, z52, z53, z54, z55, z56, z57, z58, z59, z60, z61, z62, z63, z64, z65, z66, z67, z68, z69, z70, z71, z72, z73, z74, z75, z76, z77, z78, z79, z80, z81, z82, z83, z84, z85, z86, z87, z88, z89, z90, z91, z92, z93, z94, z95, z96, z97, z98, z99, z100, z101, z102, z103, z104, z105, z106, z107, z108, z109, z110, z111, z112, z113, z114, z115, z116, z117, z118, z119, z120, z121, z122, z123, z124, z125, z126, z127, z128, z129, z130, v131, z132, z133, z134, z135, z136, z137, z138, z139, z140, z141, z142, z143, z144, z145, z146, z147, z148, z149, z150, z151, z152, z153, z154, z155, z156, z157, z158, z159, z160, z161, z162, z163, z164, z165, z166, z167, z168, z169, z170, z171, z172, z173, z174, z175, z176, z177, z178, z179, z180, z181, z182, z183, z184, z185, z186, z187, z188, z189, z190, z191, z192, z193, z194, z195, z196, z197, z198, z199, z200, z201, z202, z203, z204, z205, z206, z207, z208, z209, z210, z211, z212, z213, z214, z215, z216, z217], defers := [] } wc := by
 replace hKq4 := seq_of rfl hKq4; (try simp only [List.append_eq, List.cons_append, List.nil_append] at hKq4)
 replace hKq5 := cond_of rfl hKq5; (try simp only [List.append_eq, List.cons_append, List.nil_append] at hKq5)
 subst hv_v131
 cases kq with
 | zero => exact absurd HA.out (by simp [laws_FnBestWithin.j3])
 | succ kj33 =>
  have H := HA.out
  clear HA
  simp only [laws_FnBestWithin.j3] at H
  by_cases c37 : x131_33 = true
  ·subst c37
   rw [if_pos rfl] at H
   obtain rfl := Option.some.inj H
   go_wp2
   go_ret
   exact ⟨zF, zB HB.out⟩
  ·replace c37 := Bool.eq_false_iff.mpr c37
   subst c37
   rw [if_neg zN] at H
   have HC38 := Aside0.mk H
   clear H
   go_upto_region 21 with (fail)
   refine wp_cutK (by assumption) ?_
   intro Kq7 HKq7
   have H := HC38.out
   clear HC38
   by_cases c39 : t443 = true
   ·subst c39
    rw [if_pos rfl] at H
    have H' := Aside0.mk H
    clear H
    go_wp2
    (try simp only [Act.put, List.setIfInBounds_toArray, List.set_cons_zero, List.set_cons_succ])
    exact part_j4 (x136_37 := (decide (t440 ≤ 12))) HR0 HC0 HR1 HC1 zE1 H' ⟨Nat.le_refl _⟩ ⟨zB HB.out⟩ (by assumption) HKq7.out
   ·replace c39 := Bool.eq_false_iff.mpr c39
    subst c39
    rw [if_neg zN] at H
    have H' := Aside0.mk H
    clear H
    go_wp2
    (try simp only [Act.put, List.setIfInBounds_toArray, List.set_cons_zero, List.set_cons_succ])
    exact part_j4 (x136_37 := (false)) HR0 HC0 HR1 HC1 zE1 H' ⟨Nat.le_refl _⟩ ⟨zB HB.out⟩ (by assumption) HKq7.out
theorem part_j2 {A0 : Option Addr} {c0 : Nat} {l0 : List Int} {A1 : Option Addr} {c1 : Nat} {l1 : List Int} {r : Bool} {w wc : World}  {kq : Nat} (HR0 : Aside0 (Kd.C (Kd.int .u8) w A0 l0.length l0)) (HC0 : Aside0 (l0.length ≤ c0)) (HR1 : Aside0 (Kd.C (Kd.int .u8) w A1 l1.length l1)) (HC1 : Aside0 (l1.length ≤ c1)) (HA : Aside0 (laws_FnBestWithin.j2 kq l1 = some r)) (HJ14 : Aside0 (kq ≤ kq)) (HB : Aside0 (Below w.heap.size w wc)) {z0 z2 z3 z4 z5 z6 z7 z8 z9 z10 z11 z12 z13 z14 z15 z16 z17 z18 z19 z20 z21 z22 z23 z24 z25 z26 z27 z28 z29 z30 z31 z32 z33 z34 z35 z36 z37 z38 z39 z40 z41 z42 z43 z44 z45 z46 z47 z48 z49 z50 z51 z52 z53 z54 z55 z56 z57 z58 z59 z60 z61 z62 z63 z64 z65 z66 z67 z68 z69 z70 z71 z72 z73 z74 z75 z76 z77 z78 z79 z80 z81 z82 z83 z84 z85 z86 z87 z88 z89 z90 z91 z92 z93 z94 z95 z96 z97 z98 z99 z100 z101 z102 z103 z104 z105 z106 z107 z108 z109 z110 z111 z112 z113 z114 z115 z116 z117 z118 z119 z120 z121 z122 z123 z124 z125 z126 z127 z128 z129 z130 z131 z132 z133 z134 z135 z136 z137 z138 z139 z140 z141 z142 z143 z144 z145 z146 z147 z148 z149 z150 z151 z152 z153 z154 z155 z156 z157 z158 z159 z160 z161 z162 z163 z164 z165 z166 z167 z168 z169 z170 z171 z172 z173 z174 z175 z176 z177 z178 z179 z180 z181 z182 z183 z184 z185 z186 z187 z188 z189 z190 z191 z192 z193 z194 z195 z196 z197 z198 z199 z200 z201 z202 z203 z204 z205 z206 z207 z208 z209 z210 z211 z212 z213 z214 z215 z216 z217 : Value} {Kq3 : Act → World → Prop} (hKq3 : ∀ a w', Code.wp Tryz.prog (cB (cB (cB (cB (cB (cB (cB (Tryz.f3.body.getD .skip)))))))) (bodyPost Tryz.prog Tryz.f3 (fun e w' => e = .returned (.bool r) ∧ Below w.heap.size w w')) a w' → Kq3 a w') :
  Kq3 { tmps := #[z0, .slice A1 l1.length c1, z2, z3, z4, z5, z6, z7, z8, z9, z10, z11, z12, z13, z14, z15, z16, z17, z18, z19, z20, z21, z22, z23, z24, z25, z26, z27, z28, z29, z30, z31, z32, z33, z34, z35, z36, z37, z38, z39, z40, z41, z42, z43, z44, z45, z46, z47, z48, z49, z50, z51, z52, z53, z54, z55, z56, z57, z58, z59, z60, z61, z62, z63, z64, z65, z66, z67, z68, z69, z70, z71, z72, z73, z74, z75, z76, z77, z78, z79, z80, z81, z82, z83, z84, z85, z86, z87, z88, z89, z90, z91, z92, z93, z94, z95, z96, z97, z98, z99, z100, z101, z102, z103, z104, z105, z106, z107, z108, z109, z110, z111, z112, z113, z114, z115, z116, z117, z118, z119, z120, z121, z122, z123, z124, z125, z126, z127, z128, z129, z130, z131, z132, z133, z134, z135, z136, z137, z138, z139, z140, z141, z142, z143, z144, z145, z146, z147, z148, z149, z150, z151, z152, z153, z154, z155, z156, z157, z158, z159, z160, z161, z162, z163, z164, z165, z166, z167, z168, z169, z170, z171, z172, z173, z174, z175, z176, z177, z178, z179, z180, z181, z182, z183, z184, z185, z186, z187, z188, z189, z190, z191, z192, z193, z194, z195, z196, z197, z198, z199, z200, z201, z202, z203, z204, z205, z206, z207, z208, z209, z210, z211, z212, z213, z214, z215, z216, z217], defers := [] } wc := by
 replace hKq3 := seq_of rfl hKq3; (try simp only [List.append_eq, List.cons_append, List.nil_append] at hKq3)
 cases kq with
 | zero => exact absurd HA.out (by simp [laws_FnBestWithin.j2])
 | succ kj14 =>
  have H := HA.out
  clear HA
  simp only [laws_FnBestWithin.j2] at H
  replace H := Option.bind_eq_some_iff.mp H
  obtain ⟨⟨t440, t441⟩, A310, H⟩ := H
  (try dsimp only at H)
  have A31 := Aside0.mk A310
  clear A310
  replace H := Option.bind_eq_some_iff.mp H
  obtain ⟨⟨t442, t443⟩, A320, H⟩ := H
  (try dsimp only at H)
  have A32 := Aside0.mk A320
  clear A320
  replace H := Option.bind_eq_some_iff.mp H
  obtain ⟨⟨t444, t445⟩, A330, H⟩ := H
  (try dsimp only at H)
  have A33 := Aside0.mk A330
  clear A330
  have HC34 := Aside0.mk H
  clear H
  go_upto_region 19 with (first | ((with_reducible refine gate_callee (f := 10) rfl ?_); refine goesL_ (some 109) rfl rfl Tryz.func10 (by kernel_rfl) rfl #[.slice A1 l1.length c1] rfl (by (try simp only [List.map_toArray, List.map_cons, List.map_nil]); first | done | rfl | (simp only [List.length_drop, List.length_take]; rfl)) ?_; (with_reducible refine (spec_DrawEvenCost.calls _ _ l1 t440 t441 _ ?side1 ?side2 A31.out).mono ?_); (case side1 => exact zC (Kd.C_below HR1.out HB.out)); (case side2 => exact HC1.out); rintro e w35 ⟨rfl, hb⟩; refine ⟨_, rfl, ?_⟩; have n0_ := Aside0.mk (below_step (zB HB.out) hb); clear HB; have HB := n0_; clear n0_; (try clear hb); (try clear hb2); (try clear hk); (try clear hi)) | ((with_reducible refine gate_callee (f := 11) rfl ?_); refine goesL_ (some 115) rfl rfl Tryz.func11 (by kernel_rfl) rfl #[.int .i64 t440, .int .i64 t441] rfl (by (try simp only [List.map_toArray, List.map_cons, List.map_nil]); first | done | rfl | (simp only [List.length_drop, List.length_take]; rfl)) ?_; (with_reducible refine (impl_EvenCost.calls kj14 t440 t441 t442 t443 _ A32.out).mono ?_); rintro e w' ⟨rfl, ⟨nd, rfl⟩⟩; refine ⟨_, rfl, ?_⟩) | ((with_reducible refine gate_callee (f := 12) rfl ?_); refine goesL_ (some 121) rfl rfl Tryz.func12 (by kernel_rfl) rfl #[.int .i64 t440, .int .i64 t441] rfl (by (try simp only [List.map_toArray, List.map_cons, List.map_nil]); first | done | rfl | (simp only [List.length_drop, List.length_take]; rfl)) ?_; (with_reducible refine (spec_EvenCost.calls kj14 t440 t441 t444 t445 _ A33.out).mono ?_); rintro e w' ⟨rfl, ⟨nd, rfl⟩⟩; refine ⟨_, rfl, ?_⟩))
  (try simp only [Act.put, List.setIfInBounds_toArray, List.set_cons_zero, List.set_cons_succ])
  refine wp_cutK (by assumption) ?_
  intro Kq5 HKq5
  have H := HC34.out
  clear HC34
  by_cases c36 : (t443 != t445) = true
  ·rw [if_pos c36] at H
   have c36b0 : (t443 != t445) = true := c36
   (try (have c36b1 : decide (t443 = t445) = false := by simpa using c36))
   (try (have c36b2 : (t443 == t445) = false := by simpa using c36))
   (try (have c36b3 : ¬ (t443 = t445) := by simpa using c36))
   clear c36
   (first | rw [c36b0] | (simp only [i64_w, i32_w]; rw [c36b0]) | skip)
   have H' := Aside0.mk H
   clear H
   go_wp2
   (try simp only [Act.put, List.setIfInBounds_toArray, List.set_cons_zero, List.set_cons_succ])
   exact part_j3 (x131_33 := (true)) HR0 HC0 HR1 HC1 zE1 H' ⟨Nat.le_refl _⟩ ⟨zB HB.out⟩ (by assumption) HKq5.out
  ·rw [if_neg c36] at H
   have c36b0 : (t443 != t445) = false := by simpa using c36
   (try (have c36b1 : decide (t443 = t445) = true := by simpa using c36))
   (try (have c36b2 : (t443 == t445) = true := by simpa using c36))
   clear c36
   (first | rw [c36b0] | (simp only [i64_w, i32_w]; rw [c36b0]) | skip)
   have H' := Aside0.mk H
   clear H
   go_wp2
   (try simp only [Act.put, List.setIfInBounds_toArray, List.set_cons_zero, List.set_cons_succ])
   exact part_j3 (x131_33 := ((t442 != t444))) HR0 HC0 HR1 HC1 zE1 H' ⟨Nat.le_refl _⟩ ⟨zB HB.out⟩ (by assumption) HKq5.out
theorem part_j1 {A0 : Option Addr} {c0 : Nat} {l0 : List Int} {A1 : Option Addr} {c1 : Nat} {l1 : List Int} {r : Bool} {w wc : World} {t427 : List Int} {t428 : Int} {t429 : Int} {t432 : Int} {Ao10 : Option Addr} {co10 : Nat} {kq : Nat} {x89_17 : Bool} {v89 : Value} (HR0 : Aside0 (Kd.C (Kd.int .u8) w A0 l0.length l0)) (HC0 : Aside0 (l0.length ≤ c0)) (HR1 : Aside0 (Kd.C (Kd.int .u8) w A1 l1.length l1)) (HC1 : Aside0 (l1.length ≤ c1)) (hv_v89 : v89 = .bool x89_17) (HA : Aside0 (laws_FnBestWithin.j1 kq l1 t427 t428 t429 t432 x89_17 = some r)) (HJ17 : Aside0 (kq ≤ kq)) (HO_5 : Aside0 (Kd.R (Kd.int .i64) 3 wc w.heap.size (fun _ => True) (.slice Ao10 t427.length co10) t427)) (HB : Aside0 (Below w.heap.size w wc)) {z0 z2 z3 z4 z9 z10 z11 z12 z13 z14 z15 z16 z17 z18 z19 z20 z21 z22 z23 z24 z25 z26 z27 z28 z29 z30 z31 z32 z33 z34 z35 z36 z37 z38 z39 z40 z41 z42 z43 z44 z45 z46 z47 z48 z49 z50 z51 z52 z53 z54 z55 z56 z57 z58 z59 z60 z61 z62 z63 z64 z65 z66 z67 z68 z69 z70 z71 z72 z73 z74 z75 z76 z77 z78 z79 z80 z81 z82 z83 z84 z85 z86 z87 z88 z90 z91 z92 z93 z94 z95 z96 z97 z98 z99 z100 z101 z102 z103 z104 z105 z106 z107 z108 z109 z110 z111 z112 z113 z114 z115 z116 z117 z118 z119 z120 z121 z122 z123 z124 z125 z126 z127 z128 z129 z130 z131 z132 z133 z134 z135 z136 z137 z138 z139 z140 z141 z142 z143 z144 z145 z146 z147 z148 z149 z150 z151 z152 z153 z154 z155 z156 z157 z158 z159 z160 z161 z162 z163 z164 z165 z166 z167 z168 z169 z170 z171 z172 z173 z174 z175 z176 z177 z178 z179 z180 z181 z182 z183 z184 z185 z186 z187 z188 z189 z190 z191 z192 z193 z194 z195 z196 z197 z198 z199 z200 z201 z202 z203 z204 z205 z206 z207 z208 z209 z210 z211 z212 z213 z214 z215 z216 z217 : Value} {Kq3 : Act → World → Prop} (hKq3 : ∀ a w', Code.wp Tryz.prog (cB (cB (cB (cB (cB (cB (cB (Tryz.f3.body.getD .skip)))))))) (bodyPost Tryz.prog Tryz.f3 (fun e w' => e = .returned (.bool r) ∧ Below w.heap.size w w')) a w' → Kq3 a w') {Kq13 : Act → World → Prop} (hKq13 : ∀ a w', Code.wp Tryz.prog (cB (cB (cT (cB (cA (cB (cB (cB (cB (cB (cB (Tryz.f3.body.getD .skip)))))))))))) (Exit.then Kq3 (bodyPost Tryz.prog Tryz.f3 (fun e w' => e = .returned (.bool r) ∧ Below w.heap.size w w'))) a w' → Kq13 a w') {Kq14 : Act → World → Prop} (hKq14 : ∀ a w', Code.wp Tryz.prog (cB (cA (cB (cT (cB (cA (cB (cB (cB (cB (cB (cB (Tryz.f3.body.getD .skip))))))))))))) (Exit.then Kq13 (Exit.then Kq3 (bodyPost Tryz.prog Tryz.f3 (fun e w' => e = .returned (.bool r) ∧ Below w.heap.size w w')))) a w' → Kq14 a w') :
  Kq14 { tmps := #[z0, .slice A1 l1.length c1, z2, z3, z4, .slice Ao10 t427.length co10, .int .i64 t428, .int .i64 t429, .int .i64 t432, z9, z10, z11, z12, z13, z14, z15, z16, z17, z18, z19, z20, z21, z22, z23, z24, z25, z26, z27, z28, z29, z30, z31, z32, z33, z34, z35, z36, z37, z38, z39, z40, z41, z42, z43, z44, z45, z46, z47, z48, z49, z50, z51, z52, z53, z54, z55, z56, z57, z58, z59, z60, z61, z62, z63, z64, z65, z66, z67, z68, z69, z70, z71, z72, z73, z74, z75, z76, z77, z78, z79, z80, z81, z82, z83, z84, z85, z86, z87, z88, v89, z90, z91, z92, z93, z94, z95, z96, z97, z98, z99, z100, z101, z102, z103, z104, z105, z106, z107, z108, z109, z110, z111, z112, z113, z114, z115, z116, z117, z118, z119, z120, z121, z122, z123, z124, z125, z126, z127, z128, z129, z130, z131, z132, z133, z134, z135, z136, z137, z138, z139, z140, z141, z142, z143, z144, z145, z146, z147, z148, z149, z150, z151, z152, z153, z154, z155, z156, z157, z158, z159, z160, z161, z162, z163, z164, z165, z166, z167, z168, z169, z170, z171, z172, z173, z174, z175, z176, z177, z178, z179, z180, z181, z182, z183, z184, z185, z186, z187, z188, z189, z190, z191, z192, z193, z194, z195, z196, z197, z198, z199, z200, z201, z202, z203, z204, z205, z206, z207, z208, z209, z210, z211, z212, z213, z214, z215, z216, z217], defers := [] } wc := by
 have HKq3 := Aside0.mk hKq3; clear hKq3
 replace hKq13 := seq_of rfl hKq13; (try simp only [List.append_eq, List.cons_append, List.nil_append] at hKq13)
 replace hKq14 := cond_of rfl hKq14; (try simp only [List.append_eq, List.cons_append, List.nil_append] at hKq14)
 subst hv_v89
 cases kq with
 | zero => exact absurd HA.out (by simp [laws_FnBestWithin.j1])
 | succ kj17 =>
  have H := HA.out
  clear HA
  simp only [laws_FnBestWithin.j1] at H
  by_cases c23 : x89_17 = true
  ·subst c23
   rw [if_pos rfl] at H
   obtain rfl := Option.some.inj H
   go_wp2
   go_ret
   exact ⟨zF, zB HB.out⟩
  ·replace c23 := Bool.eq_false_iff.mpr c23
   subst c23
   rw [if_neg zN] at H
   by_cases c24 : t429 < 11
   ·rw [if_pos c24] at H
    have c24b0 : decide (t429 < 11) = true := decide_eq_true c24
    clear c24
    replace H := Option.bind_eq_some_iff.mp H
    obtain ⟨⟨t438, t439⟩, A250, H⟩ := H
    (try dsimp only at H)
    have A25 := Aside0.mk A250
    clear A250
    by_cases c26 : t439 = true
    ·subst c26
     rw [if_pos rfl] at H
     by_cases c27 : t438 > t432
     ·rw [if_pos c27] at H
      have c27b0 : decide (t432 < t438) = true := decide_eq_true c27
      clear c27
      obtain rfl := Option.some.inj H
      go_wp2_with (first | ((with_reducible refine gate_callee (f := 7) rfl ?_); refine goesL_ (some 97) rfl rfl Tryz.func7 (by kernel_rfl) rfl #[.slice Ao10 t427.length co10, .int .i64 t428, .int .i64 (wrap64 (t429 + 1))] rfl (by (try simp only [List.map_toArray, List.map_cons, List.map_nil]); first | done | rfl | (simp only [List.length_drop, List.length_take]; rfl)) ?_; (with_reducible refine (impl_BestWithin.calls kj17 _ _ t427 t428 (wrap64 (t429 + 1)) t438 true _ ?side1 ?side2 A25.out).mono ?_); (case side1 => exact zC (Kd.R_reads' HO_5.out).2.2); (case side2 => exact (Kd.R_reads' HO_5.out).2.1); rintro e w28 ⟨rfl, hb⟩; refine ⟨_, rfl, ?_⟩; have n0_ := Aside0.mk (Kd.R_below (zR HO_5.out) hb); have n1_ := Aside0.mk (below_step (zB HB.out) hb); clear HO_5; clear HB; have HO_5 := n0_; have HB := n1_; clear n0_ n1_; (try clear hb); (try clear hb2); (try clear hk); (try clear hi)))
      go_ret
      exact ⟨zF, zB HB.out⟩
     ·rw [if_neg c27] at H
      have c27b0 : decide (t432 < t438) = false := decide_eq_false c27
      clear c27
      have H' := Aside0.mk H
      clear H
      go_wp2_with (first | ((with_reducible refine gate_callee (f := 7) rfl ?_); refine goesL_ (some 97) rfl rfl Tryz.func7 (by kernel_rfl) rfl #[.slice Ao10 t427.length co10, .int .i64 t428, .int .i64 (wrap64 (t429 + 1))] rfl (by (try simp only [List.map_toArray, List.map_cons, List.map_nil]); first | done | rfl | (simp only [List.length_drop, List.length_take]; rfl)) ?_; (with_reducible refine (impl_BestWithin.calls kj17 _ _ t427 t428 (wrap64 (t429 + 1)) t438 true _ ?side1 ?side2 A25.out).mono ?_); (case side1 => exact zC (Kd.R_reads' HO_5.out).2.2); (case side2 => exact (Kd.R_reads' HO_5.out).2.1); rintro e w29 ⟨rfl, hb⟩; refine ⟨_, rfl, ?_⟩; have n0_ := Aside0.mk (Kd.R_below (zR HO_5.out) hb); have n1_ := Aside0.mk (below_step (zB HB.out) hb); clear HO_5; clear HB; have HO_5 := n0_; have HB := n1_; clear n0_ n1_; (try clear hb); (try clear hb2); (try clear hk); (try clear hi)))
      (try simp only [Act.put, List.setIfInBounds_toArray, List.set_cons_zero, List.set_cons_succ])
      exact part_j2  HR0 HC0 HR1 HC1 H' ⟨Nat.le_refl _⟩ ⟨zB HB.out⟩ HKq3.out
    ·replace c26 := Bool.eq_false_iff.mpr c26
     subst c26
     rw [if_neg zN] at H
     obtain rfl := Option.some.inj H
     go_wp2_with (first | ((with_reducible refine gate_callee (f := 7) rfl ?_); refine goesL_ (some 97) rfl rfl Tryz.func7 (by kernel_rfl) rfl #[.slice Ao10 t427.length co10, .int .i64 t428, .int .i64 (wrap64 (t429 + 1))] rfl (by (try simp only [List.map_toArray, List.map_cons, List.map_nil]); first | done | rfl | (simp only [List.length_drop, List.length_take]; rfl)) ?_; (with_reducible refine (impl_BestWithin.calls kj17 _ _ t427 t428 (wrap64 (t429 + 1)) t438 false _ ?side1 ?side2 A25.out).mono ?_); (case side1 => exact zC (Kd.R_reads' HO_5.out).2.2); (case side2 => exact (Kd.R_reads' HO_5.out).2.1); rintro e w30 ⟨rfl, hb⟩; refine ⟨_, rfl, ?_⟩; have n0_ := Aside0.mk (Kd.R_below (zR HO_5.out) hb); have n1_ := Aside0.mk (below_step (zB HB.out) hb); clear HO_5; clear HB; have HO_5 := n0_; have HB := n1_; clear n0_ n1_; (try clear hb); (try clear hb2); (try clear hk); (try clear hi)))
     go_ret
     exact ⟨zF, zB HB.out⟩
   ·rw [if_neg c24] at H
    have c24b0 : decide (t429 < 11) = false := decide_eq_false c24
    clear c24
    have H' := Aside0.mk H
    clear H
    go_wp2
    (try simp only [Act.put, List.setIfInBounds_toArray, List.set_cons_zero, List.set_cons_succ])
    exact part_j2  HR0 HC0 HR1 HC1 H' ⟨Nat.le_refl _⟩ ⟨zB HB.out⟩ HKq3.out
theorem part_j0 {A0 : Option Addr} {c0 : Nat} {l0 : List Int} {A1 : Option Addr} {c1 : Nat} {l1 : List Int} {r : Bool} {w wc : World} {t427 : List Int} {t428 : Int} {t429 : Int} {t432 : Int} {t433 : Bool} {Ao10 : Option Addr} {co10 : Nat} {kq : Nat} {x64_7 : Bool} {v64 : Value} (HR0 : Aside0 (Kd.C (Kd.int .u8) w A0 l0.length l0)) (HC0 : Aside0 (l0.length ≤ c0)) (HR1 : Aside0 (Kd.C (Kd.int .u8) w A1 l1.length l1)) (HC1 : Aside0 (l1.length ≤ c1)) (hv_v64 : v64 = .bool x64_7) (HA : Aside0 (laws_FnBestWithin.j0 kq l1 t427 t428 t429 t432 t433 x64_7 = some r)) (HJ7 : Aside0 (kq ≤ kq)) (HO_5 : Aside0 (Kd.R (Kd.int .i64) 3 wc w.heap.size (fun _ => True) (.slice Ao10 t427.length co10) t427)) (HB : Aside0 (Below w.heap.size w wc)) {z0 z2 z3 z4 z10 z11 z12 z13 z14 z15 z16 z17 z18 z19 z20 z21 z22 z23 z24 z25 z26 z27 z28 z29 z30 z31 z32 z33 z34 z35 z36 z37 z38 z39 z40 z41 z42 z43 z44 z45 z46 z47 z48 z49 z50 z51 z52 z53 z54 z55 z56 z57 z58 z59 z60 z61 z62 z63 z65 z66 z67 z68 z69 z70 z71 z72 z73 z74 z75 z76 z77 z78 z79 z80 z81 z82 z83 z84 z85 z86 z87 z88 z89 z90 z91 z92 z93 z94 z95 z96 z97 z98 z99 z100 z101 z102 z103 z104 z105 z106 z107 z108 z109 z110 z111 z112 z113 z114 z115 z116 z117 z118 z119 z120 z121 z122 z123 z124 z125 z126 z127 z128 z129 z130 z131 z132 z133 z134 z135 z136 z137 z138 z139 z140 z141 z142 z143 z144 z145 z146 z147 z148 z149 z150 z151 z152 z153 z154 z155 z156 z157 z158 z159 z160 z161 z162 z163 z164 z165 z166 z167 z168 z169 z170 z171 z172 z173 z174 z175 z176 z177 z178 z179 z180 z181 z182 z183 z184 z185 z186 z187 z188 z189 z190 z191 z192 z193 z194 z195 z196 z197 z198 z199 z200 z201 z202 z203 z204 z205 z206 z207 z208 z209 z210 z211 z212 z213 z214 z215 z216 z217 : Value} {Kq1 : Act → World → Prop} (hKq1 : ∀ a w', Code.wp Tryz.prog (cB (cB (cB (cB (cB (cB (Tryz.f3.body.getD .skip))))))) (bodyPost Tryz.prog Tryz.f3 (fun e w' => e = .returned (.bool r) ∧ Below w.heap.size w w')) a w' → Kq1 a w') {Kq2 : Act → World → Prop} (hKq2 : ∀ a w', Code.wp Tryz.prog (cB (cA (cB (cB (cB (cB (cB (Tryz.f3.body.getD .skip)))))))) (Exit.then Kq1 (bodyPost Tryz.prog Tryz.f3 (fun e w' => e = .returned (.bool r) ∧ Below w.heap.size w w'))) a w' → Kq2 a w') :
  Kq2 { tmps := #[z0, .slice A1 l1.length c1, z2, z3, z4, .slice Ao10 t427.length co10, .int .i64 t428, .int .i64 t429, .int .i64 t432, .bool t433, z10, z11, z12, z13, z14, z15, z16, z17, z18, z19, z20, z21, z22, z23, z24, z25, z26, z27, z28, z29, z30, z31, z32, z33, z34, z35, z36, z37, z38, z39, z40, z41, z42, z43, z44, z45, z46, z47, z48, z49, z50, z51, z52, z53, z54, z55, z56, z57, z58, z59, z60, z61, z62, z63, v64, z65, z66, z67, z68, z69, z70, z71, z72, z73, z74, z75, z76, z77, z78, z79, z80, z81, z82, z83, z84, z85, z86, z87, z88, z89, z90, z91, z92, z93, z94, z95, z96, z97, z98, z99, z100, z101, z102, z103, z104, z105, z106, z107, z108, z109, z110, z111, z112, z113, z114, z115, z116, z117, z118, z119, z120, z121, z122, z123, z124, z125, z126, z127, z128, z129, z130, z131, z132, z133, z134, z135, z136, z137, z138, z139, z140, z141, z142, z143, z144, z145, z146, z147, z148, z149, z150, z151, z152, z153, z154, z155, z156, z157, z158, z159, z160, z161, z162, z163, z164, z165, z166, z167, z168, z169, z170, z171, z172, z173, z174, z175, z176, z177, z178, z179, z180, z181, z182, z183, z184, z185, z186, z187, z188, z189, z190, z191, z192, z193, z194, z195, z196, z197, z198, z199, z200, z201, z202, z203, z204, z205, z206, z207, z208, z209, z210, z211, z212, z213, z214, z215, z216, z217], defers := [] } wc := by
 replace hKq1 := seq_of rfl hKq1; (try simp only [List.append_eq, List.cons_append, List.nil_append] at hKq1)
 replace hKq2 := cond_of rfl hKq2; (try simp only [List.append_eq, List.cons_append, List.nil_append] at hKq2)
 subst hv_v64
 cases kq with
 | zero => exact absurd HA.out (by simp [laws_FnBestWithin.j0])
 | succ kj7 =>
  have H := HA.out
  clear HA
  simp only [laws_FnBestWithin.j0] at H
  by_cases c14 : x64_7 = true
  ·subst c14
   rw [if_pos rfl] at H
   obtain rfl := Option.some.inj H
   go_wp2
   go_ret
   exact ⟨zF, zB HB.out⟩
  ·replace c14 := Bool.eq_false_iff.mpr c14
   subst c14
   rw [if_neg zN] at H
   have HC15 := Aside0.mk H
   clear H
   go_upto_if 65 with (fail)
   refine wp_cutK (by assumption) ?_
   intro Kq3 HKq3
   have H := HC15.out
   clear HC15
   by_cases c16 : t433 = true
   ·subst c16
    rw [if_pos rfl] at H
    replace H := Option.bind_eq_some_iff.mp H
    obtain ⟨⟨t436, t437⟩, A170, H⟩ := H
    (try dsimp only at H)
    have A17 := Aside0.mk A170
    clear A170
    have HC18 := Aside0.mk H
    clear H
    go_upto_region 10 with (first | ((with_reducible refine gate_callee (f := 9) rfl ?_); refine goesL_ (some 69) rfl rfl Tryz.func9 (by kernel_rfl) rfl #[.slice Ao10 t427.length co10, .int .i64 t428] rfl (by (try simp only [List.map_toArray, List.map_cons, List.map_nil]); first | done | rfl | (simp only [List.length_drop, List.length_take]; rfl)) ?_; (with_reducible refine (impl_BestCost.calls kj7 _ _ t427 t428 t436 t437 _ ?side1 ?side2 A17.out).mono ?_); (case side1 => exact zC (Kd.R_reads' HO_5.out).2.2); (case side2 => exact (Kd.R_reads' HO_5.out).2.1); rintro e w19 ⟨rfl, hb⟩; refine ⟨_, rfl, ?_⟩; have n0_ := Aside0.mk (Kd.R_below (zR HO_5.out) hb); have n1_ := Aside0.mk (below_step (zB HB.out) hb); clear HO_5; clear HB; have HO_5 := n0_; have HB := n1_; clear n0_ n1_; (try clear hb); (try clear hb2); (try clear hk); (try clear hi)))
    (try simp only [Act.put, List.setIfInBounds_toArray, List.set_cons_zero, List.set_cons_succ])
    refine wp_cutK (by assumption) ?_
    intro Kq14 HKq14
    have H := HC18.out
    clear HC18
    by_cases c20 : t437 = true
    ·subst c20
     rw [if_pos rfl] at H
     by_cases c21 : t432 < t436
     ·rw [if_pos c21] at H
      have c21b0 : decide (t432 < t436) = true := decide_eq_true c21
      clear c21
      (first | rw [c21b0] | (simp only [i64_w, i32_w]; rw [c21b0]) | skip)
      have H' := Aside0.mk H
      clear H
      go_wp2
      (try simp only [Act.put, List.setIfInBounds_toArray, List.set_cons_zero, List.set_cons_succ])
      exact part_j1 (x89_17 := (true)) HR0 HC0 HR1 HC1 zE1 H' ⟨Nat.le_refl _⟩ ⟨zR HO_5.out⟩ ⟨zB HB.out⟩ HKq3.out (by assumption) HKq14.out
     ·rw [if_neg c21] at H
      have c21b0 : decide (t432 < t436) = false := decide_eq_false c21
      clear c21
      (first | rw [c21b0] | (simp only [i64_w, i32_w]; rw [c21b0]) | skip)
      by_cases c22 : t429 ≥ (t427.length : Int)
      ·rw [if_pos c22] at H
       have c22b0 : decide ((t427.length : Int) ≤ t429) = true := decide_eq_true c22
       clear c22
       have H' := Aside0.mk H
       clear H
       go_wp2
       (try simp only [Act.put, List.setIfInBounds_toArray, List.set_cons_zero, List.set_cons_succ])
       exact part_j1 (x89_17 := ((t432 != t436))) HR0 HC0 HR1 HC1 zE1 H' ⟨Nat.le_refl _⟩ ⟨zR HO_5.out⟩ ⟨zB HB.out⟩ HKq3.out (by assumption) HKq14.out
      ·rw [if_neg c22] at H
       have c22b0 : decide ((t427.length : Int) ≤ t429) = false := decide_eq_false c22
       clear c22
       have H' := Aside0.mk H
       clear H
       go_wp2
       (try simp only [Act.put, List.setIfInBounds_toArray, List.set_cons_zero, List.set_cons_succ])
       exact part_j1 (x89_17 := (false)) HR0 HC0 HR1 HC1 zE1 H' ⟨Nat.le_refl _⟩ ⟨zR HO_5.out⟩ ⟨zB HB.out⟩ HKq3.out (by assumption) HKq14.out
    ·replace c20 := Bool.eq_false_iff.mpr c20
     subst c20
     rw [if_neg zN] at H
     have H' := Aside0.mk H
     clear H
     go_wp2
     (try simp only [Act.put, List.setIfInBounds_toArray, List.set_cons_zero, List.set_cons_succ])
     exact part_j1 (x89_17 := (true)) HR0 HC0 HR1 HC1 zE1 H' ⟨Nat.le_refl _⟩ ⟨zR HO_5.out⟩ ⟨zB HB.out⟩ HKq3.out (by assumption) HKq14.out
   ·replace c16 := Bool.eq_false_iff.mpr c16
    subst c16
    rw [if_neg zN] at H
    have H' := Aside0.mk H
    clear H
    go_wp2
    (try simp only [Act.put, List.setIfInBounds_toArray, List.set_cons_zero, List.set_cons_succ])
    exact part_j2  HR0 HC0 HR1 HC1 H' ⟨Nat.le_refl _⟩ ⟨zB HB.out⟩ HKq3.out
end Go.Proofs.YtmanjfdchhipmaaGreatDoor.XFnBestWithin
