-- by wip/shake.py
import Derived.Test.YtmanjfdchhipmaaGreatDoorXFnBestWithinx14
namespace Go.Proofs.YtmanjfdchhipmaaGreatDoor.XFnBestWithin
open Go.RowKit Go.Proofs.YtmanjfdchhipmaaGreatDoor.Hand Go.Proofs.YtmanjfdchhipmaaGreatDoorW.PrintWords Go.Proofs.YtmanjfdchhipmaaGreatDoorW.PrintLast Go.Proofs.YtmanjfdchhipmaaGreatDoorW.PrintMore
attribute [local go_sem] max2_int min2_int max_two min_two max_three min_three max_four min_four   -- for this text's walks alone
set_option linter.unusedVariables false
set_option linter.unusedSimpArgs false
set_option maxHeartbeats 8000000 in
set_option maxRecDepth 100000 in
theorem laws_FnBestWithin.calls (k : Nat) (A0 : Option Addr) (c0 : Nat) (l0 : List Int) (A1 : Option Addr) (c1 : Nat) (l1 : List Int) (r : Bool) (w : World) (hr0 : Kd.C (Kd.int .u8) w A0 l0.length l0) (hc0 : l0.length ≤ c0) (hr1 : Kd.C (Kd.int .u8) w A1 l1.length l1) (hc1 : l1.length ≤ c1) (h : laws_FnBestWithin.f k l0 l1 = some r) :
  Calls Tryz.prog 3 #[.slice A0 l0.length c0, .slice A1 l1.length c1] w fun e w' => e = .returned (.bool r) ∧ Below w.heap.size w w' := by
 have HR0 := Aside0.mk hr0
 have HC0 := Aside0.mk hc0
 clear hr0 hc0
 have HR1 := Aside0.mk hr1
 have HC1 := Aside0.mk hc1
 clear hr1 hc1
 have HB := Aside0.mk (Below.refl w.heap.size w)
 have H : ((laws_big.f l0 l1).bind fun t426 => (if t426 = true then (some true) else ((spec_DrawBestWithin.f k l0).bind fun bt427 => ((impl_BestWithin.f k bt427.1 bt427.2.1 bt427.2.2).bind fun bt432 => ((spec_BestWithin.f k bt427.1 bt427.2.1 bt427.2.2).bind fun bt434 => (if (bt432.2 != bt434.2) = true then (laws_FnBestWithin.j0 k l1 bt427.1 bt427.2.1 bt427.2.2 bt432.1 bt432.2 true) else (laws_FnBestWithin.j0 k l1 bt427.1 bt427.2.1 bt427.2.2 bt432.1 bt432.2 (bt432.1 != bt434.1)))))))) = some r := h
 clear h
 replace H := Option.bind_eq_some_iff.mp H
 obtain ⟨t426, A30, H⟩ := H
 (try dsimp only at H)
 have A3 := Aside0.mk A30
 clear A30
 by_cases c4 : t426 = true
 ·subst c4
  rw [if_pos rfl] at H
  obtain rfl := Option.some.inj H
  go_enter Tryz.func3, Tryz.ntmps3
  (try simp only [List.append_eq, List.cons_append, List.nil_append])
  go_wp2_with (first | ((with_reducible refine gate_callee (f := 5) rfl ?_); refine goesL_ (some 36) rfl rfl Tryz.func5 (by kernel_rfl) rfl #[.slice A0 l0.length c0, .slice A1 l1.length c1] rfl (by (try simp only [List.map_toArray, List.map_cons, List.map_nil]); first | done | rfl | (simp only [List.length_drop, List.length_take]; rfl)) ?_; (with_reducible refine (laws_big.calls _ _ l0 _ _ l1 true _ ?side1 ?side2 ?side3 ?side4 A3.out).mono ?_); (case side1 => exact zC HR0.out); (case side2 => exact HC0.out); (case side3 => exact zC HR1.out); (case side4 => exact HC1.out); rintro e w' ⟨rfl, ⟨nd, rfl⟩⟩; refine ⟨_, rfl, ?_⟩))
  go_ret
  exact ⟨zF, zB HB.out⟩
 ·replace c4 := Bool.eq_false_iff.mpr c4
  subst c4
  rw [if_neg zN] at H
  replace H := Option.bind_eq_some_iff.mp H
  obtain ⟨⟨t427, t428, t429⟩, A50, H⟩ := H
  (try dsimp only at H)
  have A5 := Aside0.mk A50
  clear A50
  replace H := Option.bind_eq_some_iff.mp H
  obtain ⟨⟨t432, t433⟩, A60, H⟩ := H
  (try dsimp only at H)
  have A6 := Aside0.mk A60
  clear A60
  replace H := Option.bind_eq_some_iff.mp H
  obtain ⟨⟨t434, t435⟩, A70, H⟩ := H
  (try dsimp only at H)
  have A7 := Aside0.mk A70
  clear A70
  have HC8 := Aside0.mk H
  clear H
  go_enter Tryz.func3, Tryz.ntmps3
  (try simp only [List.append_eq, List.cons_append, List.nil_append])
  go_upto_region 6 with (first | ((with_reducible refine gate_callee (f := 5) rfl ?_); refine goesL_ (some 36) rfl rfl Tryz.func5 (by kernel_rfl) rfl #[.slice A0 l0.length c0, .slice A1 l1.length c1] rfl (by (try simp only [List.map_toArray, List.map_cons, List.map_nil]); first | done | rfl | (simp only [List.length_drop, List.length_take]; rfl)) ?_; (with_reducible refine (laws_big.calls _ _ l0 _ _ l1 false _ ?side1 ?side2 ?side3 ?side4 A3.out).mono ?_); (case side1 => exact zC HR0.out); (case side2 => exact HC0.out); (case side3 => exact zC HR1.out); (case side4 => exact HC1.out); rintro e w' ⟨rfl, ⟨nd, rfl⟩⟩; refine ⟨_, rfl, ?_⟩) | ((with_reducible refine gate_callee (f := 6) rfl ?_); refine goesL_ (some 39) rfl rfl Tryz.func6 (by kernel_rfl) rfl #[.slice A0 l0.length c0] rfl (by (try simp only [List.map_toArray, List.map_cons, List.map_nil]); first | done | rfl | (simp only [List.length_drop, List.length_take]; rfl)) ?_; (with_reducible refine (spec_DrawBestWithin.calls k _ _ l0 t427 t428 t429 _ ?side1 ?side2 A5.out).mono ?_); (case side1 => exact zC HR0.out); (case side2 => exact HC0.out); rintro e w9 ⟨v430, rfl, ho0, hb⟩; refine ⟨_, rfl, ?_⟩; have n0_ := Aside0.mk (Kd.R_lower ho0 (below_size (zB HB.out))); have n1_ := Aside0.mk (below_step (zB HB.out) hb); clear HB; have HO431 := n0_; have HB := n1_; clear n0_ n1_; (try clear hb); (try clear hb2); (try clear hk); (try clear hi); (try clear ho0); obtain ⟨Ao10, co10, eo10⟩ := Kd.R_slice HO431.out; subst eo10) | ((with_reducible refine gate_callee (f := 7) rfl ?_); refine goesL_ (some 47) rfl rfl Tryz.func7 (by kernel_rfl) rfl #[.slice Ao10 t427.length co10, .int .i64 t428, .int .i64 t429] rfl (by (try simp only [List.map_toArray, List.map_cons, List.map_nil]); first | done | rfl | (simp only [List.length_drop, List.length_take]; rfl)) ?_; (with_reducible refine (impl_BestWithin.calls k _ _ t427 t428 t429 t432 t433 _ ?side1 ?side2 A6.out).mono ?_); (case side1 => exact zC (Kd.R_reads' HO431.out).2.2); (case side2 => exact (Kd.R_reads' HO431.out).2.1); rintro e w11 ⟨rfl, hb⟩; refine ⟨_, rfl, ?_⟩; have n0_ := Aside0.mk (Kd.R_below (zR HO431.out) hb); have n1_ := Aside0.mk (below_step (zB HB.out) hb); clear HO431; clear HB; have HO431 := n0_; have HB := n1_; clear n0_ n1_; (try clear hb); (try clear hb2); (try clear hk); (try clear hi)) | ((with_reducible refine gate_callee (f := 8) rfl ?_); refine goesL_ (some 54) rfl rfl Tryz.func8 (by kernel_rfl) rfl #[.slice Ao10 t427.length co10, .int .i64 t428, .int .i64 t429] rfl (by (try simp only [List.map_toArray, List.map_cons, List.map_nil]); first | done | rfl | (simp only [List.length_drop, List.length_take]; rfl)) ?_; (with_reducible refine (spec_BestWithin.calls k _ _ t427 t428 t429 t434 t435 _ ?side1 ?side2 A7.out).mono ?_); (case side1 => exact zC (Kd.R_reads' HO431.out).2.2); (case side2 => exact (Kd.R_reads' HO431.out).2.1); rintro e w12 ⟨rfl, hb⟩; refine ⟨_, rfl, ?_⟩; have n0_ := Aside0.mk (Kd.R_below (zR HO431.out) hb); have n1_ := Aside0.mk (below_step (zB HB.out) hb); clear HO431; clear HB; have HO431 := n0_; have HB := n1_; clear n0_ n1_; (try clear hb); (try clear hb2); (try clear hk); (try clear hi)))
  (try simp only [Act.put, List.setIfInBounds_toArray, List.set_cons_zero, List.set_cons_succ])
  refine wp_cutK (by assumption) ?_
  intro Kq2 HKq2
  have H := HC8.out
  clear HC8
  by_cases c13 : (t433 != t435) = true
  ·rw [if_pos c13] at H
   have c13b0 : (t433 != t435) = true := c13
   (try (have c13b1 : decide (t433 = t435) = false := by simpa using c13))
   (try (have c13b2 : (t433 == t435) = false := by simpa using c13))
   (try (have c13b3 : ¬ (t433 = t435) := by simpa using c13))
   clear c13
   (first | rw [c13b0] | (simp only [i64_w, i32_w]; rw [c13b0]) | skip)
   have H' := Aside0.mk H
   clear H
   go_wp2
   (try simp only [Act.put, List.setIfInBounds_toArray, List.set_cons_zero, List.set_cons_succ])
   exact part_j0 (x64_7 := (true)) HR0 HC0 HR1 HC1 zE1 H' ⟨Nat.le_refl _⟩ ⟨zR HO431.out⟩ ⟨zB HB.out⟩ (by assumption) HKq2.out
  ·rw [if_neg c13] at H
   have c13b0 : (t433 != t435) = false := by simpa using c13
   (try (have c13b1 : decide (t433 = t435) = true := by simpa using c13))
   (try (have c13b2 : (t433 == t435) = true := by simpa using c13))
   clear c13
   (first | rw [c13b0] | (simp only [i64_w, i32_w]; rw [c13b0]) | skip)
   have H' := Aside0.mk H
   clear H
   go_wp2
   (try simp only [Act.put, List.setIfInBounds_toArray, List.set_cons_zero, List.set_cons_succ])
   exact part_j0 (x64_7 := ((t432 != t434))) HR0 HC0 HR1 HC1 zE1 H' ⟨Nat.le_refl _⟩ ⟨zR HO431.out⟩ ⟨zB HB.out⟩ (by assumption) HKq2.out
def laws_FnBestWithin.Pure : Prop := ∀ (l0 : List Int) (l1 : List Int), l0.length ≤ maxLen → l0.length * 1 ≤ 140737488351232 → (∀ x ∈ l0, (Lit.int .u8 x).wf = true) → l1.length ≤ maxLen → l1.length * 1 ≤ 140737488351232 → (∀ x ∈ l1, (Lit.int .u8 x).wf = true) → ∃ k, laws_FnBestWithin.f k l0 l1 = some true
end Go.Proofs.YtmanjfdchhipmaaGreatDoor.XFnBestWithin
