-- Written by a program of this session (wip/xprint.py), which follows the kit's print; no kit file.
import Derived.Test.YtaglbacldonflaaDoorXFnExactMeetGeneratorsx0
import Derived.Test.YtaglbacldonflaaDoorXFnExactMeetGeneratorsx5
namespace Go.Proofs.YtaglbacldonflaaDoor.XFnExactMeetGenerators
open Go.RowKit Go.Proofs.YtaglbacldonflaaDoor.Hand Go.Proofs.YtaglbacldonflaaDoorW.PrintWords Go.Proofs.YtaglbacldonflaaDoorW.PrintLast Go.Proofs.YtaglbacldonflaaDoorW.PrintMore
attribute [local go_sem] max2_int min2_int max_two min_two max_three min_three max_four min_four   -- for this text's walks alone
set_option linter.unusedVariables false
set_option linter.unusedSimpArgs false

/-! ### impl_isSet: function 32 -/
def impl_isSet.l0 : Nat → List ByteArray → List ByteArray → Int → Int → Option (Bool)
  | 0, _, _, _, _ => none
  | k + 1, x0, x5, x6, x7 => if x7 < x6 then (if 0 ≤ x7 then (if x7 < (x5.length : Int) then ((impl_isShort.f (rdOf ByteArray.empty x5 x7)).bind fun t244 => (if t244 = true then (if x7 > 0 then (if 0 ≤ (wrap64 (x7 - 1)) then (if (wrap64 (x7 - 1)) < (x0.length : Int) then ((impl_compareWords.f k (rdOf ByteArray.empty x0 (wrap64 (x7 - 1))) (rdOf ByteArray.empty x5 x7)).bind fun t246 => (if t246 ≥ 0 then (some false) else (impl_isSet.l0 k x0 x5 x6 (wrap64 (x7 + 1))))) else (none)) else (none)) else (impl_isSet.l0 k x0 x5 x6 (wrap64 (x7 + 1)))) else (some false))) else (none)) else (none)) else (some (decide ((x0.length : Int) ≤ 12)))
def impl_isSet.f (k : Nat) (l0 : List ByteArray) : Option (Bool) := impl_isSet.l0 k l0 l0 (l0.length : Int) 0
theorem impl_isSet.mono_l : ∀ k, (∀ y0 y1 y2 y3, LeO (impl_isSet.l0 k y0 y1 y2 y3) (impl_isSet.l0 (k + 1) y0 y1 y2 y3))
  | 0 => fun _ _ _ _ r h => by simp [impl_isSet.l0] at h
  | k + 1 => by
    have ih0 := impl_isSet.mono_l k
    · intro y0 y1 y2 y3
      unfold impl_isSet.l0
      repeat' first
      | (with_reducible exact ih0 _ _ _ _)
      | (with_reducible exact impl_compareWords.mono _ _ _)
      | (with_reducible exact LeO.refl _)
      | (with_reducible exact LeO.none _)
      | (with_reducible refine LeO.ite ?_ ?_)
      | (with_reducible refine LeO.bind ?_ (fun _ => ?_))
      | exact ih0 _ _ _ _
      | exact impl_compareWords.mono _ _ _
      | exact LeO.none _
      | refine LeO.ite ?_ ?_
      | refine LeO.bind ?_ (fun _ => ?_)
theorem impl_isSet.mono : ∀ a0 k, LeO (impl_isSet.f k a0) (impl_isSet.f (k + 1) a0) := by
  intro a0 k
  have ih0 := impl_isSet.mono_l k
  unfold impl_isSet.f
  repeat' first
      | (with_reducible exact ih0 _ _ _ _)
      | (with_reducible exact impl_compareWords.mono _ _ _)
      | (with_reducible exact LeO.refl _)
      | (with_reducible exact LeO.none _)
      | (with_reducible refine LeO.ite ?_ ?_)
      | (with_reducible refine LeO.bind ?_ (fun _ => ?_))
      | exact ih0 _ _ _ _
      | exact impl_compareWords.mono _ _ _
      | exact LeO.none _
      | refine LeO.ite ?_ ?_
      | refine LeO.bind ?_ (fun _ => ?_)
set_option maxHeartbeats 8000000 in
set_option maxRecDepth 100000 in
theorem impl_isSet.calls (k : Nat) (A0 : Option Addr) (c0 : Nat) (l0 : List ByteArray) (r : Bool) (w : World) (hr0 : Kd.C Kd.string w A0 l0.length l0) (hc0 : l0.length ≤ c0) (h : impl_isSet.f k l0 = some r) :
    Calls Tryd.prog 32 #[.slice A0 l0.length c0] w fun e w' => e = .returned (.bool r) ∧ Below w.heap.size w w' := by
  have HR0 := Aside0.mk hr0
  have HC0 := Aside0.mk hc0
  clear hr0 hc0
  have HB := Aside0.mk (Below.refl w.heap.size w)
  have H : (impl_isSet.l0 k l0 l0 (l0.length : Int) 0) = some r := h
  clear h
  have H' := Aside0.mk H
  clear H
  go_enter Tryd.func32, Tryd.ntmps32
  go_wp2
  go_loopg [7] k (fun kq v7 w' => ∃ (x7_1 : Int), v7 = .int .i64 x7_1 ∧ Aside0 (impl_isSet.l0 kq l0 l0 (l0.length : Int) x7_1 = some r) ∧ Aside0 (kq ≤ k) ∧ Aside0 (Below w.heap.size w w'))
  case atStart => exact ⟨(0), (by first | rfl | (simp; done) | (simp [*]; done) | (simp only [IntWalk.i64_left]; done) | (simp [IntWalk.i64_left]; done) | (simp [*, IntWalk.i64_left]; done)), H', ⟨Nat.le_refl _⟩, ⟨by repeat (first | (with_reducible first | exact HB.out | apply below_alloc | apply pw_below_drewN | apply below_drew1) | exact HB.out)⟩⟩
  case round =>
    clear H'
    obtain ⟨x7_1, rfl, HA, HK1, HB⟩ := hrel
    cases gk with
    | zero => exact absurd HA.out (by simp [impl_isSet.l0])
    | succ k1 =>
      have H := HA.out
      clear HA
      simp only [impl_isSet.l0] at H
      by_cases c2 : x7_1 < (l0.length : Int)
      · rw [if_pos c2] at H
        have c2b0 : decide (x7_1 < (l0.length : Int)) = true := decide_eq_true c2
        clear c2
        by_cases c3 : 0 ≤ x7_1
        · rw [if_pos c3] at H
          have c3b0 : decide (0 ≤ x7_1) = true := decide_eq_true c3
          clear c3
          by_cases c4 : x7_1 < (l0.length : Int)
          · rw [if_pos c4] at H
            have c4b0 : decide (x7_1 < (l0.length : Int)) = true := decide_eq_true c4
            clear c4
            replace H := Option.bind_eq_some_iff.mp H
            obtain ⟨t244, A50, H⟩ := H
            replace H : (if t244 = true then (if x7_1 > 0 then (if 0 ≤ (wrap64 (x7_1 - 1)) then (if (wrap64 (x7_1 - 1)) < (l0.length : Int) then ((impl_compareWords.f k1 (rdOf ByteArray.empty l0 (wrap64 (x7_1 - 1))) (rdOf ByteArray.empty l0 x7_1)).bind fun t246 => (if t246 ≥ 0 then (some false) else (impl_isSet.l0 k1 l0 l0 (l0.length : Int) (wrap64 (x7_1 + 1))))) else (none)) else (none)) else (impl_isSet.l0 k1 l0 l0 (l0.length : Int) (wrap64 (x7_1 + 1)))) else (some false)) = some r := H
            have A5 := Aside0.mk A50
            clear A50
            by_cases c6 : t244 = true
            · subst c6
              have H1 : (if x7_1 > 0 then (if 0 ≤ (wrap64 (x7_1 - 1)) then (if (wrap64 (x7_1 - 1)) < (l0.length : Int) then ((impl_compareWords.f k1 (rdOf ByteArray.empty l0 (wrap64 (x7_1 - 1))) (rdOf ByteArray.empty l0 x7_1)).bind fun t246 => (if t246 ≥ 0 then (some false) else (impl_isSet.l0 k1 l0 l0 (l0.length : Int) (wrap64 (x7_1 + 1))))) else (none)) else (none)) else (impl_isSet.l0 k1 l0 l0 (l0.length : Int) (wrap64 (x7_1 + 1)))) = some r := by rw [if_pos rfl] at H; exact H
              clear H
              have H := H1
              clear H1
              by_cases c7 : x7_1 > 0
              · rw [if_pos c7] at H
                have c7b0 : decide (0 < x7_1) = true := decide_eq_true c7
                clear c7
                obtain ⟨ji8, hji8⟩ : ∃ j_ : Int, (wrap64 (x7_1 - 1)) = j_ := ⟨_, rfl⟩
                replace H : (if 0 ≤ (ji8) then (if (ji8) < (l0.length : Int) then ((impl_compareWords.f k1 (rdOf ByteArray.empty l0 (ji8)) (rdOf ByteArray.empty l0 x7_1)).bind fun t246 => (if t246 ≥ 0 then (some false) else (impl_isSet.l0 k1 l0 l0 (l0.length : Int) (wrap64 (x7_1 + 1))))) else (none)) else (none)) = some r := by first | (rw [hji8] at H; exact H) | (simp only [hji8] at H ⊢; exact H)
                (try rw [hji8] at A5)
                have hji8w : (IntKind.i64.wrap (x7_1 - 1)) = ji8 := (i64_w _).trans hji8
                by_cases c9 : 0 ≤ (ji8)
                · rw [if_pos c9] at H
                  have c9b0 : decide (0 ≤ (ji8)) = true := decide_eq_true c9
                  clear c9
                  by_cases c10 : (ji8) < (l0.length : Int)
                  · rw [if_pos c10] at H
                    have c10b0 : decide ((ji8) < (l0.length : Int)) = true := decide_eq_true c10
                    clear c10
                    replace H := Option.bind_eq_some_iff.mp H
                    obtain ⟨t246, A110, H⟩ := H
                    replace H : (if t246 ≥ 0 then (some false) else (impl_isSet.l0 k1 l0 l0 (l0.length : Int) (wrap64 (x7_1 + 1)))) = some r := H
                    have A11 := Aside0.mk A110
                    clear A110
                    by_cases c12 : t246 ≥ 0
                    · rw [if_pos c12] at H
                      have c12b0 : decide (0 ≤ t246) = true := decide_eq_true c12
                      clear c12
                      obtain rfl := Option.some.inj H
                      have p243 : 0 ≤ (x7_1 : Int) := of_decide_eq_true (by first | (with_reducible assumption) | assumption)
                      have q243 : x7_1 < (l0.length : Int) := of_decide_eq_true (by first | (with_reducible assumption) | assumption)
                      obtain ⟨ad243, e243, hx243_0⟩ := Kd.at_string HR0.out x7_1 p243 q243
                      cases e243
                      replace hx243_0 := (HB.out.cell (World.block_lt_of_cell? w _ hx243_0)).trans hx243_0
                      replace p243 := eq_true p243
                      replace q243 := eq_true q243
                      go_wp2_with (first | ((with_reducible refine gate_callee (f := 74) rfl ?_); refine goesL_ (some 13) rfl rfl Tryd.func74 (by kernel_rfl) rfl #[.string (rdOf ByteArray.empty l0 x7_1)] rfl (by (try simp only [List.map_toArray, List.map_cons, List.map_nil]); first | done | rfl | (simp only [List.length_drop, List.length_take]; rfl)) ?_; (with_reducible refine (impl_isShort.calls (rdOf ByteArray.empty l0 x7_1) true _ A5.out).mono ?_); rintro e w13 ⟨rfl, hb⟩; refine ⟨_, rfl, ?_⟩; have n0_ := Aside0.mk (below_step (by repeat (first | (with_reducible first | exact HB.out | apply below_alloc | apply pw_below_drewN | apply below_drew1) | exact HB.out)) hb); clear HB; have HB := n0_; clear n0_; (try clear hb); (try clear hb2); (try clear hk); (try clear hi); have p245 : 0 ≤ ((ji8) : Int) := of_decide_eq_true (by first | (with_reducible assumption) | assumption); have q245 : (ji8) < (l0.length : Int) := of_decide_eq_true (by first | (with_reducible assumption) | assumption); obtain ⟨ad245, e245, hx245_0⟩ := Kd.at_string HR0.out (ji8) p245 q245; obtain rfl : ad243 = ad245 := (by injection e245); replace hx245_0 := (HB.out.cell (World.block_lt_of_cell? w _ hx245_0)).trans hx245_0; replace p245 := eq_true p245; replace q245 := eq_true q245) | (go_at_call 75; (with_reducible refine (impl_compareWords.calls k1 (rdOf ByteArray.empty l0 (ji8)) (rdOf ByteArray.empty l0 x7_1) t246 _ A11.out).mono ?_); rintro e w14 ⟨rfl, hb⟩; have n0_ := Aside0.mk (below_step (by repeat (first | (with_reducible first | exact HB.out | apply below_alloc | apply pw_below_drewN | apply below_drew1) | exact HB.out)) hb); clear HB; have HB := n0_; clear n0_; (try clear hb); (try clear hb2); (try clear hk); (try clear hi)))
                      go_ret
                      exact ⟨by first | rfl | (simp [errW_none, errW_some] <;> rfl) | (simp only [← hji8]; first | rfl | (simp [errW_none, errW_some] <;> rfl)) | (simp [*, errW_none, errW_some] <;> rfl), by repeat (first | (with_reducible first | exact HB.out | apply below_alloc | apply pw_below_drewN | apply below_drew1) | exact HB.out)⟩
                    · rw [if_neg c12] at H
                      have c12b0 : decide (0 ≤ t246) = false := decide_eq_false c12
                      clear c12
                      have H' := Aside0.mk H
                      clear H
                      have p243 : 0 ≤ (x7_1 : Int) := of_decide_eq_true (by first | (with_reducible assumption) | assumption)
                      have q243 : x7_1 < (l0.length : Int) := of_decide_eq_true (by first | (with_reducible assumption) | assumption)
                      obtain ⟨ad243, e243, hx243_0⟩ := Kd.at_string HR0.out x7_1 p243 q243
                      cases e243
                      replace hx243_0 := (HB.out.cell (World.block_lt_of_cell? w _ hx243_0)).trans hx243_0
                      replace p243 := eq_true p243
                      replace q243 := eq_true q243
                      go_wp2_with (first | ((with_reducible refine gate_callee (f := 74) rfl ?_); refine goesL_ (some 13) rfl rfl Tryd.func74 (by kernel_rfl) rfl #[.string (rdOf ByteArray.empty l0 x7_1)] rfl (by (try simp only [List.map_toArray, List.map_cons, List.map_nil]); first | done | rfl | (simp only [List.length_drop, List.length_take]; rfl)) ?_; (with_reducible refine (impl_isShort.calls (rdOf ByteArray.empty l0 x7_1) true _ A5.out).mono ?_); rintro e w15 ⟨rfl, hb⟩; refine ⟨_, rfl, ?_⟩; have n0_ := Aside0.mk (below_step (by repeat (first | (with_reducible first | exact HB.out | apply below_alloc | apply pw_below_drewN | apply below_drew1) | exact HB.out)) hb); clear HB; have HB := n0_; clear n0_; (try clear hb); (try clear hb2); (try clear hk); (try clear hi); have p245 : 0 ≤ ((ji8) : Int) := of_decide_eq_true (by first | (with_reducible assumption) | assumption); have q245 : (ji8) < (l0.length : Int) := of_decide_eq_true (by first | (with_reducible assumption) | assumption); obtain ⟨ad245, e245, hx245_0⟩ := Kd.at_string HR0.out (ji8) p245 q245; obtain rfl : ad243 = ad245 := (by injection e245); replace hx245_0 := (HB.out.cell (World.block_lt_of_cell? w _ hx245_0)).trans hx245_0; replace p245 := eq_true p245; replace q245 := eq_true q245) | (go_at_call 75; (with_reducible refine (impl_compareWords.calls k1 (rdOf ByteArray.empty l0 (ji8)) (rdOf ByteArray.empty l0 x7_1) t246 _ A11.out).mono ?_); rintro e w16 ⟨rfl, hb⟩; have n0_ := Aside0.mk (below_step (by repeat (first | (with_reducible first | exact HB.out | apply below_alloc | apply pw_below_drewN | apply below_drew1) | exact HB.out)) hb); clear HB; have HB := n0_; clear n0_; (try clear hb); (try clear hb2); (try clear hk); (try clear hi)))
                      first | go_roundg k1 | (simp only [← hji8]; go_roundg k1)
                      case measure => have := HK1.out; omega
                      case rel => exact ⟨(wrap64 (x7_1 + 1)), (by first | rfl | (simp; done) | (simp [*]; done) | (simp only [IntWalk.i64_left]; done) | (simp [IntWalk.i64_left]; done) | (simp [*, IntWalk.i64_left]; done)), H', ⟨by have := HK1.out; omega⟩, ⟨by repeat (first | (with_reducible first | exact HB.out | apply below_alloc | apply pw_below_drewN | apply below_drew1) | exact HB.out)⟩⟩
                  · rw [if_neg c10] at H
                    exact absurd H (by simp)
                · rw [if_neg c9] at H
                  exact absurd H (by simp)
              · rw [if_neg c7] at H
                have c7b0 : decide (0 < x7_1) = false := decide_eq_false c7
                clear c7
                have H' := Aside0.mk H
                clear H
                have p243 : 0 ≤ (x7_1 : Int) := of_decide_eq_true (by first | (with_reducible assumption) | assumption)
                have q243 : x7_1 < (l0.length : Int) := of_decide_eq_true (by first | (with_reducible assumption) | assumption)
                obtain ⟨ad243, e243, hx243_0⟩ := Kd.at_string HR0.out x7_1 p243 q243
                cases e243
                replace hx243_0 := (HB.out.cell (World.block_lt_of_cell? w _ hx243_0)).trans hx243_0
                replace p243 := eq_true p243
                replace q243 := eq_true q243
                go_wp2_with (first | ((with_reducible refine gate_callee (f := 74) rfl ?_); refine goesL_ (some 13) rfl rfl Tryd.func74 (by kernel_rfl) rfl #[.string (rdOf ByteArray.empty l0 x7_1)] rfl (by (try simp only [List.map_toArray, List.map_cons, List.map_nil]); first | done | rfl | (simp only [List.length_drop, List.length_take]; rfl)) ?_; (with_reducible refine (impl_isShort.calls (rdOf ByteArray.empty l0 x7_1) true _ A5.out).mono ?_); rintro e w17 ⟨rfl, hb⟩; refine ⟨_, rfl, ?_⟩; have n0_ := Aside0.mk (below_step (by repeat (first | (with_reducible first | exact HB.out | apply below_alloc | apply pw_below_drewN | apply below_drew1) | exact HB.out)) hb); clear HB; have HB := n0_; clear n0_; (try clear hb); (try clear hb2); (try clear hk); (try clear hi)))
                go_roundg k1
                case measure => have := HK1.out; omega
                case rel => exact ⟨(wrap64 (x7_1 + 1)), (by first | rfl | (simp; done) | (simp [*]; done) | (simp only [IntWalk.i64_left]; done) | (simp [IntWalk.i64_left]; done) | (simp [*, IntWalk.i64_left]; done)), H', ⟨by have := HK1.out; omega⟩, ⟨by repeat (first | (with_reducible first | exact HB.out | apply below_alloc | apply pw_below_drewN | apply below_drew1) | exact HB.out)⟩⟩
            · replace c6 := Bool.eq_false_iff.mpr c6
              subst c6
              have H1 : (some false) = some r := by rw [if_neg (show ¬ (false = true) by decide)] at H; exact H
              clear H
              have H := H1
              clear H1
              obtain rfl := Option.some.inj H
              have p243 : 0 ≤ (x7_1 : Int) := of_decide_eq_true (by first | (with_reducible assumption) | assumption)
              have q243 : x7_1 < (l0.length : Int) := of_decide_eq_true (by first | (with_reducible assumption) | assumption)
              obtain ⟨ad243, e243, hx243_0⟩ := Kd.at_string HR0.out x7_1 p243 q243
              cases e243
              replace hx243_0 := (HB.out.cell (World.block_lt_of_cell? w _ hx243_0)).trans hx243_0
              replace p243 := eq_true p243
              replace q243 := eq_true q243
              go_wp2_with (first | ((with_reducible refine gate_callee (f := 74) rfl ?_); refine goesL_ (some 13) rfl rfl Tryd.func74 (by kernel_rfl) rfl #[.string (rdOf ByteArray.empty l0 x7_1)] rfl (by (try simp only [List.map_toArray, List.map_cons, List.map_nil]); first | done | rfl | (simp only [List.length_drop, List.length_take]; rfl)) ?_; (with_reducible refine (impl_isShort.calls (rdOf ByteArray.empty l0 x7_1) false _ A5.out).mono ?_); rintro e w18 ⟨rfl, hb⟩; refine ⟨_, rfl, ?_⟩; have n0_ := Aside0.mk (below_step (by repeat (first | (with_reducible first | exact HB.out | apply below_alloc | apply pw_below_drewN | apply below_drew1) | exact HB.out)) hb); clear HB; have HB := n0_; clear n0_; (try clear hb); (try clear hb2); (try clear hk); (try clear hi)))
              go_ret
              exact ⟨by first | rfl | (simp [errW_none, errW_some] <;> rfl) | (simp [*, errW_none, errW_some] <;> rfl), by repeat (first | (with_reducible first | exact HB.out | apply below_alloc | apply pw_below_drewN | apply below_drew1) | exact HB.out)⟩
          · rw [if_neg c4] at H
            exact absurd H (by simp)
        · rw [if_neg c3] at H
          exact absurd H (by simp)
      · rw [if_neg c2] at H
        have c2b0 : decide (x7_1 < (l0.length : Int)) = false := decide_eq_false c2
        clear c2
        obtain rfl := Option.some.inj H
        go_wp2
        go_ret
        exact ⟨by first | rfl | (simp [errW_none, errW_some] <;> rfl) | (simp [*, errW_none, errW_some] <;> rfl), by repeat (first | (with_reducible first | exact HB.out | apply below_alloc | apply pw_below_drewN | apply below_drew1) | exact HB.out)⟩

-- impl_ordered: function 53, by hand (YtaglbacldonflaaDoorHandOrdered)

-- NOT PRINTED: function 100 (slices_IndexFunc_string_string)

-- NOT PRINTED: function 63 (slices_DeleteFunc_string_string)

-- impl_written: function 103, by hand
set_option maxHeartbeats 8000000 in
theorem written_clo (w : World) (Bo : Nat) (A : Option Addr) (c : Nat) (out : List ByteArray) (hB : Bo < w.heap.size) (hcell : w.cell? ⟨Bo, 0, none⟩ = some (.slice A out.length c)) (ho : Kd.C Kd.string w A out.length out) :
    ∀ W s, Below w.heap.size w W → FnGives Tryd.prog 130 #[.pointer (some ⟨Bo, 0, none⟩)] #[.string s] (.bool (hasS out s)) W := by
  intro W s hW
  have hcell' : W.cell? ⟨Bo, 0, none⟩ = some (.slice A out.length c) := (hW.cell (p := ⟨Bo, 0, none⟩) hB).trans hcell
  have hcon := contains_calls A c out s W (Kd.C_below ho hW)
  clear hcell ho
  unfold FnGives
  go_enter Tryd.func130, Tryd.ntmps130
  go_wp2_with (go_at_call 65; refine hcon.mono ?_; rintro e w' ⟨rfl, rfl⟩)
  go_ret
  exact ⟨rfl, 0, rfl⟩
/-- a word with each of some words behind it, not longer than told -/
def wrOf (n : Int) (s : ByteArray) (ts : List ByteArray) : List ByteArray := (ts.filter fun t => decide ((s.size : Int) + (t.size : Int) ≤ n)).map fun t => s ++ t
def wrNext (l0 : List ByteArray) (n : Int) (now : List ByteArray) : List ByteArray := now.flatMap fun s => wrOf n s l0
def wrFits (l0 now : List ByteArray) : Bool := decide (now.length * l0.length ≤ 1099511627776) && now.all (fun s => decide (s.size ≤ 1099511627776)) && l0.all (fun s => decide (s.size ≤ 1099511627776))
theorem wrOf_len (n : Int) (s : ByteArray) (ts : List ByteArray) : (wrOf n s ts).length ≤ ts.length := by unfold wrOf; rw [List.length_map]; exact List.length_filter_le _ _
theorem wrNext_len (l0 : List ByteArray) (n : Int) : ∀ now : List ByteArray, (wrNext l0 n now).length ≤ now.length * l0.length
  | [] => by simp [wrNext]
  | s :: now => by
    have ih := wrNext_len l0 n now
    have h := wrOf_len n s l0
    unfold wrNext at *
    rw [List.flatMap_cons, List.length_append, List.length_cons, Nat.succ_mul]
    omega
theorem wrNext_take (l0 : List ByteArray) (n : Int) (now : List ByteArray) (i : Nat) (h : i < now.length) : wrNext l0 n (now.take (i + 1)) = wrNext l0 n (now.take i) ++ wrOf n (rdOf ByteArray.empty now (i : Int)) l0 := by
  have e : rdOf ByteArray.empty now (i : Int) = now[i] := by simp [rdOf, List.getD_eq_getElem?_getD, h]
  unfold wrNext
  rw [e, List.take_add_one, List.getElem?_eq_getElem h, List.flatMap_append]
  simp
theorem wrOf_take (n : Int) (s : ByteArray) (l0 : List ByteArray) (j : Nat) (h : j < l0.length) : wrOf n s (l0.take (j + 1)) = if (s.size : Int) + ((rdOf ByteArray.empty l0 (j : Int)).size : Int) ≤ n then wrOf n s (l0.take j) ++ [s ++ rdOf ByteArray.empty l0 (j : Int)] else wrOf n s (l0.take j) := by
  have e : rdOf ByteArray.empty l0 (j : Int) = l0[j] := by simp [rdOf, List.getD_eq_getElem?_getD, h]
  unfold wrOf
  rw [e, List.take_add_one, List.getElem?_eq_getElem h]
  simp only [Option.toList_some, List.filter_append, List.map_append]
  split <;> rename_i hc
  · simp [hc]
  · simp [hc]
theorem wr_room (l0 : List ByteArray) (n : Int) (now : List ByteArray) (s : ByteArray) (i j : Nat) (hi : i < now.length) (hj : j < l0.length) : (wrNext l0 n (now.take i) ++ wrOf n s (l0.take j)).length < now.length * l0.length := by
  have h1 := wrNext_len l0 n (now.take i)
  have h2 := wrOf_len n s (l0.take j)
  rw [List.length_take, Nat.min_eq_left (by omega)] at h1 h2
  rw [List.length_append]
  have h3 : (i + 1) * l0.length ≤ now.length * l0.length := Nat.mul_le_mul_right _ hi
  rw [Nat.succ_mul] at h3
  omega
def impl_written.l0 : Nat → List ByteArray → Int → List ByteArray → List ByteArray → Option (List ByteArray)
  | 0, _, _, _, _ => none
  | k + 1, l0, n, now, out => if now.length = 0 then impl_ordered.f out else (if wrFits l0 now = true then ((impl_ordered.f (wrNext l0 n now)).bind fun t => (if out.length + (t.filter fun s => !hasS out s).length ≤ 1099511627776 then impl_written.l0 k l0 n (t.filter fun s => !hasS out s) (out ++ t.filter fun s => !hasS out s) else none)) else none)
def impl_written.f (k : Nat) (l0 : List ByteArray) (n : Int) : Option (List ByteArray) := impl_written.l0 k l0 n [⟨#[]⟩] []
theorem impl_written.mono_l : ∀ k y0 y1 y2 y3, LeO (impl_written.l0 k y0 y1 y2 y3) (impl_written.l0 (k + 1) y0 y1 y2 y3)
  | 0 => fun _ _ _ _ r h => by simp [impl_written.l0] at h
  | k + 1 => fun y0 y1 y2 y3 => by
    have ih := impl_written.mono_l k
    unfold impl_written.l0
    exact LeO.ite (LeO.refl _) (LeO.ite (LeO.bind (LeO.refl _) fun t => LeO.ite (ih _ _ _ _) (LeO.refl _)) (LeO.refl _))
theorem impl_written.mono : ∀ a0 a1 k, LeO (impl_written.f k a0 a1) (impl_written.f (k + 1) a0 a1) := by
  intro a0 a1 k
  unfold impl_written.f
  exact impl_written.mono_l _ _ _ _ _
theorem wr_new (W : World) (o : Obj) : (W.alloc o).heap[W.heap.size]? = some o := by unfold World.alloc; simp
set_option maxHeartbeats 16000000 in
set_option maxRecDepth 100000 in
theorem impl_written.calls (k : Nat) (A0 : Option Addr) (c0 : Nat) (l0 : List ByteArray) (a1 : Int) (r : List ByteArray) (w : World) (hr0 : Kd.C Kd.string w A0 l0.length l0) (hc0 : l0.length ≤ c0) (h : impl_written.f k l0 a1 = some r) :
    Calls Tryd.prog 103 #[.slice A0 l0.length c0, .int .i64 a1] w fun e w' => ∃ v0_ : Value, e = .returned (v0_) ∧ Kd.R Kd.string 9 w' w.heap.size (fun _ => True) v0_ r ∧ Below w.heap.size w w' := by
  have HR0 := Aside0.mk hr0
  have HC0 := Aside0.mk hc0
  have H' := Aside0.mk (show impl_written.l0 k l0 a1 [⟨#[]⟩] [] = some r from h)
  have hl9 : l0.length ≤ 9223372036854775807 := (Kd.reads_of_C (d := ByteArray.empty) hr0).2.1
  have HL9 := Aside0.mk hl9
  clear hr0 hc0 h hl9
  have hsl : Tryd.prog.info? 9 = Tryd.prog.info? 9 := rfl
  clear hsl
  have infoS : (Tryd.prog.info? 9).map (fun i => (i.zero, i.size, i.bytes)) = some (some (.string ⟨#[]⟩), 1, 16) := by kernel_rfl
  go_enter Tryd.func103, Tryd.ntmps103
  go_wp2
  go_loopg [5] k (fun kq v5 w' => ∃ (now out : List ByteArray) (vo : Value), Aside0 (impl_written.l0 kq l0 a1 now out = some r) ∧ Aside0 (kq ≤ k) ∧ Aside0 (w'.heap[w.heap.size + 1 + 1]? = some (.cells #[vo] 22 (0, 0))) ∧ Aside0 (Kd.R Kd.string 9 w' w.heap.size (fun k_ => some k_ ≠ vo.ownBlock) v5 now) ∧ Aside0 (Kd.R Kd.string 9 w' w.heap.size (fun _ => True) vo out) ∧ Aside0 (Below w.heap.size w w'))
  case atStart =>
    have o1 : ∀ (W : World) (o : Obj) (i : Nat), i < W.heap.size → (W.alloc o).heap[i]? = W.heap[i]? := fun W o i h => Below.heap_alloc W o i h
    have hb0 : (((w.alloc (Obj.cells #[Value.string { data := #[] }] 9)).alloc (Obj.cells #[] 9)).alloc (Obj.cells #[Value.slice (some { block := w.heap.size + 1, off := 0 }) 0 0] 22)).heap[w.heap.size]? = some (Obj.cells #[Value.string { data := #[] }] 9) := by
      rw [o1 _ _ _ (by simp; omega), o1 _ _ _ (by simp), wr_new]
    have hb1 : (((w.alloc (Obj.cells #[Value.string { data := #[] }] 9)).alloc (Obj.cells #[] 9)).alloc (Obj.cells #[Value.slice (some { block := w.heap.size + 1, off := 0 }) 0 0] 22)).heap[w.heap.size + 1]? = some (Obj.cells #[] 9) := by
      rw [o1 _ _ _ (by simp)]
      have := wr_new (w.alloc (Obj.cells #[Value.string { data := #[] }] 9)) (Obj.cells #[] 9)
      simpa using this
    have hb2 : (((w.alloc (Obj.cells #[Value.string { data := #[] }] 9)).alloc (Obj.cells #[] 9)).alloc (Obj.cells #[Value.slice (some { block := w.heap.size + 1, off := 0 }) 0 0] 22)).heap[w.heap.size + 1 + 1]? = some (Obj.cells #[Value.slice (some { block := w.heap.size + 1, off := 0 }) 0 0] 22) := by
      have := wr_new ((w.alloc (Obj.cells #[Value.string { data := #[] }] 9)).alloc (Obj.cells #[] 9)) (Obj.cells #[Value.slice (some { block := w.heap.size + 1, off := 0 }) 0 0] 22)
      simpa using this
    refine ⟨[⟨#[]⟩], [], _, H', ⟨Nat.le_refl _⟩, ⟨hb2⟩, ⟨?_⟩, ⟨?_⟩, ⟨below_alloc (below_alloc (below_alloc (Below.refl _ _) _) _) _⟩⟩
    · refine Kd.R_of_own ⟨by simp [encs], .inr ⟨w.heap.size, 1, _, rfl, Nat.le_refl _, hb0, by simp, by unfold maxLen; omega, by simp, by simp [encs]⟩⟩ (fun k_ hk => ?_)
      have : w.heap.size = k_ := by simpa [Value.ownBlock] using hk
      subst this
      simp [Value.ownBlock]
    · exact Kd.R_of_own ⟨by simp [encs], .inr ⟨w.heap.size + 1, 0, _, rfl, by omega, hb1, by simp, by unfold maxLen; omega, by simp, by simp [encs]⟩⟩ (fun _ _ => trivial)
  case round =>
    clear H'
    obtain ⟨now, out, vo, HA, HK1, HBX, HN, HO, HB⟩ := hrel
    rename World => W0
    obtain ⟨A5, c5, e5⟩ := Kd.R_slice HN.out
    subst e5
    obtain ⟨Ao, co, eo⟩ := Kd.R_slice HO.out
    subst eo
    have hbx : W0.cell? ⟨w.heap.size + 1 + 1, 0, none⟩ = some (.slice Ao out.length co) := cell_of_one HBX.out
    cases gk with
    | zero => exact absurd HA.out (by simp [impl_written.l0])
    | succ k1 =>
      have H := HA.out
      clear HA
      simp only [impl_written.l0] at H
      by_cases c1 : now.length = 0
      · rw [if_pos c1] at H
        have c1b : decide ((now.length : Int) > 0) = false := decide_eq_false (by omega)
        have c1c : ¬ ((now.length : Int) > 0) := by omega
        have c1d : ¬ (0 < (now.length : Int)) := by omega
        have H' := Aside0.mk H
        clear H
        go_wp2_with (go_at_call 53; (with_reducible refine (impl_ordered.calls _ _ out r _ (Kd.R_reads' HO.out).2.2 (Kd.R_reads' HO.out).2.1 H'.out).mono ?_); rintro e w7 ⟨v7, rfl, ho7, hb7⟩)
        go_ret
        exact ⟨_, rfl, Kd.R_lower ho7 HB.out.size, below_step HB.out hb7⟩
      · rw [if_neg c1] at H
        have c1b : decide ((now.length : Int) > 0) = true := decide_eq_true (by omega)
        have c1c : ((now.length : Int) > 0) := by omega
        have c1d : (0 < (now.length : Int)) := by omega
        have c1e : decide (0 < now.length) = true := decide_eq_true (by omega)
        by_cases c2 : wrFits l0 now = true
        · rw [if_pos c2] at H
          obtain ⟨tn, A20, H⟩ := Option.bind_eq_some_iff.mp H
          have A2 := Aside0.mk A20
          have H' := Aside0.mk H
          clear H A20
          have hf := c2
          unfold wrFits at hf
          simp only [Bool.and_eq_true, decide_eq_true_eq, List.all_eq_true] at hf
          obtain ⟨⟨hf1, hf2⟩, hf3⟩ := hf
          have hrd : ∀ (l : List ByteArray) (i : Nat), (∀ s, s ∈ l → s.size ≤ 1099511627776) → (rdOf ByteArray.empty l (i : Int)).size ≤ 1099511627776 := fun l i hl => by
            unfold rdOf
            rw [Int.toNat_natCast, List.getD_eq_getElem?_getD]
            cases hq : l[i]? with
            | none => simp [ByteArray.size_empty]
            | some s => simpa using hl s (List.mem_of_getElem? hq)
          have F1 := Aside0.mk hf1
          have F2 := Aside0.mk (fun i => hrd now i hf2)
          have F3 := Aside0.mk (fun i => hrd l0 i hf3)
          clear hf1 hf2 hf3 hrd c2 c1
          have hbase : w.heap.size ≤ W0.heap.size := HB.out.size
          have HBASE := Aside0.mk hbase
          have hn9 : now.length ≤ 9223372036854775807 := (Kd.reads_of_C (d := ByteArray.empty) (Kd.R_reads' HN.out).2.2).2.1
          have HN9 := Aside0.mk hn9
          clear hn9
          clear hbase
          go_wp2
          go_loopg [7, 20] now.length (fun g v7 v20 w' => ∃ (i : Nat) (next : List ByteArray), v20 = .int .i64 (i : Int) ∧ Aside0 (i ≤ now.length) ∧ Aside0 (now.length - i ≤ g) ∧ Aside0 (next = wrNext l0 a1 (now.take i)) ∧ Aside0 (Kd.R Kd.string 9 w' W0.heap.size (fun _ => True) v7 next) ∧ Aside0 (Below W0.heap.size W0 w'))
          case atStart =>
            refine ⟨0, [], rfl, ⟨Nat.zero_le _⟩, ⟨by omega⟩, ⟨by simp [wrNext]⟩, ⟨?_⟩, ⟨below_alloc (Below.refl _ _) _⟩⟩
            exact Kd.R_of_own ⟨by simp [encs], .inr ⟨W0.heap.size, 0, _, rfl, Nat.le_refl _, wr_new _ _, by simp, by unfold maxLen; omega, by simp, by simp [encs]⟩⟩ (fun _ _ => trivial)
          case round =>
            clear hbx c1b c1c c1d c1e
            obtain ⟨i, next, rfl, HI, HG, HNX, HNR, HB1⟩ := hrel
            by_cases c3 : i < now.length
            · have c3a : ((i : Int) < (now.length : Int)) := by omega
              have c3b : decide ((i : Int) < (now.length : Int)) = true := decide_eq_true c3a
              have c3c : (0 : Int) ≤ (i : Int) := by omega
              obtain ⟨ad5, e5, hx5⟩ := Kd.at_string (Kd.C_below (Kd.R_reads' HN.out).2.2 HB1.out) (i : Int) c3c c3a
              cases e5
              have F2i := Aside0.mk (F2.out i)
              obtain ⟨s, hs⟩ : ∃ s, s = rdOf ByteArray.empty now (i : Int) := ⟨_, rfl⟩
              rw [← hs] at hx5 F2i
              rw [Int.toNat_natCast] at hx5
              have HS := Aside0.mk hs
              clear hs
              go_wp2
              go_loopg [7, 26] l0.length (fun g v7 v26 w' => ∃ (j : Nat) (nx2 : List ByteArray), v26 = .int .i64 (j : Int) ∧ Aside0 (j ≤ l0.length) ∧ Aside0 (l0.length - j ≤ g) ∧ Aside0 (nx2 = next ++ wrOf a1 s (l0.take j)) ∧ Aside0 (Kd.R Kd.string 9 w' W0.heap.size (fun _ => True) v7 nx2) ∧ Aside0 (Below W0.heap.size W0 w'))
              case atStart => exact ⟨0, next, rfl, ⟨Nat.zero_le _⟩, ⟨by omega⟩, ⟨by simp [wrOf]⟩, HNR, HB1⟩
              case round =>
                clear hx5 c3a c3b c3c
                obtain ⟨j, nx2, rfl, HJ, HG2, HNX2, HNR2, HB2⟩ := hrel
                by_cases c4 : j < l0.length
                · have c4a : ((j : Int) < (l0.length : Int)) := by omega
                  have c4b : decide ((j : Int) < (l0.length : Int)) = true := decide_eq_true c4a
                  have c4c : (0 : Int) ≤ (j : Int) := by omega
                  obtain ⟨ad0, e0, hx0⟩ := Kd.at_string (Kd.C_below HR0.out (below_step HB.out HB2.out)) (j : Int) c4c c4a
                  cases e0
                  have F3j := Aside0.mk (F3.out j)
                  obtain ⟨t, ht⟩ : ∃ t, t = rdOf ByteArray.empty l0 (j : Int) := ⟨_, rfl⟩
                  have HTK := Aside0.mk (wrOf_take a1 s l0 j c4)
                  rw [← ht] at hx0 F3j HTK
                  rw [Int.toNat_natCast] at hx0
                  clear ht
                  by_cases c5 : (s.size : Int) + (t.size : Int) ≤ a1
                  · have c5b : decide ((s.size : Int) + (t.size : Int) ≤ a1) = true := decide_eq_true c5
                    have HRM := Aside0.mk (wr_room l0 a1 now s i j c3 c4)
                    have c6 : s.size + t.size ≤ 9223372036854775807 := by have := F2i.out; have := F3j.out; omega
                    have c6b : (9223372036854775807 < s.size + t.size) = False := eq_false (Nat.not_lt.2 c6)
                    have c6c : (s.size : Int) + (t.size : Int) ≤ 9223372036854775807 := by omega
                    have c7 : (j : Int) + 1 ≤ 9223372036854775807 := by have := HL9.out; omega
                    go_wp2_with ((with_reducible refine gate_builtin (b := .append) (xs := #[.tmp 37, .tmp 41]) rfl ?_); at_builtin; refine Kd.R_append Kd.string (w0 := W0) W0.heap.size rfl (.tmp 37) (.tmp 41) 22 9 (.string ⟨#[]⟩) 16 rfl Tryd.underlying22 infoS rfl (by decide) (by omega) u7 nx2 (s ++ t) [.string (s ++ t)] (fun _ => True) (fun _ => False) rfl rfl ?aP (fun _ hk => hk.elim) ?aF ?aO ?aB ?aS ?aL ?_; (case aP => exact rfl); (case aF => exact fun _ _ => trivial); (case aO => ((with_reducible repeat (first | apply Kd.R_alloc | apply Kd.R_drewN | apply Kd.R_drew)); exact HNR2.out)); (case aB => exact (by repeat (first | (with_reducible first | exact HB2.out | apply below_alloc | apply pw_below_drewN | apply below_drew1) | exact HB2.out))); (case aS => exact (below_size (by repeat (first | (with_reducible first | exact HB2.out | apply below_alloc | apply pw_below_drewN | apply below_drew1) | exact HB2.out)))); (case aL => have h1 := HRM.out; have h2 := F1.out; rw [HNX2.out, HNX.out]; omega); intro v9 w9 ho9 hb9 hg9 hat9; have HO9 := Aside0.mk ho9; have HB9 := Aside0.mk hb9; clear ho9 hb9 hg9 hat9)
                    go_roundg (l0.length - (j + 1))
                    case measure => have := HG2.out; omega
                    case rel => exact ⟨j + 1, _, by simp, ⟨c4⟩, ⟨by omega⟩, ⟨by rw [HTK.out, if_pos c5, HNX2.out, List.append_assoc]⟩, HO9, HB9⟩
                  · have c5b : decide ((s.size : Int) + (t.size : Int) ≤ a1) = false := decide_eq_false c5
                    have c6 : s.size + t.size ≤ 9223372036854775807 := by have := F2i.out; have := F3j.out; omega
                    have c6b : (9223372036854775807 < s.size + t.size) = False := eq_false (Nat.not_lt.2 c6)
                    have c6c : (s.size : Int) + (t.size : Int) ≤ 9223372036854775807 := by omega
                    have c7 : (j : Int) + 1 ≤ 9223372036854775807 := by have := HL9.out; omega
                    go_wp2
                    go_roundg (l0.length - (j + 1))
                    case measure => have := HG2.out; omega
                    case rel => exact ⟨j + 1, _, by simp, ⟨c4⟩, ⟨by omega⟩, ⟨by rw [HTK.out, if_neg (by omega), HNX2.out]⟩, HNR2, HB2⟩
                · obtain rfl : j = l0.length := by have := HJ.out; omega
                  have c4b : decide ((l0.length : Int) < (l0.length : Int)) = false := decide_eq_false (by omega)
                  have c4d : ¬ ((l0.length : Int) < (l0.length : Int)) := by omega
                  rw [List.take_of_length_le (Nat.le_refl _)] at HNX2
                  clear c4
                  have c7 : (i : Int) + 1 ≤ 9223372036854775807 := by have := HN9.out; omega
                  go_wp2
                  go_roundg (now.length - (i + 1))
                  case measure => have := HG.out; omega
                  case rel => exact ⟨i + 1, _, by simp, ⟨c3⟩, ⟨by omega⟩, ⟨by rw [wrNext_take l0 a1 now i c3, ← HS.out, HNX2.out, HNX.out]⟩, HNR2, HB2⟩
            · obtain rfl : i = now.length := by have := HI.out; omega
              have c3b : decide ((now.length : Int) < (now.length : Int)) = false := decide_eq_false (by omega)
              have c3d : ¬ ((now.length : Int) < (now.length : Int)) := by omega
              rw [List.take_of_length_le (Nat.le_refl _)] at HNX
              clear c3 HG HI
              obtain ⟨A7, c7, e7⟩ := Kd.R_slice HNR.out
              subst e7
              have hx : next = wrNext l0 a1 now := HNX.out
              subst hx
              have hclo := written_clo W0 (w.heap.size + 1 + 1) Ao co out (blk_lt HBX.out) (cell_of_one HBX.out) (Kd.R_reads' HO.out).2.2
              have HCLO := Aside0.mk hclo
              clear hclo HNX
              have Hg := H'.out
              clear H'
              split at Hg
              case isFalse => cases Hg
              rename_i hroom
              have H' := Aside0.mk Hg
              have HROOM := Aside0.mk hroom
              clear Hg hroom
              obtain ⟨ys, hys⟩ : ∃ ys, ys = tn.filter fun s => !hasS out s := ⟨_, rfl⟩
              rw [← hys] at H' HROOM
              have HYS := Aside0.mk hys
              clear hys
              have hne : some (w.heap.size + 1 + 1) ≠ (Value.slice Ao out.length co).ownBlock := Kd.R_ne HO.out HBX.out (by decide)
              have HNE := Aside0.mk hne
              clear hne
              go_wp2_with (first
                | (go_at_call 53; (with_reducible refine (impl_ordered.calls _ _ _ tn _ (Kd.R_reads' HNR.out).2.2 (Kd.R_reads' HNR.out).2.1 A2.out).mono ?_); rintro e w7 ⟨v7, rfl, ho7, hb7⟩; have HO7 := Aside0.mk (Kd.R_lower ho7 HB1.out.size); have HB7 := Aside0.mk (below_step HB1.out hb7); clear ho7 hb7)
                | (go_at_call 63; (refine (delete_calls 130 #[.pointer (some ⟨w.heap.size + 1 + 1, 0, none⟩)] (enters_of Tryd.func130 (by kernel_rfl) rfl) (hasS out) W0.heap.size _ tn _ HO7.out HB7.out.size (fun W s hW => HCLO.out W s (HB7.out.trans hW))).mono ?_); rintro e w8 ⟨v8, rfl, ho8, hb8⟩; rw [← HYS.out] at ho8; obtain ⟨A8, c8, e8⟩ := Kd.R_slice ho8; subst e8; have HO8 := Aside0.mk ho8; have HB8 := Aside0.mk (HB7.out.trans hb8); clear ho8 hb8; have hbx8 : w8.cell? ⟨w.heap.size + 1 + 1, 0, none⟩ = some (.slice Ao out.length co) := (HB8.out.cell (p := ⟨w.heap.size + 1 + 1, 0, none⟩) (blk_lt HBX.out)).trans (cell_of_one HBX.out))
                | ((with_reducible refine gate_builtin (b := .append) (xs := #[.tmp 49, .tmp 50]) rfl ?_); at_builtin; refine Kd.R_append_rows Kd.string (w0 := w) w.heap.size rfl (.tmp 49) (.tmp 50) 22 9 (.string ⟨#[]⟩) 16 rfl Tryd.underlying22 infoS rfl (by decide) (by omega) (.slice Ao out.length co) out ys _ _ _ (fun _ => True) (fun _ => False) rfl rfl ?aO ?aR (fun _ _ h => h) (fun _ h => h.elim) ?aF ?aB ?aS ?aL ?_; (case aO => exact Kd.R_below HO.out HB8.out); (case aR => exact (Kd.R_reads' HO8.out).2.2); (case aB => exact below_step HB.out HB8.out); (case aF => exact fun _ _ => trivial); (case aS => exact Nat.le_trans HBASE.out HB8.out.size); (case aL => have := HROOM.out; omega); intro v9 w9 ho9 hb9 hg9 hat9; obtain ⟨A9, c9, e9⟩ := Kd.R_slice ho9; subst e9; rw [List.length_append] at ho9 hat9; have hbl9 : w9.heap[w.heap.size + 1 + 1]? = some (.cells #[.slice Ao out.length co] 22 (0, 0)) := (hg9.block _ (Nat.lt_of_lt_of_le (blk_lt HBX.out) HB8.out.size) HNE.out).trans ((HB8.out.block _ (blk_lt HBX.out)).trans HBX.out); have hc9 := cell_of_one hbl9; have hfz9 := blk_frozen hbl9 0; have HBL9 := Aside0.mk hbl9; have HO9 := Aside0.mk ho9; have HB9 := Aside0.mk hb9; have HG9 := Aside0.mk hg9; have HAT9 := Aside0.mk hat9; clear hbl9 ho9 hb9 hg9 hat9))
              go_roundg k1
              case measure => omega
              case rel =>
                refine ⟨ys, out ++ ys, .slice A9 (out.length + ys.length) c9, H', ⟨by have := HK1.out; omega⟩, ⟨?_⟩, ⟨?_⟩, ⟨?_⟩, ⟨?_⟩⟩
                · exact blk_set HBL9.out 0 (.slice A9 (out.length + ys.length) c9)
                · have h1 : Kd.R Kd.string 9 _ w.heap.size (fun k_ => True ∧ some k_ ≠ (Value.slice Ao out.length co).ownBlock) (.slice A8 ys.length c8) ys := Kd.R_lower (Kd.R_mono (Kd.R_bound HO8.out) (fun k_ hk => ⟨trivial, fun he => absurd (Kd.R_lt HO.out k_ he.symm) (Nat.not_lt.2 hk.2.1)⟩)) HBASE.out
                  have h2 := Kd.R_after h1 HG9.out HAT9.out
                  exact Kd.R_mono (Kd.R_set h2 HBL9.out (by decide) 0 _) (fun k_ hk => hk.2)
                · exact Kd.R_set HO9.out HBL9.out (by decide) 0 _
                · exact HB9.out.setCell (by show _ ≤ w.heap.size + 1 + 1; omega) _
        · rw [if_neg c2] at H; cases H

/-! ### impl_writtenUpTo: function 62 -/
def impl_writtenUpTo.j0 : Nat → List ByteArray → Int → Bool → Option (List ByteArray × Bool)
  | 0, _, _, _ => none
  | k + 1, x0, x1, x14 => if x14 = true then (some (([] : List ByteArray), false)) else ((impl_written.f k x0 x1).bind fun t249 => (if (t249.length : Int) > 200 then (some (([] : List ByteArray), false)) else (some (t249, true))))
def impl_writtenUpTo.f (k : Nat) (l0 : List ByteArray) (a1 : Int) : Option (List ByteArray × Bool) := (impl_isSet.f k l0).bind fun t247 => (if t247 = true then ((impl_in.f a1 0 8).bind fun t248 => (impl_writtenUpTo.j0 k l0 a1 (!t248))) else (impl_writtenUpTo.j0 k l0 a1 true))
theorem impl_writtenUpTo.mono_l : ∀ k, (∀ y0 y1 y2, LeO (impl_writtenUpTo.j0 k y0 y1 y2) (impl_writtenUpTo.j0 (k + 1) y0 y1 y2))
  | 0 => fun _ _ _ r h => by simp [impl_writtenUpTo.j0] at h
  | k + 1 => by
    have ih0 := impl_writtenUpTo.mono_l k
    · intro y0 y1 y2
      unfold impl_writtenUpTo.j0
      repeat' first
      | (with_reducible exact ih0 _ _ _)
      | (with_reducible exact impl_isSet.mono _ _)
      | (with_reducible exact impl_written.mono _ _ _)
      | (with_reducible exact LeO.refl _)
      | (with_reducible exact LeO.none _)
      | (with_reducible refine LeO.ite ?_ ?_)
      | (with_reducible refine LeO.bind ?_ (fun _ => ?_))
      | exact ih0 _ _ _
      | exact impl_isSet.mono _ _
      | exact impl_written.mono _ _ _
      | exact LeO.none _
      | refine LeO.ite ?_ ?_
      | refine LeO.bind ?_ (fun _ => ?_)
theorem impl_writtenUpTo.mono : ∀ a0 a1 k, LeO (impl_writtenUpTo.f k a0 a1) (impl_writtenUpTo.f (k + 1) a0 a1) := by
  intro a0 a1 k
  have ih0 := impl_writtenUpTo.mono_l k
  unfold impl_writtenUpTo.f
  repeat' first
      | (with_reducible exact ih0 _ _ _)
      | (with_reducible exact impl_isSet.mono _ _)
      | (with_reducible exact impl_written.mono _ _ _)
      | (with_reducible exact LeO.refl _)
      | (with_reducible exact LeO.none _)
      | (with_reducible refine LeO.ite ?_ ?_)
      | (with_reducible refine LeO.bind ?_ (fun _ => ?_))
      | exact ih0 _ _ _
      | exact impl_isSet.mono _ _
      | exact impl_written.mono _ _ _
      | exact LeO.none _
      | refine LeO.ite ?_ ?_
      | refine LeO.bind ?_ (fun _ => ?_)
set_option maxHeartbeats 8000000 in
set_option maxRecDepth 100000 in
theorem impl_writtenUpTo.calls (k : Nat) (A0 : Option Addr) (c0 : Nat) (l0 : List ByteArray) (a1 : Int) (r1 : List ByteArray) (r2 : Bool) (w : World) (hr0 : Kd.C Kd.string w A0 l0.length l0) (hc0 : l0.length ≤ c0) (h : impl_writtenUpTo.f k l0 a1 = some (r1, r2)) :
    Calls Tryd.prog 62 #[.slice A0 l0.length c0, .int .i64 a1] w fun e w' => ∃ v0_ : Value, e = .returned (.tuple #[v0_, .bool r2]) ∧ Kd.R Kd.string 9 w' w.heap.size (fun _ => True) v0_ r1 ∧ Below w.heap.size w w' := by
  have HR0 := Aside0.mk hr0
  have HC0 := Aside0.mk hc0
  clear hr0 hc0
  have HB := Aside0.mk (Below.refl w.heap.size w)
  have H : ((impl_isSet.f k l0).bind fun t247 => (if t247 = true then ((impl_in.f a1 0 8).bind fun t248 => (impl_writtenUpTo.j0 k l0 a1 (!t248))) else (impl_writtenUpTo.j0 k l0 a1 true))) = some (r1, r2) := h
  clear h
  have HC3 := Aside0.mk H
  clear H
  go_enter Tryd.func62, Tryd.ntmps62
  go_upto_region 1 with (fail)
  go_cut [14] (fun v14 wc => ∃ (kq : Nat) (x14_2 : Bool), v14 = .bool x14_2 ∧ Aside0 (impl_writtenUpTo.j0 kq l0 a1 x14_2 = some (r1, r2)) ∧ Aside0 (kq ≤ k) ∧ Aside0 (Below w.heap.size w wc))
  case first =>
    have H := HC3.out
    clear HC3
    replace H := Option.bind_eq_some_iff.mp H
    obtain ⟨t247, A40, H⟩ := H
    replace H : (if t247 = true then ((impl_in.f a1 0 8).bind fun t248 => (impl_writtenUpTo.j0 k l0 a1 (!t248))) else (impl_writtenUpTo.j0 k l0 a1 true)) = some (r1, r2) := H
    have A4 := Aside0.mk A40
    clear A40
    by_cases c5 : t247 = true
    · subst c5
      have H1 : ((impl_in.f a1 0 8).bind fun t248 => (impl_writtenUpTo.j0 k l0 a1 (!t248))) = some (r1, r2) := by rw [if_pos rfl] at H; exact H
      clear H
      have H := H1
      clear H1
      replace H := Option.bind_eq_some_iff.mp H
      obtain ⟨t248, A60, H⟩ := H
      replace H : (impl_writtenUpTo.j0 k l0 a1 (!t248)) = some (r1, r2) := H
      have A6 := Aside0.mk A60
      clear A60
      have H' := Aside0.mk H
      clear H
      go_wp2_with (first | ((with_reducible refine gate_callee (f := 32) rfl ?_); refine goesL_ (some 8) rfl rfl Tryd.func32 (by kernel_rfl) rfl #[.slice A0 l0.length c0] rfl (by (try simp only [List.map_toArray, List.map_cons, List.map_nil]); first | done | rfl | (simp only [List.length_drop, List.length_take]; rfl)) ?_; (with_reducible refine (impl_isSet.calls k _ _ l0 true _ ?side1 ?side2 A4.out).mono ?_); (case side1 => repeat (first | exact (Kd.C_below HR0.out HB.out) | (with_reducible refine Kd.C_alloc ?_ _) | (with_reducible refine Kd.C_drewN ?_ _) | (with_reducible refine Kd.C_drew ?_))); (case side2 => exact HC0.out); rintro e w7 ⟨rfl, hb⟩; refine ⟨_, rfl, ?_⟩; have n0_ := Aside0.mk (below_step (by repeat (first | (with_reducible first | exact HB.out | apply below_alloc | apply pw_below_drewN | apply below_drew1) | exact HB.out)) hb); clear HB; have HB := n0_; clear n0_; (try clear hb); (try clear hb2); (try clear hk); (try clear hi)) | (go_at_call 87; (with_reducible refine (impl_in.calls a1 0 8 t248 _ A6.out).mono ?_); rintro e w' ⟨rfl, ⟨nd, rfl⟩⟩))
      go_meet
      case rel => exact ⟨_, (!t248), (by first | rfl | (simp; done) | (simp [*]; done) | (simp only [IntWalk.i64_left]; done) | (simp [IntWalk.i64_left]; done) | (simp [*, IntWalk.i64_left]; done)), H', ⟨by first | omega | exact Nat.le_refl _⟩, ⟨by repeat (first | (with_reducible first | exact HB.out | apply below_alloc | apply pw_below_drewN | apply below_drew1) | exact HB.out)⟩⟩
    · replace c5 := Bool.eq_false_iff.mpr c5
      subst c5
      have H1 : (impl_writtenUpTo.j0 k l0 a1 true) = some (r1, r2) := by rw [if_neg (show ¬ (false = true) by decide)] at H; exact H
      clear H
      have H := H1
      clear H1
      have H' := Aside0.mk H
      clear H
      go_wp2_with (first | ((with_reducible refine gate_callee (f := 32) rfl ?_); refine goesL_ (some 8) rfl rfl Tryd.func32 (by kernel_rfl) rfl #[.slice A0 l0.length c0] rfl (by (try simp only [List.map_toArray, List.map_cons, List.map_nil]); first | done | rfl | (simp only [List.length_drop, List.length_take]; rfl)) ?_; (with_reducible refine (impl_isSet.calls k _ _ l0 false _ ?side1 ?side2 A4.out).mono ?_); (case side1 => repeat (first | exact (Kd.C_below HR0.out HB.out) | (with_reducible refine Kd.C_alloc ?_ _) | (with_reducible refine Kd.C_drewN ?_ _) | (with_reducible refine Kd.C_drew ?_))); (case side2 => exact HC0.out); rintro e w8 ⟨rfl, hb⟩; refine ⟨_, rfl, ?_⟩; have n0_ := Aside0.mk (below_step (by repeat (first | (with_reducible first | exact HB.out | apply below_alloc | apply pw_below_drewN | apply below_drew1) | exact HB.out)) hb); clear HB; have HB := n0_; clear n0_; (try clear hb); (try clear hb2); (try clear hk); (try clear hi)))
      go_meet
      case rel => exact ⟨_, (true), (by first | rfl | (simp; done) | (simp [*]; done) | (simp only [IntWalk.i64_left]; done) | (simp [IntWalk.i64_left]; done) | (simp [*, IntWalk.i64_left]; done)), H', ⟨by first | omega | exact Nat.le_refl _⟩, ⟨by repeat (first | (with_reducible first | exact HB.out | apply below_alloc | apply pw_below_drewN | apply below_drew1) | exact HB.out)⟩⟩
  case rest =>
    clear HC3
    try clear p2
    try clear c3
    try clear c5
    try clear c6
    obtain ⟨kq, x14_2, rfl, HA, HJ2, HB⟩ := hcut
    cases kq with
    | zero => exact absurd HA.out (by simp [impl_writtenUpTo.j0])
    | succ kj2 =>
      have H := HA.out
      clear HA
      simp only [impl_writtenUpTo.j0] at H
      by_cases c9 : x14_2 = true
      · subst c9
        have H1 : (some (([] : List ByteArray), false)) = some (r1, r2) := by rw [if_pos rfl] at H; exact H
        clear H
        have H := H1
        clear H1
        simp only [Option.some.injEq, Prod.mk.injEq] at H
        obtain ⟨rfl, rfl⟩ := H
        go_wp2
        go_ret2
        exact ⟨_, by first | rfl | (simp [errW_none, errW_some] <;> rfl) | (simp [*, errW_none, errW_some] <;> rfl), by first | exact Kd.R_nil _ _ _ _ _ | exact Kd.N_nil _ _ _ _ _ | exact Kd.V_nil _ _ _ _ _ | exact Kd.Q_nil _ _ _ _ _ | exact Kd.S_nil _ _ _ _ _, by repeat (first | (with_reducible first | exact HB.out | apply below_alloc | apply pw_below_drewN | apply below_drew1) | exact HB.out)⟩
      · replace c9 := Bool.eq_false_iff.mpr c9
        subst c9
        have H1 : ((impl_written.f kj2 l0 a1).bind fun t249 => (if (t249.length : Int) > 200 then (some (([] : List ByteArray), false)) else (some (t249, true)))) = some (r1, r2) := by rw [if_neg (show ¬ (false = true) by decide)] at H; exact H
        clear H
        have H := H1
        clear H1
        replace H := Option.bind_eq_some_iff.mp H
        obtain ⟨t249, A100, H⟩ := H
        replace H : (if (t249.length : Int) > 200 then (some (([] : List ByteArray), false)) else (some (t249, true))) = some (r1, r2) := H
        have A10 := Aside0.mk A100
        clear A100
        by_cases c11 : (t249.length : Int) > 200
        · rw [if_pos c11] at H
          have c11b0 : decide (200 < (t249.length : Int)) = true := decide_eq_true c11
          have c11b1 : decide (200 < t249.length) = true := decide_eq_true (by omega)
          clear c11
          simp only [Option.some.injEq, Prod.mk.injEq] at H
          obtain ⟨rfl, rfl⟩ := H
          go_wp2_with (first | ((with_reducible refine gate_callee (f := 103) rfl ?_); refine goesL_ (some 17) rfl rfl Tryd.func103 (by kernel_rfl) rfl #[.slice A0 l0.length c0, .int .i64 a1] rfl (by (try simp only [List.map_toArray, List.map_cons, List.map_nil]); first | done | rfl | (simp only [List.length_drop, List.length_take]; rfl)) ?_; (with_reducible refine (impl_written.calls kj2 _ _ l0 a1 t249 _ ?side1 ?side2 A10.out).mono ?_); (case side1 => repeat (first | exact (Kd.C_below HR0.out HB.out) | (with_reducible refine Kd.C_alloc ?_ _) | (with_reducible refine Kd.C_drewN ?_ _) | (with_reducible refine Kd.C_drew ?_))); (case side2 => exact HC0.out); rintro e w12 ⟨v250, rfl, ho0, hb⟩; refine ⟨_, rfl, ?_⟩; have n0_ := Aside0.mk (Kd.R_lower ho0 (below_size (by repeat (first | (with_reducible first | exact HB.out | apply below_alloc | apply pw_below_drewN | apply below_drew1) | exact HB.out)))); have n1_ := Aside0.mk (below_step (by repeat (first | (with_reducible first | exact HB.out | apply below_alloc | apply pw_below_drewN | apply below_drew1) | exact HB.out)) hb); clear HB; have HO251 := n0_; have HB := n1_; clear n0_ n1_; (try clear hb); (try clear hb2); (try clear hk); (try clear hi); (try clear ho0); obtain ⟨Ao13, co13, eo13⟩ := Kd.R_slice HO251.out; subst eo13))
          go_ret2
          exact ⟨_, by first | rfl | (simp [errW_none, errW_some] <;> rfl) | (simp [*, errW_none, errW_some] <;> rfl), by first | exact Kd.R_nil _ _ _ _ _ | exact Kd.N_nil _ _ _ _ _ | exact Kd.V_nil _ _ _ _ _ | exact Kd.Q_nil _ _ _ _ _ | exact Kd.S_nil _ _ _ _ _, by repeat (first | (with_reducible first | exact HB.out | apply below_alloc | apply pw_below_drewN | apply below_drew1) | exact HB.out)⟩
        · rw [if_neg c11] at H
          have c11b0 : decide (200 < (t249.length : Int)) = false := decide_eq_false c11
          have c11b1 : decide (200 < t249.length) = false := decide_eq_false (by omega)
          clear c11
          simp only [Option.some.injEq, Prod.mk.injEq] at H
          obtain ⟨rfl, rfl⟩ := H
          go_wp2_with (first | ((with_reducible refine gate_callee (f := 103) rfl ?_); refine goesL_ (some 17) rfl rfl Tryd.func103 (by kernel_rfl) rfl #[.slice A0 l0.length c0, .int .i64 a1] rfl (by (try simp only [List.map_toArray, List.map_cons, List.map_nil]); first | done | rfl | (simp only [List.length_drop, List.length_take]; rfl)) ?_; (with_reducible refine (impl_written.calls kj2 _ _ l0 a1 t249 _ ?side1 ?side2 A10.out).mono ?_); (case side1 => repeat (first | exact (Kd.C_below HR0.out HB.out) | (with_reducible refine Kd.C_alloc ?_ _) | (with_reducible refine Kd.C_drewN ?_ _) | (with_reducible refine Kd.C_drew ?_))); (case side2 => exact HC0.out); rintro e w14 ⟨v250, rfl, ho0, hb⟩; refine ⟨_, rfl, ?_⟩; have n0_ := Aside0.mk (Kd.R_lower ho0 (below_size (by repeat (first | (with_reducible first | exact HB.out | apply below_alloc | apply pw_below_drewN | apply below_drew1) | exact HB.out)))); have n1_ := Aside0.mk (below_step (by repeat (first | (with_reducible first | exact HB.out | apply below_alloc | apply pw_below_drewN | apply below_drew1) | exact HB.out)) hb); clear HB; have HO251 := n0_; have HB := n1_; clear n0_ n1_; (try clear hb); (try clear hb2); (try clear hk); (try clear hi); (try clear ho0); obtain ⟨Ao15, co15, eo15⟩ := Kd.R_slice HO251.out; subst eo15))
          go_ret2
          exact ⟨_, by first | rfl | (simp [errW_none, errW_some] <;> rfl) | (simp [*, errW_none, errW_some] <;> rfl), by (with_reducible repeat (first | apply Kd.R_alloc | apply Kd.R_drewN | apply Kd.R_drew)); exact HO251.out, by repeat (first | (with_reducible first | exact HB.out | apply below_alloc | apply pw_below_drewN | apply below_drew1) | exact HB.out)⟩

/-! ### stringslite_HasPrefix: function 101 -/
def stringslite_HasPrefix.f (a0 : ByteArray) (a1 : ByteArray) : Option (Bool) := if (a0.size : Int) ≥ (a1.size : Int) then (if 0 ≤ (a1.size : Int) then (if (a1.size : Int) ≤ (a0.size : Int) then (some ((a0.extract 0 a1.size).toList == a1.toList)) else (none)) else (none)) else (some false)
set_option maxHeartbeats 8000000 in
set_option maxRecDepth 100000 in
theorem stringslite_HasPrefix.calls (a0 : ByteArray) (a1 : ByteArray) (r : Bool) (w : World) (h : stringslite_HasPrefix.f a0 a1 = some r) :
    Calls Tryd.prog 101 #[.string a0, .string a1] w fun e w' => e = .returned (.bool r) ∧ Drawn0 w w' := by
  have H : (if (a0.size : Int) ≥ (a1.size : Int) then (if 0 ≤ (a1.size : Int) then (if (a1.size : Int) ≤ (a0.size : Int) then (some ((a0.extract 0 a1.size).toList == a1.toList)) else (none)) else (none)) else (some false)) = some r := h
  clear h
  by_cases c3 : (a0.size : Int) ≥ (a1.size : Int)
  · rw [if_pos c3] at H
    have c3b0 : decide ((a1.size : Int) ≤ (a0.size : Int)) = true := decide_eq_true c3
    have c3b1 : decide (a1.size ≤ a0.size) = true := decide_eq_true (Int.ofNat_le.mp c3)
    clear c3
    by_cases c4 : 0 ≤ (a1.size : Int)
    · rw [if_pos c4] at H
      have c4b0 := eq_true c4
      have c4b1 : decide (0 ≤ (a1.size : Int)) = true := decide_eq_true c4
      clear c4
      by_cases c5 : (a1.size : Int) ≤ (a0.size : Int)
      · rw [if_pos c5] at H
        have c5b0 := eq_true c5
        have c5b1 : decide ((a1.size : Int) ≤ (a0.size : Int)) = true := decide_eq_true c5
        clear c5
        obtain rfl := Option.some.inj H
        go_enter Tryd.func101, Tryd.ntmps101
        go_wp2
        go_ret
        exact ⟨by first | rfl | (simp; done) | (simp [*]; done) | (simp only [IntWalk.i64_left]; done) | (simp [IntWalk.i64_left]; done) | (simp [*, IntWalk.i64_left]; done), by repeat (first | exact Drawn0.refl _ | apply Drawn0.step)⟩
      · rw [if_neg c5] at H
        exact absurd H (by simp)
    · rw [if_neg c4] at H
      exact absurd H (by simp)
  · rw [if_neg c3] at H
    have c3b0 : decide ((a1.size : Int) ≤ (a0.size : Int)) = false := decide_eq_false c3
    have c3b1 : decide (a1.size ≤ a0.size) = false := decide_eq_false (fun h => c3 (Int.ofNat_le.mpr h))
    clear c3
    obtain rfl := Option.some.inj H
    go_enter Tryd.func101, Tryd.ntmps101
    go_wp2
    go_ret
    exact ⟨by first | rfl | (simp; done) | (simp [*]; done) | (simp only [IntWalk.i64_left]; done) | (simp [IntWalk.i64_left]; done) | (simp [*, IntWalk.i64_left]; done), by repeat (first | exact Drawn0.refl _ | apply Drawn0.step)⟩

/-! ### strings_HasPrefix: function 56 -/
def strings_HasPrefix.f (a0 : ByteArray) (a1 : ByteArray) : Option (Bool) := (stringslite_HasPrefix.f a0 a1).bind fun t252 => (some t252)
set_option maxHeartbeats 8000000 in
set_option maxRecDepth 100000 in
theorem strings_HasPrefix.calls (a0 : ByteArray) (a1 : ByteArray) (r : Bool) (w : World) (h : strings_HasPrefix.f a0 a1 = some r) :
    Calls Tryd.prog 56 #[.string a0, .string a1] w fun e w' => e = .returned (.bool r) ∧ Drawn0 w w' := by
  have H : ((stringslite_HasPrefix.f a0 a1).bind fun t252 => (some t252)) = some r := h
  clear h
  replace H := Option.bind_eq_some_iff.mp H
  obtain ⟨t252, A30, H⟩ := H
  replace H : (some t252) = some r := H
  have A3 := Aside0.mk A30
  clear A30
  obtain rfl := Option.some.inj H
  go_enter Tryd.func56, Tryd.ntmps56
  go_wp2_with (first | ((with_reducible refine gate_callee (f := 101) rfl ?_); refine goesL_ (some 7) rfl rfl Tryd.func101 (by kernel_rfl) rfl #[.string a0, .string a1] rfl (by (try simp only [List.map_toArray, List.map_cons, List.map_nil]); first | done | rfl | (simp only [List.length_drop, List.length_take]; rfl)) ?_; (with_reducible refine (stringslite_HasPrefix.calls a0 a1 t252 _ A3.out).mono ?_); rintro e w' ⟨rfl, ⟨nd, rfl⟩⟩; refine ⟨_, rfl, ?_⟩))
  go_ret
  exact ⟨by first | rfl | (simp; done) | (simp [*]; done) | (simp only [IntWalk.i64_left]; done) | (simp [IntWalk.i64_left]; done) | (simp [*, IntWalk.i64_left]; done), by repeat (first | exact Drawn0.refl _ | apply Drawn0.step)⟩

end Go.Proofs.YtaglbacldonflaaDoor.XFnExactMeetGenerators
