-- by wip/shake.py
import Derived.Test.YtmanjfdchhipmaaGreatDoorXFnBestWithinx0
import Derived.Test.YtmanjfdchhipmaaGreatDoorXFnBestWithinx2
import Derived.Test.YtmanjfdchhipmaaGreatDoorXFnBestWithinx3
import Derived.Test.YtmanjfdchhipmaaGreatDoorXFnBestWithinx4
import Derived.Test.YtmanjfdchhipmaaGreatDoorXFnBestWithinx8
namespace Go.Proofs.YtmanjfdchhipmaaGreatDoor.XFnBestWithin
set_option maxHeartbeats 8000000
set_option maxRecDepth 100000
open Go.RowKit Go.Proofs.YtmanjfdchhipmaaGreatDoor.Hand Go.Proofs.YtmanjfdchhipmaaGreatDoorW.PrintWords Go.Proofs.YtmanjfdchhipmaaGreatDoorW.PrintLast Go.Proofs.YtmanjfdchhipmaaGreatDoorW.PrintMore
attribute [local go_sem] max2_int min2_int max_two min_two max_three min_three max_four min_four   -- for this text's walks alone
set_option linter.unusedVariables false
set_option linter.unusedSimpArgs false
def impl_wordAt.l0 : Nat → Int → Int → List Int → Int → Option (ByteArray)
 | 0, _, _, _, _ => none
 | k + 1, x0, x2, x7, x8 => if x8 ≥ 0 then (if x2 = 0 then (none) else (if 0 ≤ (Int.tmod x0 x2) then (if (Int.tmod x0 x2) < 3 then (if 0 ≤ x8 then (if x8 < (x7.length : Int) then (impl_wordAt.l0 k (wrap64 (Int.tdiv x0 x2)) x2 (x7.set (x8 : Int).toNat (bt (⟨#[97, 98, 99]⟩ : ByteArray) (Int.tmod x0 x2))) (wrap64 (x8 - 1))) else (none)) else (none)) else (none)) else (none))) else (some (strOfNums x7))
def impl_wordAt.f (k : Nat) (a0 : Int) (a1 : Int) (a2 : Int) : Option (ByteArray) := if 0 ≤ a1 then (if (a1 : Int).toNat ≤ 281474976710656 then (impl_wordAt.l0 k a0 a2 (List.replicate (a1 : Int).toNat 0) (wrap64 (a1 - 1))) else (none)) else (none)
theorem impl_wordAt.mono_l : ∀ k, (∀ y0 y1 y2 y3, LeO (impl_wordAt.l0 k y0 y1 y2 y3) (impl_wordAt.l0 (k + 1) y0 y1 y2 y3))
 | 0 => fun _ _ _ _ r h => by simp [impl_wordAt.l0] at h
 | k + 1 => by
  have ih0 := impl_wordAt.mono_l k
  ·intro y0 y1 y2 y3
   unfold impl_wordAt.l0
   repeat' first
   | (with_reducible first | exact ih0 _ _ _ _ | exact LeO.refl _ | exact LeO.none _ | refine LeO.ite ?_ ?_ | refine LeO.bind ?_ (fun _ => ?_))
   | exact ih0 _ _ _ _
   | exact LeO.none _
   | refine LeO.ite ?_ ?_
   | refine LeO.bind ?_ (fun _ => ?_)
theorem impl_wordAt.mono : ∀ a0 a1 a2 k, LeO (impl_wordAt.f k a0 a1 a2) (impl_wordAt.f (k + 1) a0 a1 a2) := by
 intro a0 a1 a2 k
 have ih0 := impl_wordAt.mono_l k
 unfold impl_wordAt.f
 repeat' first
   | (with_reducible first | exact ih0 _ _ _ _ | exact LeO.refl _ | exact LeO.none _ | refine LeO.ite ?_ ?_ | refine LeO.bind ?_ (fun _ => ?_))
   | exact ih0 _ _ _ _
   | exact LeO.none _
   | refine LeO.ite ?_ ?_
   | refine LeO.bind ?_ (fun _ => ?_)
theorem impl_wordAt.calls (k : Nat) (a0 : Int) (a1 : Int) (a2 : Int) (r : ByteArray) (w : World) (h : impl_wordAt.f k a0 a1 a2 = some r) :
  Calls Tryz.prog 101 #[.int .i64 a0, .int .i64 a1, .int .i64 a2] w fun e w' => e = .returned (.string r) ∧ Below w.heap.size w w' := by
 have HB := Aside0.mk (Below.refl w.heap.size w)
 have H : (if 0 ≤ a1 then (if (a1 : Int).toNat ≤ 281474976710656 then (impl_wordAt.l0 k a0 a2 (List.replicate (a1 : Int).toNat 0) (wrap64 (a1 - 1))) else (none)) else (none)) = some r := h
 clear h
 by_cases c4 : 0 ≤ a1
 ·rw [if_pos c4] at H
  have c4b0 := eq_true c4
  have c4b1 : decide (0 ≤ a1) = true := decide_eq_true c4
  clear c4
  by_cases c5 : (a1 : Int).toNat ≤ 281474976710656
  ·rw [if_pos c5] at H
   have c5b0 := eq_true c5
   have c5b1 : decide ((a1 : Int).toNat ≤ 281474976710656) = true := decide_eq_true c5
   clear c5
   obtain ⟨y364, hy364⟩ : ∃ y_ : List Int, y_ = (List.replicate (a1 : Int).toNat 0) := ⟨_, rfl⟩
   replace H : (impl_wordAt.l0 k a0 a2 y364 (wrap64 (a1 - 1))) = some r := by first | (rw [hy364]; with_reducible exact H) | (have H2_ := (Option.bind_some _ _).symm.trans H; rw [hy364]; with_reducible exact H2_) | (have H2_ := (Option.bind_some _ _).symm.trans H; with_reducible exact H2_) | with_reducible exact H | (rw [hy364]; exact H) | exact H
   have Ny364 := Aside0.mk hy364
   clear hy364
   have H' := Aside0.mk H
   clear H
   go_enter Tryz.func101, Tryz.ntmps101
   go_wp2_with (first | ((with_reducible refine gate_dst (N := 10) rfl ?_); refine Kd.R_make (Kd.int .u8) _ 5 rfl (N := 10) rfl 22 _ _ rfl a1 rfl rfl Tryz.underlying22 (.int .u8 0) 1 info5 rfl (by decide) (by omega) 0 (ok := fun _ => True) (okp := fun _ => True) rfl (fun _ hk => hk) trivial (zD) (Nat.le_trans (Nat.mul_le_mul_right _ (zD : a1.toNat ≤ 281474976710656)) (by omega)) (Below.refl _ _) (Nat.le_refl _) ?_; intro v365 w6 ho7 hb hg_ hnew_; clear hg_ hnew_; (first | rw [← Ny364.out] at ho7 | (simp only [Int.reduceToNat] at ho7; rw [← Ny364.out] at ho7)); have n0_ := Aside0.mk (Kd.R_lower ho7 (below_size (zB HB.out))); have n1_ := Aside0.mk (below_step (zB HB.out) hb); clear HB; have HO366 := n0_; have HB := n1_; clear n0_ n1_; clear hb ho7))
   go_loopg [0, 8] k (fun kq v0 v8 w' => ∃ (x0_1 : Int) (x7_1 : List Int) (x8_1 : Int), v0 = .int .i64 x0_1 ∧ v8 = .int .i64 x8_1 ∧ Aside0 (impl_wordAt.l0 kq x0_1 a2 x7_1 x8_1 = some r) ∧ Aside0 (kq ≤ k) ∧ Aside0 (Kd.R (Kd.int .u8) 5 w' w.heap.size (fun _ => True) v365 x7_1) ∧ Aside0 (Below w.heap.size w w'))
   case atStart => exact ⟨(a0), (y364), (wrap64 (a1 - 1)), zE1, zE1, H', ⟨Nat.le_refl _⟩, ⟨zR HO366.out⟩, ⟨zB HB.out⟩⟩
   case round =>
    clear H'
    try clear c1
    try clear p2
    try clear c4
    try clear c4b0
    try clear c4b1
    try clear c5
    try clear c5b0
    try clear c5b1
    try clear p6
    obtain ⟨x0_1, x7_1, x8_1, rfl, rfl, HA, HK1, HO_7, HB⟩ := hrel
    cases gk with
    | zero => exact absurd HA.out (by simp [impl_wordAt.l0])
    | succ k1 =>
     have H := HA.out
     clear HA
     simp only [impl_wordAt.l0] at H
     by_cases c8 : x8_1 ≥ 0
     ·rw [if_pos c8] at H
      have c8b0 : decide (0 ≤ x8_1) = true := decide_eq_true c8
      clear c8
      by_cases c9 : a2 = 0
      ·rw [if_pos c9] at H
       exact absurd H (by simp)
      ·rw [if_neg c9] at H
       have c9b0 : (a2 == 0) = false := beq_eq_false_iff_ne.mpr c9
       have c9b1 : (a2 != 0) = true := bne_iff_ne.mpr c9
       obtain ⟨ji10, hji10⟩ : ∃ j_ : Int, (Int.tmod x0_1 a2) = j_ := ⟨_, rfl⟩
       replace H : (if 0 ≤ (ji10) then (if (ji10) < 3 then (if 0 ≤ x8_1 then (if x8_1 < (x7_1.length : Int) then (impl_wordAt.l0 k1 (wrap64 (Int.tdiv x0_1 a2)) a2 (x7_1.set (x8_1 : Int).toNat (bt (⟨#[97, 98, 99]⟩ : ByteArray) (ji10))) (wrap64 (x8_1 - 1))) else (none)) else (none)) else (none)) else (none)) = some r := by first | (rw [hji10] at H; exact H) | (simp only [hji10] at H ⊢; exact H)
       by_cases c11 : 0 ≤ (ji10)
       ·rw [if_pos c11] at H
        have c11b0 : decide (0 ≤ (ji10)) = true := decide_eq_true c11
        clear c11
        by_cases c12 : (ji10) < 3
        ·rw [if_pos c12] at H
         have c12b0 : decide ((ji10) < 3) = true := decide_eq_true c12
         clear c12
         by_cases c14 : 0 ≤ x8_1
         ·rw [if_pos c14] at H
          have c14b0 : decide (0 ≤ x8_1) = true := decide_eq_true c14
          clear c14
          by_cases c15 : x8_1 < (x7_1.length : Int)
          ·rw [if_pos c15] at H
           have c15b0 : decide (x8_1 < (x7_1.length : Int)) = true := decide_eq_true c15
           clear c15
           obtain ⟨y367, hy367⟩ : ∃ y_ : List Int, y_ = (x7_1.set (x8_1 : Int).toNat (bt (⟨#[97, 98, 99]⟩ : ByteArray) (ji10))) := ⟨_, rfl⟩
           replace H : (impl_wordAt.l0 k1 (wrap64 (Int.tdiv x0_1 a2)) a2 y367 (wrap64 (x8_1 - 1))) = some r := by first | (rw [hy367]; with_reducible exact H) | (have H2_ := (Option.bind_some _ _).symm.trans H; rw [hy367]; with_reducible exact H2_) | (have H2_ := (Option.bind_some _ _).symm.trans H; with_reducible exact H2_) | with_reducible exact H | (rw [hy367]; exact H) | exact H
           have Ny367 := Aside0.mk hy367
           clear hy367
           have H' := Aside0.mk H
           clear H
           have p13 : 0 ≤ ((ji10) : Int) := zD
           have q13 : (ji10) < (3 : Int) := zD
           have hx13 := bt_at (⟨#[97, 98, 99]⟩ : ByteArray) (ji10)
           replace p13 := eq_true p13
           replace q13 := eq_true q13
           have p16 : 0 ≤ (x8_1 : Int) := zD
           have q16 : (x8_1 : Int) < ((x7_1.length : Int) : Int) := zD
           obtain ⟨go16, co16, eo16, gb16, gl16, cl16, HG16⟩ := Kd.R_form HO_7.out (by omega)
           (first | cases eo16 | (injection eo16 with ea_ en_ ec_; (first | subst ea_ | (injection ea_ with ea_; subst ea_)); subst ec_; clear en_))
           have GB16 := Aside0.mk gb16
           have GG16 := Aside0.mk HG16
           clear gb16 gl16 HG16
           obtain ⟨hx16_0, hf16_0⟩ := Kd.R_celln 0 HO_7.out (x8_1 : Int) p16 q16
           replace p16 := eq_true p16
           replace q16 := eq_true q16
           have HP17 := Kd.R_putg HO_7.out (x8_1 : Int) (bt (⟨#[97, 98, 99]⟩ : ByteArray) (ji10))
           go_wp2_with (first | ((with_reducible refine gate_store (t := 5) (p := 23) rfl ?_); refine store_event (t := 5) (p := 23) (v := ?vo_w18) (w1 := (wr.setCell ⟨go16, (x8_1 : Int).toNat, none⟩ (.int .u8 (bt (⟨#[97, 98, 99]⟩ : ByteArray) (ji10))))) ?hg ?ho ?hn ?hr ?_; (case ho => rfl); (case hg => rfl); (case hn => rfl); (case hr => first | (go_simp; done) | (go_simp; rfl)); intro w18 hw; have hg : wr.grownBy w18 (some go16) := (by rw [hw]; exact HP17.2); have hp_ : Kd.R (Kd.int .u8) 5 w18 w.heap.size (fun _ => True) (.slice (some ⟨go16, 0, none⟩) x7_1.length co16) y367 := (by rw [hw, Ny367.out]; exact HP17.1); clear HP17; have n0_ := Aside0.mk (hp_); have n1_ := Aside0.mk ((by rw [hw]; exact below_set (HB.out) GB16.out : Below w.heap.size w w18)); clear HO_7; clear HB; have HO_7 := n0_; have HB := n1_; clear n0_ n1_; clear hg hw hp_))
           first | go_roundg k1 | (simp only [← hji10]; go_roundg k1)
           case measure => have := HK1.out; omega
           case rel => exact ⟨(wrap64 (Int.tdiv x0_1 a2)), (y367), (wrap64 (x8_1 - 1)), zE1, zE1, H', ⟨by have := HK1.out; omega⟩, ⟨zR HO_7.out⟩, ⟨zB HB.out⟩⟩
          ·rw [if_neg c15] at H
           exact absurd H (by simp)
         ·rw [if_neg c14] at H
          exact absurd H (by simp)
        ·rw [if_neg c12] at H
         exact absurd H (by simp)
       ·rw [if_neg c11] at H
        exact absurd H (by simp)
     ·rw [if_neg c8] at H
      have c8b0 : decide (0 ≤ x8_1) = false := decide_eq_false c8
      clear c8
      obtain rfl := Option.some.inj H
      have hcv19 := own_string (P := Tryz.prog) Tryz.underlying22 Tryz.underlying5 Tryz.underlying9 (Kd.own_of_R HO_7.out)
      go_wp2
      go_ret
      exact ⟨zF, zB HB.out⟩
  ·rw [if_neg c5] at H
   exact absurd H (by simp)
 ·rw [if_neg c4] at H
  exact absurd H (by simp)
mutual
def impl_FirstPrefixCode.j0 : Nat → List Int → Int → Bool → Option (List ByteArray × Bool)
 | 0, _, _, _ => none
 | k + 1, x0, x1, x23 => if x23 = true then (some (([] : List ByteArray), false)) else (impl_FirstPrefixCode.l0 k x1 (([] : List ByteArray)) 0 x0 (x0.length : Int) 0)
def impl_FirstPrefixCode.l0 : Nat → Int → List ByteArray → Int → List Int → Int → Int → Option (List ByteArray × Bool)
 | 0, _, _, _, _, _, _ => none
 | k + 1, x1, x6, x7, x25, x26, x27 => if x27 < x26 then (if 0 ≤ x27 then (if x27 < (x25.length : Int) then ((impl_power.f k x1 (wrap64 (8 - (rd x25 x27)))).bind fun t375 => (if t375 = 0 then (none) else ((impl_wordAt.f k (wrap64 (Int.tdiv x7 t375)) (rd x25 x27) x1).bind fun t376 => (if x6.length < 8796093022208 then ((impl_power.f k x1 (wrap64 (8 - (rd x25 x27)))).bind fun t380 => (impl_FirstPrefixCode.l0 k x1 (x6 ++ [t376]) (wrap64 (x7 + t380)) x25 x26 (wrap64 (x27 + 1)))) else (none))))) else (none)) else (none)) else (some (x6, true))
end
def impl_FirstPrefixCode.f (k : Nat) (l0 : List Int) (a1 : Int) : Option (List ByteArray × Bool) := (impl_areLetters.f a1).bind fun t368 => (if t368 = true then ((impl_areLengths.f k l0).bind fun t369 => (if t369 = true then ((impl_canBePrefix.f k l0 a1).bind fun t370 => (impl_FirstPrefixCode.j0 k l0 a1 (!t370))) else (impl_FirstPrefixCode.j0 k l0 a1 true))) else (impl_FirstPrefixCode.j0 k l0 a1 true))
theorem impl_FirstPrefixCode.mono_l : ∀ k, (∀ y0 y1 y2, LeO (impl_FirstPrefixCode.j0 k y0 y1 y2) (impl_FirstPrefixCode.j0 (k + 1) y0 y1 y2)) ∧ (∀ y0 y1 y2 y3 y4 y5, LeO (impl_FirstPrefixCode.l0 k y0 y1 y2 y3 y4 y5) (impl_FirstPrefixCode.l0 (k + 1) y0 y1 y2 y3 y4 y5))
 | 0 => ⟨fun _ _ _ r h => by simp [impl_FirstPrefixCode.j0] at h, fun _ _ _ _ _ _ r h => by simp [impl_FirstPrefixCode.l0] at h⟩
 | k + 1 => by
  obtain ⟨ih0, ih1⟩ := impl_FirstPrefixCode.mono_l k
  refine ⟨?_, ?_⟩
  ·intro y0 y1 y2
   unfold impl_FirstPrefixCode.j0
   repeat' first
   | (with_reducible first | exact ih0 _ _ _ | exact ih1 _ _ _ _ _ _ | exact impl_areLengths.mono _ _ | exact impl_canBePrefix.mono _ _ _ | exact impl_power.mono _ _ _ | exact impl_wordAt.mono _ _ _ _ | exact LeO.refl _ | exact LeO.none _ | refine LeO.ite ?_ ?_ | refine LeO.bind ?_ (fun _ => ?_))
   | exact ih0 _ _ _
   | exact ih1 _ _ _ _ _ _
   | exact impl_areLengths.mono _ _
   | exact impl_canBePrefix.mono _ _ _
   | exact impl_power.mono _ _ _
   | exact impl_wordAt.mono _ _ _ _
   | exact LeO.none _
   | refine LeO.ite ?_ ?_
   | refine LeO.bind ?_ (fun _ => ?_)
  ·intro y0 y1 y2 y3 y4 y5
   unfold impl_FirstPrefixCode.l0
   repeat' first
   | (with_reducible first | exact ih0 _ _ _ | exact ih1 _ _ _ _ _ _ | exact impl_areLengths.mono _ _ | exact impl_canBePrefix.mono _ _ _ | exact impl_power.mono _ _ _ | exact impl_wordAt.mono _ _ _ _ | exact LeO.refl _ | exact LeO.none _ | refine LeO.ite ?_ ?_ | refine LeO.bind ?_ (fun _ => ?_))
   | exact ih0 _ _ _
   | exact ih1 _ _ _ _ _ _
   | exact impl_areLengths.mono _ _
   | exact impl_canBePrefix.mono _ _ _
   | exact impl_power.mono _ _ _
   | exact impl_wordAt.mono _ _ _ _
   | exact LeO.none _
   | refine LeO.ite ?_ ?_
   | refine LeO.bind ?_ (fun _ => ?_)
theorem impl_FirstPrefixCode.mono : ∀ a0 a1 k, LeO (impl_FirstPrefixCode.f k a0 a1) (impl_FirstPrefixCode.f (k + 1) a0 a1) := by
 intro a0 a1 k
 obtain ⟨ih0, ih1⟩ := impl_FirstPrefixCode.mono_l k
 unfold impl_FirstPrefixCode.f
 repeat' first
   | (with_reducible first | exact ih0 _ _ _ | exact ih1 _ _ _ _ _ _ | exact impl_areLengths.mono _ _ | exact impl_canBePrefix.mono _ _ _ | exact impl_power.mono _ _ _ | exact impl_wordAt.mono _ _ _ _ | exact LeO.refl _ | exact LeO.none _ | refine LeO.ite ?_ ?_ | refine LeO.bind ?_ (fun _ => ?_))
   | exact ih0 _ _ _
   | exact ih1 _ _ _ _ _ _
   | exact impl_areLengths.mono _ _
   | exact impl_canBePrefix.mono _ _ _
   | exact impl_power.mono _ _ _
   | exact impl_wordAt.mono _ _ _ _
   | exact LeO.none _
   | refine LeO.ite ?_ ?_
   | refine LeO.bind ?_ (fun _ => ?_)
theorem impl_FirstPrefixCode.calls (k : Nat) (A0 : Option Addr) (c0 : Nat) (l0 : List Int) (a1 : Int) (r1 : List ByteArray) (r2 : Bool) (w : World) (hr0 : Kd.C (Kd.int .i64) w A0 l0.length l0) (hc0 : l0.length ≤ c0) (h : impl_FirstPrefixCode.f k l0 a1 = some (r1, r2)) :
  Calls Tryz.prog 57 #[.slice A0 l0.length c0, .int .i64 a1] w fun e w' => ∃ v0_ : Value, e = .returned (.tuple #[v0_, .bool r2]) ∧ Kd.R Kd.string 9 w' w.heap.size (fun _ => True) v0_ r1 ∧ Below w.heap.size w w' := by
 have HR0 := Aside0.mk hr0
 have HC0 := Aside0.mk hc0
 clear hr0 hc0
 have HB := Aside0.mk (Below.refl w.heap.size w)
 have H : ((impl_areLetters.f a1).bind fun t368 => (if t368 = true then ((impl_areLengths.f k l0).bind fun t369 => (if t369 = true then ((impl_canBePrefix.f k l0 a1).bind fun t370 => (impl_FirstPrefixCode.j0 k l0 a1 (!t370))) else (impl_FirstPrefixCode.j0 k l0 a1 true))) else (impl_FirstPrefixCode.j0 k l0 a1 true))) = some (r1, r2) := h
 clear h
 have HC3 := Aside0.mk H
 clear H
 go_enter Tryz.func57, Tryz.ntmps57
 go_upto_region 1 with (fail)
 go_cut [23] (fun v23 wc => ∃ (kq : Nat) (x23_2 : Bool), v23 = .bool x23_2 ∧ Aside0 (impl_FirstPrefixCode.j0 kq l0 a1 x23_2 = some (r1, r2)) ∧ Aside0 (kq ≤ k) ∧ Aside0 (Below w.heap.size w wc))
 case first =>
  have H := HC3.out
  clear HC3
  replace H := Option.bind_eq_some_iff.mp H
  obtain ⟨t368, A40, H⟩ := H
  (try dsimp only at H)
  have A4 := Aside0.mk A40
  clear A40
  by_cases c5 : t368 = true
  ·subst c5
   rw [if_pos rfl] at H
   replace H := Option.bind_eq_some_iff.mp H
   obtain ⟨t369, A60, H⟩ := H
   (try dsimp only at H)
   have A6 := Aside0.mk A60
   clear A60
   by_cases c7 : t369 = true
   ·subst c7
    rw [if_pos rfl] at H
    replace H := Option.bind_eq_some_iff.mp H
    obtain ⟨t370, A80, H⟩ := H
    (try dsimp only at H)
    have A8 := Aside0.mk A80
    clear A80
    have H' := Aside0.mk H
    clear H
    go_wp2_with (first | ((with_reducible refine gate_callee (f := 40) rfl ?_); refine goesL_ (some 11) rfl rfl Tryz.func40 (by kernel_rfl) rfl #[.int .i64 a1] rfl (by (try simp only [List.map_toArray, List.map_cons, List.map_nil]); first | done | rfl | (simp only [List.length_drop, List.length_take]; rfl)) ?_; (with_reducible refine (impl_areLetters.calls a1 true _ A4.out).mono ?_); rintro e w' ⟨rfl, ⟨nd, rfl⟩⟩; refine ⟨_, rfl, ?_⟩) | (go_at_call 99; (with_reducible refine (impl_areLengths.calls k _ _ l0 true _ ?side1 ?side2 A6.out).mono ?_); (case side1 => repeat (first | exact (Kd.C_below HR0.out (zB HB.out)) | (with_reducible refine Kd.C_alloc ?_ _) | (with_reducible refine Kd.C_drewN ?_ _) | (with_reducible refine Kd.C_drew ?_))); (case side2 => exact HC0.out); rintro e w' ⟨rfl, ⟨nd, rfl⟩⟩) | (go_at_call 100; (with_reducible refine (impl_canBePrefix.calls k _ _ l0 a1 t370 _ ?side1 ?side2 A8.out).mono ?_); (case side1 => repeat (first | exact (Kd.C_below HR0.out (zB HB.out)) | (with_reducible refine Kd.C_alloc ?_ _) | (with_reducible refine Kd.C_drewN ?_ _) | (with_reducible refine Kd.C_drew ?_))); (case side2 => exact HC0.out); rintro e w' ⟨rfl, ⟨nd, rfl⟩⟩))
    go_meet
    case rel => exact ⟨_, (!t370), zE1, H', ⟨by first | omega | exact Nat.le_refl _⟩, ⟨zB HB.out⟩⟩
   ·replace c7 := Bool.eq_false_iff.mpr c7
    subst c7
    rw [if_neg zN] at H
    have H' := Aside0.mk H
    clear H
    go_wp2_with (first | ((with_reducible refine gate_callee (f := 40) rfl ?_); refine goesL_ (some 11) rfl rfl Tryz.func40 (by kernel_rfl) rfl #[.int .i64 a1] rfl (by (try simp only [List.map_toArray, List.map_cons, List.map_nil]); first | done | rfl | (simp only [List.length_drop, List.length_take]; rfl)) ?_; (with_reducible refine (impl_areLetters.calls a1 true _ A4.out).mono ?_); rintro e w' ⟨rfl, ⟨nd, rfl⟩⟩; refine ⟨_, rfl, ?_⟩) | (go_at_call 99; (with_reducible refine (impl_areLengths.calls k _ _ l0 false _ ?side1 ?side2 A6.out).mono ?_); (case side1 => repeat (first | exact (Kd.C_below HR0.out (zB HB.out)) | (with_reducible refine Kd.C_alloc ?_ _) | (with_reducible refine Kd.C_drewN ?_ _) | (with_reducible refine Kd.C_drew ?_))); (case side2 => exact HC0.out); rintro e w' ⟨rfl, ⟨nd, rfl⟩⟩))
    go_meet
    case rel => exact ⟨_, (true), zE1, H', ⟨by first | omega | exact Nat.le_refl _⟩, ⟨zB HB.out⟩⟩
  ·replace c5 := Bool.eq_false_iff.mpr c5
   subst c5
   rw [if_neg zN] at H
   have H' := Aside0.mk H
   clear H
   go_wp2_with (first | ((with_reducible refine gate_callee (f := 40) rfl ?_); refine goesL_ (some 11) rfl rfl Tryz.func40 (by kernel_rfl) rfl #[.int .i64 a1] rfl (by (try simp only [List.map_toArray, List.map_cons, List.map_nil]); first | done | rfl | (simp only [List.length_drop, List.length_take]; rfl)) ?_; (with_reducible refine (impl_areLetters.calls a1 false _ A4.out).mono ?_); rintro e w' ⟨rfl, ⟨nd, rfl⟩⟩; refine ⟨_, rfl, ?_⟩))
   go_meet
   case rel => exact ⟨_, (true), zE1, H', ⟨by first | omega | exact Nat.le_refl _⟩, ⟨zB HB.out⟩⟩
 case rest =>
  clear HC3
  try clear p2
  try clear c4
  try clear c5
  try clear c7
  obtain ⟨kq, x23_2, rfl, HA, HJ2, HB⟩ := hcut
  cases kq with
  | zero => exact absurd HA.out (by simp [impl_FirstPrefixCode.j0])
  | succ kj2 =>
   have H := HA.out
   clear HA
   simp only [impl_FirstPrefixCode.j0] at H
   by_cases c9 : x23_2 = true
   ·subst c9
    rw [if_pos rfl] at H
    simp only [Option.some.injEq, Prod.mk.injEq] at H
    obtain ⟨rfl, rfl⟩ := H
    go_wp2
    go_ret2
    exact ⟨_, zF, by first | exact Kd.R_nil _ _ _ _ _ | exact Kd.N_nil _ _ _ _ _ | exact Kd.V_nil _ _ _ _ _ | exact Kd.Q_nil _ _ _ _ _ | exact Kd.S_nil _ _ _ _ _, zB HB.out⟩
   ·replace c9 := Bool.eq_false_iff.mpr c9
    subst c9
    rw [if_neg zN] at H
    obtain ⟨y371, hy371⟩ : ∃ y_ : List ByteArray, y_ = (([] : List ByteArray)) := ⟨_, rfl⟩
    replace H : (impl_FirstPrefixCode.l0 kj2 a1 y371 0 l0 (l0.length : Int) 0) = some (r1, r2) := by first | (rw [hy371]; with_reducible exact H) | (have H2_ := (Option.bind_some _ _).symm.trans H; rw [hy371]; with_reducible exact H2_) | (have H2_ := (Option.bind_some _ _).symm.trans H; with_reducible exact H2_) | with_reducible exact H | (rw [hy371]; exact H) | exact H
    have Ny371 := Aside0.mk hy371
    clear hy371
    have H' := Aside0.mk H
    clear H
    go_wp2_with (first | ((with_reducible refine gate_dst (N := 24) rfl ?_); refine Kd.R_lit Kd.string _ 9 ?hg (N := 24) ?hd (xs := ([] : List ByteArray)) (inner := []) (ok := fun _ => True) (okp := fun _ => True) ?hr ?hp (fun _ hk => hk) trivial (Below.refl _ _) (Nat.le_refl _) (by simp) ?_; (case hd => rfl); (case hg => rfl); (case hr => first | (go_simp; done) | (go_simp; rfl)); (case hp => exact (Reps.none _ _)); intro v372 w10 ho11 hb hg_ hnew_; clear hg_ hnew_; (first | rw [← Ny371.out] at ho11 | (simp only [Int.reduceToNat] at ho11; rw [← Ny371.out] at ho11)); have n0_ := Aside0.mk (Kd.R_lower ho11 (below_size (zB HB.out))); have n1_ := Aside0.mk (below_step (zB HB.out) hb); clear HB; have HO373 := n0_; have HB := n1_; clear n0_ n1_; clear hb ho11))
    go_loopg [6, 7, 27] kj2 (fun kq v6 v7 v27 w' => ∃ (x6_2 : List ByteArray) (x7_2 : Int) (x27_2 : Int), v7 = .int .i64 x7_2 ∧ v27 = .int .i64 x27_2 ∧ Aside0 (impl_FirstPrefixCode.l0 kq a1 x6_2 x7_2 l0 (l0.length : Int) x27_2 = some (r1, r2)) ∧ Aside0 (kq ≤ kj2) ∧ Aside0 (Kd.R Kd.string 9 w' w.heap.size (fun _ => True) v6 x6_2) ∧ Aside0 (Below w.heap.size w w'))
    case atStart => exact ⟨(y371), (0), (0), zE1, zE1, H', ⟨Nat.le_refl _⟩, ⟨zR HO373.out⟩, ⟨zB HB.out⟩⟩
    case round =>
     clear H'
     try clear p2
     try clear c4
     try clear c5
     try clear c7
     try clear c9
     try clear p2
     obtain ⟨x6_2, x7_2, x27_2, rfl, rfl, HA, HK2, HO_6, HB⟩ := hrel
     cases gk with
     | zero => exact absurd HA.out (by simp [impl_FirstPrefixCode.l0])
     | succ k2 =>
      have H := HA.out
      clear HA
      simp only [impl_FirstPrefixCode.l0] at H
      by_cases c12 : x27_2 < (l0.length : Int)
      ·rw [if_pos c12] at H
       have c12b0 : decide (x27_2 < (l0.length : Int)) = true := decide_eq_true c12
       clear c12
       by_cases c13 : 0 ≤ x27_2
       ·rw [if_pos c13] at H
        have c13b0 : decide (0 ≤ x27_2) = true := decide_eq_true c13
        clear c13
        by_cases c14 : x27_2 < (l0.length : Int)
        ·rw [if_pos c14] at H
         have c14b0 : decide (x27_2 < (l0.length : Int)) = true := decide_eq_true c14
         clear c14
         replace H := Option.bind_eq_some_iff.mp H
         obtain ⟨t375, A150, H⟩ := H
         (try dsimp only at H)
         have A15 := Aside0.mk A150
         clear A150
         by_cases c16 : t375 = 0
         ·rw [if_pos c16] at H
          exact absurd H (by simp)
         ·rw [if_neg c16] at H
          have c16b0 : (t375 == 0) = false := beq_eq_false_iff_ne.mpr c16
          have c16b1 : (t375 != 0) = true := bne_iff_ne.mpr c16
          replace H := Option.bind_eq_some_iff.mp H
          obtain ⟨t376, A170, H⟩ := H
          (try dsimp only at H)
          have A17 := Aside0.mk A170
          clear A170
          by_cases c18 : x6_2.length < 8796093022208
          ·rw [if_pos c18] at H
           have LMc18 := Aside0.mk c18
           clear c18
           obtain ⟨y377, hy377⟩ : ∃ y_ : List ByteArray, y_ = (x6_2 ++ [t376]) := ⟨_, rfl⟩
           replace H : ((impl_power.f k2 a1 (wrap64 (8 - (rd l0 x27_2)))).bind fun t380 => (impl_FirstPrefixCode.l0 k2 a1 y377 (wrap64 (x7_2 + t380)) l0 (l0.length : Int) (wrap64 (x27_2 + 1)))) = some (r1, r2) := by first | (rw [hy377]; with_reducible exact H) | (have H2_ := (Option.bind_some _ _).symm.trans H; rw [hy377]; with_reducible exact H2_) | (have H2_ := (Option.bind_some _ _).symm.trans H; with_reducible exact H2_) | with_reducible exact H | (rw [hy377]; exact H) | exact H
           have Ny377 := Aside0.mk hy377
           clear hy377
           replace H := Option.bind_eq_some_iff.mp H
           obtain ⟨t380, A190, H⟩ := H
           (try dsimp only at H)
           have A19 := Aside0.mk A190
           clear A190
           have H' := Aside0.mk H
           clear H
           have p374 : 0 ≤ (x27_2 : Int) := zD
           have q374 : x27_2 < (l0.length : Int) := zD
           obtain ⟨ad374, e374, hx374_0⟩ := Kd.at_int HR0.out x27_2 p374 q374
           cases e374
           (try replace hx374_0 := (HB.out.cell (World.block_lt_of_cell? w _ hx374_0)).trans hx374_0)
           replace p374 := eq_true p374
           replace q374 := eq_true q374
           go_wp2_with (first | ((with_reducible refine gate_callee (f := 46) rfl ?_); refine goesL_ (some 36) rfl rfl Tryz.func46 (by kernel_rfl) rfl #[.int .i64 a1, .int .i64 (wrap64 (8 - (rd l0 x27_2)))] rfl (by (try simp only [List.map_toArray, List.map_cons, List.map_nil]); first | done | rfl | (simp only [List.length_drop, List.length_take]; rfl)) ?_; (with_reducible refine (impl_power.calls k2 a1 (wrap64 (8 - (rd l0 x27_2))) t375 _ A15.out).mono ?_); rintro e w' ⟨rfl, ⟨nd, rfl⟩⟩; refine ⟨_, rfl, ?_⟩) | ((with_reducible refine gate_callee (f := 101) rfl ?_); refine goesL_ (some 40) rfl rfl Tryz.func101 (by kernel_rfl) rfl #[.int .i64 (wrap64 (Int.tdiv x7_2 t375)), .int .i64 (rd l0 x27_2), .int .i64 a1] rfl (by (try simp only [List.map_toArray, List.map_cons, List.map_nil]); first | done | rfl | (simp only [List.length_drop, List.length_take]; rfl)) ?_; (with_reducible refine (impl_wordAt.calls k2 (wrap64 (Int.tdiv x7_2 t375)) (rd l0 x27_2) a1 t376 _ A17.out).mono ?_); rintro e w20 ⟨rfl, hb⟩; refine ⟨_, rfl, ?_⟩; have n0_ := Aside0.mk (Kd.R_below (zR HO_6.out) hb); have n1_ := Aside0.mk (below_step (zB HB.out) hb); clear HO_6; clear HB; have HO_6 := n0_; have HB := n1_; clear n0_ n1_; (try clear hb); (try clear hb2); (try clear hk); (try clear hi)) | ((with_reducible refine gate_builtin (b := .append) (xs := #[.tmp 31, .tmp 41]) rfl ?_); at_builtin; refine Kd.R_append Kd.string (w0 := w) w.heap.size rfl (.tmp 31) (.tmp 41) 35 9 (.string ⟨#[]⟩) 16 rfl Tryz.underlying35 info9 rfl (by decide) (by omega) u6 x6_2 t376 [.string t376] (fun _ => True) (fun _ => False) rfl rfl ?aP (fun _ hk => hk.elim) ?aF ?aO ?aB ?aS ?aL ?_; (case aP => exact rfl); (case aB => exact (zB HB.out)); (case aF => exact (fun _ _ => trivial)); (case aO => exact (zR HO_6.out)); (case aS => exact (below_size (zB HB.out))); (case aL => have := LMc18.out; omega); intro v378 w21 ho hb hg hat; rw [← Ny377.out] at ho; have n0_ := Aside0.mk (hb); have n1_ := Aside0.mk (ho); clear HB; clear HO_6; have HB := n0_; have HO379 := n1_; clear n0_ n1_; clear ho hb hg hat) | ((with_reducible refine gate_callee (f := 46) rfl ?_); refine goesL_ (some 47) rfl rfl Tryz.func46 (by kernel_rfl) rfl #[.int .i64 a1, .int .i64 (wrap64 (8 - (rd l0 x27_2)))] rfl (by (try simp only [List.map_toArray, List.map_cons, List.map_nil]); first | done | rfl | (simp only [List.length_drop, List.length_take]; rfl)) ?_; (with_reducible refine (impl_power.calls k2 a1 (wrap64 (8 - (rd l0 x27_2))) t380 _ A19.out).mono ?_); rintro e w' ⟨rfl, ⟨nd, rfl⟩⟩; refine ⟨_, rfl, ?_⟩))
           go_roundg k2
           case measure => have := HJ2.out; have := HK2.out; omega
           case rel => exact ⟨(y377), (wrap64 (x7_2 + t380)), (wrap64 (x27_2 + 1)), zE1, zE1, H', ⟨by have := HJ2.out; have := HK2.out; omega⟩, ⟨zR HO379.out⟩, ⟨zB HB.out⟩⟩
          ·rw [if_neg c18] at H
           exact absurd H (by simp)
        ·rw [if_neg c14] at H
         exact absurd H (by simp)
       ·rw [if_neg c13] at H
        exact absurd H (by simp)
      ·rw [if_neg c12] at H
       have c12b0 : decide (x27_2 < (l0.length : Int)) = false := decide_eq_false c12
       clear c12
       simp only [Option.some.injEq, Prod.mk.injEq] at H
       obtain ⟨rfl, rfl⟩ := H
       go_wp2
       go_ret2
       exact ⟨_, zF, zR HO_6.out, zB HB.out⟩
open Go.Proofs.YtmanjfdchhipmaaGreatDoor.Hand
def impl_WordsFor.fill (words : List ByteArray) : List Nat → Nat → List ByteArray → List ByteArray
 | [], _, out => out
 | i :: is, k, out => impl_WordsFor.fill words is (k + 1) (out.set i (words.getD k ByteArray.empty))
theorem wf_end {w W W' : World} {g : Nat} (hb : Below w.heap.size w W) (hg : W.grownBy W' (some g)) (hM : w.heap.size ≤ g) : Below w.heap.size w W' :=
 ⟨hg.os.trans hb.os, hg.tape.trans hb.tape, hg.output.trans hb.output, Nat.le_trans hb.size hg.size, fun k hk => (hg.block k (Nat.lt_of_lt_of_le hk hb.size) (fun e => by injection e with e; omega)).trans (hb.block k hk)⟩
def impl_WordsFor.places (l : List Int) (n : Nat) : List Nat := (stableP l (allP n)).toList.map fun i => i.val
def impl_WordsFor.f (k : Nat) (l0 : List Int) (a1 : Int) : Option (List ByteArray × Bool) := (impl_areDeep.f k l0).bind fun b1 => if b1 = true then ((slices_Max_int_int.f k l0).bind fun mx => if mx > 8 then some ([], false) else ((impl_areLetters.f a1).bind fun b2 => if b2 = true then (if 0 < l0.length ∧ l0.length ≤ 12 then ((impl_FirstPrefixCode.f k (sortI l0) a1).bind fun c => if c.2 = true then (if l0.length ≤ c.1.length then some (impl_WordsFor.fill c.1 (impl_WordsFor.places l0 (l0.length - 1)) 0 (List.replicate l0.length ByteArray.empty), true) else none) else some ([], false)) else none) else some ([], false))) else some ([], false)
theorem impl_WordsFor.mono : ∀ a0 a1 k, LeO (impl_WordsFor.f k a0 a1) (impl_WordsFor.f (k + 1) a0 a1) := fun _ _ k => by
 unfold impl_WordsFor.f
 exact LeO.bind (impl_areDeep.mono _ _) fun _ => LeO.ite (LeO.bind (slices_Max_int_int.mono _ _) fun _ => LeO.ite (LeO.refl _) (LeO.bind (LeO.refl _) fun _ => LeO.ite (LeO.ite (LeO.bind (impl_FirstPrefixCode.mono _ _ _) fun _ => LeO.refl _) (LeO.refl _)) (LeO.refl _))) (LeO.refl _)
set_option maxHeartbeats 1000000 in
set_option maxRecDepth 100000 in
theorem impl_WordsFor.calls (k : Nat) (A0 : Option Addr) (c0 : Nat) (l0 : List Int) (a1 : Int) (r1 : List ByteArray) (r2 : Bool) (w : World) (hr0 : Kd.C (Kd.int .i64) w A0 l0.length l0) (hc0 : l0.length ≤ c0) (h : impl_WordsFor.f k l0 a1 = some (r1, r2)) :
  Calls Tryz.prog 14 #[.slice A0 l0.length c0, .int .i64 a1] w fun e w' => ∃ v0_ : Value, e = .returned (.tuple #[v0_, .bool r2]) ∧ Kd.R Kd.string 9 w' w.heap.size (fun _ => True) v0_ r1 ∧ Below w.heap.size w w' := by
 have HR0 := Aside0.mk hr0
 have HC0 := Aside0.mk hc0
 have HB1 := Aside0.mk (show Below w.heap.size w (w.alloc (.cells #[.slice A0 l0.length c0] 24)) from below_alloc (Below.refl _ _) _)
 have hbox : ∀ W, Below (w.alloc (.cells #[.slice A0 l0.length c0] 24)).heap.size (w.alloc (.cells #[.slice A0 l0.length c0] 24)) W → W.cell? ⟨w.heap.size, 0, none⟩ = some (.slice A0 l0.length c0) := fun W hb => (hb.cell (p := ⟨w.heap.size, 0, none⟩) (by simp)).trans (by go_simp)
 unfold impl_WordsFor.f at h
 replace h := Option.bind_eq_some_iff.mp h
 obtain ⟨b1, A1, h⟩ := h
 replace A1 := Aside0.mk A1
 have hdeep := fun W hC => impl_areDeep.calls k A0 c0 l0 b1 W hC HC0.out A1.out
 clear hr0 hc0
 cases b1 with
 | false =>
  obtain ⟨rfl, rfl⟩ : [] = r1 ∧ false = r2 := by simpa using h
  clear h hbox
  go_enter Tryz.func14, Tryz.ntmps14
  go_wp2_with (go_at_call 55; (with_reducible refine (hdeep _ (Kd.C_below HR0.out HB1.out)).mono ?_); rintro e w7 ⟨rfl, ⟨nd, rfl⟩⟩)
  go_ret2
  exact ⟨_, rfl, Kd.R_nil Kd.string _ _ _ _, pw_below_drewN HB1.out _⟩
 | true =>
  rw [if_pos rfl] at h
  replace h := Option.bind_eq_some_iff.mp h
  obtain ⟨mx, A2, h⟩ := h
  replace A2 := Aside0.mk A2
  have hmax := fun W hC => slices_Max_int_int.calls k A0 c0 l0 mx W hC HC0.out A2.out
  by_cases d1 : mx > 8
  ·rw [if_pos d1] at h
   obtain ⟨rfl, rfl⟩ : [] = r1 ∧ false = r2 := by simpa using h
   have d1b : decide (8 < mx) = true := decide_eq_true d1
   have hbox1 := fun m => hbox _ (pw_below_drewN (Below.refl _ _) m)
   clear h d1 hbox
   go_enter Tryz.func14, Tryz.ntmps14
   go_wp2_with (first
    | (go_at_call 55; (with_reducible refine (hdeep _ (Kd.C_below HR0.out HB1.out)).mono ?_); rintro e w7 ⟨rfl, ⟨nd, rfl⟩⟩; have hb1 := hbox1 nd)
    | (go_at_call 56; (with_reducible refine (hmax _ (Kd.C_below HR0.out (pw_below_drewN HB1.out _))).mono ?_); rintro e w8 ⟨rfl, hb8⟩; have HB8 := Aside0.mk (below_step (pw_below_drewN HB1.out _) hb8); clear hb8))
   go_ret2
   exact ⟨_, rfl, Kd.R_nil Kd.string _ _ _ _, HB8.out⟩
  ·rw [if_neg d1] at h
   have d1b : decide (8 < mx) = false := decide_eq_false (by omega)
   replace h := Option.bind_eq_some_iff.mp h
   obtain ⟨b2, A3, h⟩ := h
   replace A3 := Aside0.mk A3
   have hlet := fun W => impl_areLetters.calls a1 b2 W A3.out
   have hbox1 := fun m => hbox _ (pw_below_drewN (Below.refl _ _) m)
   have HBOX := Aside0.mk hbox
   clear d1 hbox
   cases b2 with
   | false =>
    obtain ⟨rfl, rfl⟩ : [] = r1 ∧ false = r2 := by simpa using h
    clear h
    go_enter Tryz.func14, Tryz.ntmps14
    go_wp2_with (first
     | (go_at_call 55; (with_reducible refine (hdeep _ (Kd.C_below HR0.out HB1.out)).mono ?_); rintro e w7 ⟨rfl, ⟨nd, rfl⟩⟩; have hb1 := hbox1 nd)
     | (go_at_call 56; (with_reducible refine (hmax _ (Kd.C_below HR0.out (pw_below_drewN HB1.out _))).mono ?_); rintro e w8 ⟨rfl, hb8⟩; have HB8 := Aside0.mk (below_step (pw_below_drewN HB1.out _) hb8); clear hb8)
     | (go_at_call 40; (with_reducible refine (hlet _).mono ?_); rintro e w7 ⟨rfl, ⟨nd2, rfl⟩⟩))
    go_ret2
    exact ⟨_, rfl, Kd.R_nil Kd.string _ _ _ _, pw_below_drewN HB8.out _⟩
   | true =>
    rw [if_pos rfl] at h
    split at h
    case isFalse => cases h
    rename_i hlen
    have HLEN := Aside0.mk hlen
    replace h := Option.bind_eq_some_iff.mp h
    obtain ⟨⟨ws, b3⟩, A4, h⟩ := h
    replace A4 := Aside0.mk A4
    have hV := fun W => values_callsI A0 l0.length c0 W
    have hfp := fun W g cap cur b (hR : RowAt W b g 0 cap cur (sortI l0)) => impl_FirstPrefixCode.calls k (some ⟨g, 0, none⟩) cap (sortI l0) a1 ws b3 W hR.reads hR.len A4.out
    rw [sortI_length] at hfp
    have H := Aside0.mk h
    clear h hlen
    go_enter Tryz.func14, Tryz.ntmps14
    go_upto_region 3 with (first
     | (go_at_call 55; (with_reducible refine (hdeep _ (Kd.C_below HR0.out HB1.out)).mono ?_); rintro e w7 ⟨rfl, ⟨nd, rfl⟩⟩; have hb1 := hbox1 nd)
     | (go_at_call 56; (with_reducible refine (hmax _ (Kd.C_below HR0.out (pw_below_drewN HB1.out _))).mono ?_); rintro e w8 ⟨rfl, hb8⟩; have HB8 := Aside0.mk (below_step (pw_below_drewN (Below.refl _ _) _) hb8); clear hb8)
     | (go_at_call 40; (with_reducible refine (hlet _).mono ?_); rintro e w7 ⟨rfl, ⟨nd2, rfl⟩⟩))
    generalize hw3 : World.drewN _ nd2 = W3
    have HB3 := Aside0.mk (show Below (w.alloc (.cells #[.slice A0 l0.length c0] 24)).heap.size (w.alloc (.cells #[.slice A0 l0.length c0] 24)) W3 from by rw [← hw3]; exact pw_below_drewN HB8.out _)
    clear hw3 hbox1 hdeep hmax hlet
    have hcl := HBOX.out W3 HB3.out
    have HBW := Aside0.mk (below_step HB1.out HB3.out)
    have hS := sorted_values' A0 c0 l0 W3 (Kd.C_below HR0.out HBW.out) (by have := HLEN.out; omega) (by have := HLEN.out; omega)
    go_upto_region 4 with (first
     | (go_at_call 43; (with_reducible refine (hV _).mono ?_); rintro e w' ⟨rfl, rfl⟩)
     | (go_at_call 42; (with_reducible refine hS.mono ?_); rintro e w4 ⟨hb, g, cap, cur, rfl, hR, hz⟩; have HB4 := Aside0.mk hb; have HR4 := Aside0.mk hR; clear hb hR hz)
     | (go_at_call 57; (with_reducible refine (hfp _ _ _ _ _ HR4.out).mono ?_); rintro e w5 ⟨vw, rfl, hw, hb⟩; obtain ⟨Aw, cw, rfl⟩ := Kd.R_slice hw; have HW5 := Aside0.mk hw; have HB5 := Aside0.mk (below_step HB4.out hb); clear hw hb))
    cases b3 with
    | false =>
     obtain ⟨rfl, rfl⟩ : [] = r1 ∧ false = r2 := by simpa using H.out
     go_wp2
     go_ret2
     exact ⟨_, rfl, Kd.R_nil Kd.string _ _ _ _, below_step HBW.out HB5.out⟩
    | true =>
     have h := H.out
     rw [if_pos rfl] at h
     split at h
     case isFalse => cases h
     rename_i hws
     simp only [Option.some.injEq, Prod.mk.injEq] at h
     obtain ⟨hfin, rfl⟩ := h
     have HFIN := Aside0.mk hfin
     clear hfin
     have HWS := Aside0.mk hws
     have hcl5 : (w5.alloc (.cells #[] 3)).cell? ⟨w.heap.size, 0, none⟩ = some (.slice A0 l0.length c0) := HBOX.out _ (below_alloc (below_step HB3.out HB5.out) _)
     clear hws H hV hS hfp hcl
     go_wp2
     go_loopg [8, 39] l0.length (fun kq v8 v39 w' => ∃ (i g off cap : Nat) (cur : Array Value), v8 = .slice (some ⟨g, off, none⟩) i cap ∧ v39 = .int .i64 (i : Int) ∧ Aside0 (i ≤ l0.length ∧ kq = l0.length - i) ∧ Aside0 (RowAt w' w5.heap.size g off cap cur ((List.range i).map fun (x : Nat) => (x : Int))) ∧ Aside0 (Below w5.heap.size w5 w'))
     case atStart => exact ⟨0, w5.heap.size, 0, 0, #[], rfl, rfl, ⟨Nat.zero_le _, rfl⟩, ⟨⟨Nat.le_refl _, mr_new _ _, Nat.le_refl _, fun h => absurd h (by omega), Nat.zero_le _, fun j hj => absurd hj (by simp)⟩⟩, ⟨below_alloc (Below.refl _ _) _⟩⟩
     case round =>
      clear hcl5
      obtain ⟨i, g1, off1, cap1, cur1, rfl, rfl, HI, HR, HB⟩ := hrel
      by_cases c1 : i < l0.length
      ·have c1b : decide ((i : Int) < (l0.length : Int)) = true := decide_eq_true (by omega)
       have c1n : decide (i < l0.length) = true := decide_eq_true c1
       have hi1 : (i : Int) + 1 ≤ 9223372036854775807 := by have := HLEN.out; omega
       have HI2 := Aside0.mk c1
       clear c1
       obtain ⟨xs, hxs⟩ : ∃ xs, xs = (List.range i).map fun (x : Nat) => (x : Int) := ⟨_, rfl⟩
       rw [← hxs] at HR
       have HXL := Aside0.mk (show i = xs.length from by rw [hxs]; simp)
       have HXS := Aside0.mk hxs
       clear hxs
       go_wp2_with ((with_reducible refine gate_builtin (b := .append) (xs := #[.tmp 42, .tmp 44]) rfl ?_); at_builtin; refine RowAt.append HR.out (i : Int) i HXL.out rfl (.tmp 42) (.tmp 44) rfl rfl rfl HB.out (by have := HLEN.out; have := HI.out; have := HXL.out; omega) ?_; intro g2 off2 cap2 cur2 w2 hR2 hb2 hg2 hat2 hz2; have HR2 := Aside0.mk hR2; have HB2 := Aside0.mk hb2; clear hR2 hb2 hg2 hat2 hz2)
       go_roundg (l0.length - (i + 1))
       case measure => have := HI.out; have := HI2.out; omega
       case rel => exact ⟨i + 1, g2, off2, cap2, cur2, rfl, by simp, ⟨by have := HI2.out; omega, rfl⟩, ⟨by rw [List.range_succ, List.map_append, ← HXS.out]; exact HR2.out⟩, HB2⟩
      ·have c1b : decide ((i : Int) < (l0.length : Int)) = false := decide_eq_false (by omega)
       obtain rfl : i = l0.length := by have := HI.out; omega
       clear c1
       go_upto_region 12 with (fail)
       obtain ⟨m, hm⟩ : ∃ m, m = l0.length - 1 := ⟨_, rfl⟩
       have HM := Aside0.mk (show l0.length = m + 1 from by have := HLEN.out; omega)
       have HMM := Aside0.mk hm
       clear hm
       have HB15 := Aside0.mk (below_step HB3.out HB5.out)
       have HWS5 := Aside0.mk (show w.heap.size < w5.heap.size from by have := HB15.out.size; simp at this; omega)
       have HC5 := Aside0.mk (Kd.C_below HR0.out (below_step HB1.out HB15.out))
       have hst := stable_calls l0.length HM.out l0 HM.out (by have := HLEN.out; have := HM.out; omega) A0 c0 w.heap.size w5 wr HB.out HWS5.out (HBOX.out w5 HB15.out) HC5.out (allP m) (allP_size m) g1 off1 cap1 cur1 (by rw [allP_list, ← HM.out]; exact HR.out) (stableP_size l0 _)
       go_upto_region 13 with (go_at_call 58; (with_reducible refine hst.mono ?_); rintro e w7 ⟨rfl, ⟨cur7, hr7⟩, hg7⟩; have HR7 := Aside0.mk hr7; have HG7 := Aside0.mk hg7; clear hr7 hg7)
       have HB7 := Aside0.mk (wf_end HB.out HG7.out HR.out.base)
       have hcl7 := HBOX.out w7 (below_step HB15.out HB7.out)
       have hn0 : (0 : Int) ≤ (l0.length : Int) := by omega
       have hn1 : (l0.length : Int).toNat * 16 ≤ 281474976710656 := by have := HLEN.out; omega
       clear hst
       go_upto_region 14 with ((with_reducible refine gate_dst (N := 52) rfl ?_); refine Kd.R_make Kd.string _ 9 rfl (N := 52) rfl 35 _ _ rfl (l0.length : Int) rfl rfl Tryz.underlying35 (.string ⟨#[]⟩) 16 info9 rfl (by decide) (by omega) (⟨#[]⟩ : ByteArray) (ok := fun _ => True) (okp := fun _ => True) rfl (fun _ hk => hk) trivial hn0 hn1 (Below.refl _ _) (Nat.le_refl _) ?_; intro v10 w8 ho8 hb8 hg_ hnew_; have HO8 := Aside0.mk ho8; have HB8b := Aside0.mk hb8; clear ho8 hb8 hg_ hnew_)
       obtain ⟨P, hP⟩ : ∃ P, P = impl_WordsFor.places l0 m := ⟨_, rfl⟩
       have HPR := Aside0.mk (show RowAt w7 w5.heap.size g1 off1 cap1 cur7 (P.map fun (x : Nat) => (x : Int)) from by
        have := HR7.out
        rw [hP]
        unfold impl_WordsFor.places
        rw [List.map_map]
        exact this)
       have HPL := Aside0.mk (show P.length = l0.length from by rw [hP]; unfold impl_WordsFor.places; rw [List.length_map, Array.length_toList, stableP_size, allP_size, ← HM.out])
       have HPB := Aside0.mk (show ∀ x ∈ P, x < l0.length from by
        rw [hP]
        unfold impl_WordsFor.places
        intro x hx
        obtain ⟨y, -, rfl⟩ := List.mem_map.1 hx
        have := y.isLt
        have := HM.out
        omega)
       have HF0 := Aside0.mk (show impl_WordsFor.fill ws P 0 (List.replicate l0.length ByteArray.empty) = r1 from by rw [hP, HMM.out]; exact HFIN.out)
       clear hP hcl7 hn0 hn1 c1b HFIN
       rw [Int.toNat_natCast] at HO8
       go_wp2
       go_loopg [55] l0.length (fun kq v55 w' => ∃ (j : Nat) (xs : List ByteArray), v55 = .int .i64 (j : Int) ∧ Aside0 (j ≤ l0.length ∧ kq = l0.length - j) ∧ Aside0 (xs.length = l0.length) ∧ Aside0 (impl_WordsFor.fill ws (P.drop j) j xs = r1) ∧ Aside0 (Kd.R Kd.string 9 w' w7.heap.size (fun _ => True) v10 xs) ∧ Aside0 (Below w7.heap.size w7 w'))
       case atStart => exact ⟨0, _, rfl, ⟨Nat.zero_le _, rfl⟩, ⟨by rw [List.length_replicate]⟩, HF0, HO8, HB8b⟩
       case round =>
        clear HO8 HB8b HF0
        obtain ⟨j, xs, rfl, HI9, HXL, HF, HO, HB9⟩ := hrel
        by_cases d2 : j < l0.length
        ·have d2b : decide ((j : Int) < (l0.length : Int)) = true := decide_eq_true (by omega)
         have d2n : decide (j < l0.length) = true := decide_eq_true d2
         have HJ := Aside0.mk d2
         have hjp : j < P.length := by have := HPL.out; omega
         have hdrop : P.drop j = P.getD j 0 :: P.drop (j + 1) := by rw [List.drop_eq_getElem_cons hjp]; simp [List.getD_eq_getElem?_getD, hjp]
         obtain ⟨x, hxx⟩ : ∃ x, x = P.getD j 0 := ⟨_, rfl⟩
         have hxl : x < l0.length := by rw [hxx]; exact HPB.out _ (by rw [List.getD_eq_getElem?_getD, List.getElem?_eq_getElem hjp]; exact List.getElem_mem hjp)
         have HDROP := Aside0.mk hdrop
         clear hdrop
         have HXN := Aside0.mk hxl
         have hplace : wr.cell? ⟨g1, off1 + j, none⟩ = some (.int .i64 (x : Int)) := by
          have := (HPR.out.move (HB9.out.block _ HPR.out.lt)).cell j (by rw [List.length_map]; exact hjp)
          rw [this, hxx]
          simp [List.getD_eq_getElem?_getD, hjp]
         have HXX := Aside0.mk hxx
         obtain ⟨adw, eadw, hword⟩ := Kd.at_string (Kd.C_below (Kd.R_reads' HW5.out).2.2 (below_step HB7.out HB9.out)) (j : Int) (by omega) (by have := HWS.out; omega)
         rw [Int.toNat_natCast] at hword
         subst eadw
         obtain ⟨go9, co9, eo9, gb9, gl9, cl9, HG9⟩ := Kd.R_form HO.out (by have := HXL.out; omega)
         subst eo9
         have GB9 := Aside0.mk gb9
         clear gb9 gl9 HG9 hjp hxx
         have p33 : 0 ≤ (x : Int) := by omega
         have q33 : (x : Int) < (xs.length : Int) := by have := HXL.out; omega
         obtain ⟨hxo, hfo⟩ := Kd.R_celln (⟨#[]⟩ : ByteArray) HO.out (x : Int) p33 q33
         have HP9 := Kd.R_putg HO.out (x : Int) (rdOf ByteArray.empty ws (j : Int))
         rw [Int.toNat_natCast] at HP9
         (try rw [Int.toNat_natCast] at hxo)
         (try rw [Int.toNat_natCast] at hfo)
         have q44 : (j : Int) < (ws.length : Int) := by have := HWS.out; omega
         have q45 : j < ws.length := by omega
         have q46 : x < xs.length := by omega
         have q47 : j < l0.length := HJ.out
         clear d2 hxl
         go_wp2_with ((with_reducible refine gate_store (t := 9) (p := 66) rfl ?_); refine store_event (t := 9) (p := 66) (v := ?vo_w36) (w1 := (wr.setCell ⟨go9, x, none⟩ (.string (rdOf ByteArray.empty ws (j : Int))))) ?hg ?ho ?hn ?hr ?_; (case ho => rfl); (case hg => rfl); (case hn => rfl); (case hr => first | (go_simp; done) | (go_simp; rfl)); intro w36 hw; have HO36 := Aside0.mk (by rw [hw]; exact HP9.1 : Kd.R Kd.string 9 w36 w7.heap.size (fun _ => True) (.slice (some ⟨go9, 0, none⟩) xs.length co9) (xs.set x (rdOf ByteArray.empty ws (j : Int)))); have HB36 := Aside0.mk (by rw [hw]; exact below_set HB9.out GB9.out : Below w7.heap.size w7 w36); clear HP9 hw)
         go_roundg (l0.length - (j + 1))
         case measure => have := HI9.out; have := HJ.out; omega
         case rel => exact ⟨j + 1, xs.set x (rdOf ByteArray.empty ws (j : Int)), (by first | (simp; done) | exact congrArg (Value.int .i64) (by have := HLEN.out; have := HJ.out; unfold wrap64; omega)), ⟨by have := HJ.out; omega, rfl⟩, ⟨by rw [List.length_set]; exact HXL.out⟩, ⟨by have := HF.out; rw [HDROP.out, ← HXX.out, impl_WordsFor.fill] at this; unfold rdOf; rw [Int.toNat_natCast]; exact this⟩, HO36, HB36⟩
        ·have d2b : decide ((j : Int) < (l0.length : Int)) = false := decide_eq_false (by omega)
         have d2n : decide (j < l0.length) = false := decide_eq_false d2
         have hfin : xs = r1 := by have := HF.out; rw [List.drop_of_length_le (by have := HPL.out; omega)] at this; exact this
         subst hfin
         clear d2
         go_wp2
         go_ret2
         exact ⟨_, rfl, Kd.R_lower HO.out (by have := HB7.out.size; have := HWS5.out; omega), below_step (below_step (below_step HB1.out HB15.out) HB7.out) HB9.out⟩
def spec_beLengths.f (k : Nat) (l0 : List Int) : Option (Bool) := (spec_l1In.f (l0.length : Int) 1 12).bind fun t381 => (if t381 = true then ((spec_l1All.f k l0 1 11).bind fun t382 => (some t382)) else (some false))
theorem spec_beLengths.mono : ∀ a0 k, LeO (spec_beLengths.f k a0) (spec_beLengths.f (k + 1) a0) := by
 intro a0 k
 unfold spec_beLengths.f
 repeat' first
   | (with_reducible first | exact spec_l1All.mono _ _ _ _ | exact LeO.refl _ | exact LeO.none _ | refine LeO.ite ?_ ?_ | refine LeO.bind ?_ (fun _ => ?_))
   | exact spec_l1All.mono _ _ _ _
   | exact LeO.none _
   | refine LeO.ite ?_ ?_
   | refine LeO.bind ?_ (fun _ => ?_)
theorem spec_beLengths.calls (k : Nat) (A0 : Option Addr) (c0 : Nat) (l0 : List Int) (r : Bool) (w : World) (hr0 : Kd.C (Kd.int .i64) w A0 l0.length l0) (hc0 : l0.length ≤ c0) (h : spec_beLengths.f k l0 = some r) :
  Calls Tryz.prog 60 #[.slice A0 l0.length c0] w fun e w' => e = .returned (.bool r) ∧ Drawn0 w w' := by
 have HR0 := Aside0.mk hr0
 have HC0 := Aside0.mk hc0
 clear hr0 hc0
 have H : ((spec_l1In.f (l0.length : Int) 1 12).bind fun t381 => (if t381 = true then ((spec_l1All.f k l0 1 11).bind fun t382 => (some t382)) else (some false))) = some r := h
 clear h
 replace H := Option.bind_eq_some_iff.mp H
 obtain ⟨t381, A20, H⟩ := H
 (try dsimp only at H)
 have A2 := Aside0.mk A20
 clear A20
 by_cases c3 : t381 = true
 ·subst c3
  rw [if_pos rfl] at H
  replace H := Option.bind_eq_some_iff.mp H
  obtain ⟨t382, A40, H⟩ := H
  (try dsimp only at H)
  have A4 := Aside0.mk A40
  clear A40
  obtain rfl := Option.some.inj H
  go_enter Tryz.func60, Tryz.ntmps60
  go_wp2_with (first | ((with_reducible refine gate_callee (f := 48) rfl ?_); refine goesL_ (some 5) rfl rfl Tryz.func48 (by kernel_rfl) rfl #[.int .i64 (l0.length : Int), .int .i64 1, .int .i64 12] rfl (by (try simp only [List.map_toArray, List.map_cons, List.map_nil]); first | done | rfl | (simp only [List.length_drop, List.length_take]; rfl)) ?_; (with_reducible refine (spec_l1In.calls (l0.length : Int) 1 12 true _ A2.out).mono ?_); rintro e w' ⟨rfl, ⟨nd, rfl⟩⟩; refine ⟨_, rfl, ?_⟩) | (go_at_call 61; (with_reducible refine (spec_l1All.calls k _ _ l0 1 11 t382 _ ?side1 ?side2 A4.out).mono ?_); (case side1 => exact zC HR0.out); (case side2 => exact HC0.out); rintro e w' ⟨rfl, ⟨nd, rfl⟩⟩))
  go_ret
  exact ⟨by first | rfl | (simp; done) | (simp [*]; done) | (simp only [IntWalk.i64_left]; done) | (simp [IntWalk.i64_left]; done) | (simp [*, IntWalk.i64_left]; done), by repeat (first | exact Drawn0.refl _ | apply Drawn0.step)⟩
 ·replace c3 := Bool.eq_false_iff.mpr c3
  subst c3
  rw [if_neg zN] at H
  obtain rfl := Option.some.inj H
  go_enter Tryz.func60, Tryz.ntmps60
  go_wp2_with (first | ((with_reducible refine gate_callee (f := 48) rfl ?_); refine goesL_ (some 5) rfl rfl Tryz.func48 (by kernel_rfl) rfl #[.int .i64 (l0.length : Int), .int .i64 1, .int .i64 12] rfl (by (try simp only [List.map_toArray, List.map_cons, List.map_nil]); first | done | rfl | (simp only [List.length_drop, List.length_take]; rfl)) ?_; (with_reducible refine (spec_l1In.calls (l0.length : Int) 1 12 false _ A2.out).mono ?_); rintro e w' ⟨rfl, ⟨nd, rfl⟩⟩; refine ⟨_, rfl, ?_⟩))
  go_ret
  exact ⟨by first | rfl | (simp; done) | (simp [*]; done) | (simp only [IntWalk.i64_left]; done) | (simp [IntWalk.i64_left]; done) | (simp [*, IntWalk.i64_left]; done), by repeat (first | exact Drawn0.refl _ | apply Drawn0.step)⟩
def spec_beFit.l0 : Nat → Int → Int → List Int → Int → Int → Option (Bool)
 | 0, _, _, _, _, _ => none
 | k + 1, x1, x5, x10, x11, x12 => if x12 < x11 then (if 0 ≤ x12 then (if x12 < (x10.length : Int) then ((spec_krPower.f k x1 (wrap64 (11 - (rd x10 x12)))).bind fun t385 => (spec_beFit.l0 k x1 (wrap64 (x5 - t385)) x10 x11 (wrap64 (x12 + 1)))) else (none)) else (none)) else (some (decide (x5 ≥ 0)))
def spec_beFit.f (k : Nat) (l0 : List Int) (a1 : Int) : Option (Bool) := (spec_krPower.f k a1 11).bind fun t383 => (spec_beFit.l0 k a1 t383 l0 (l0.length : Int) 0)
theorem spec_beFit.mono_l : ∀ k, (∀ y0 y1 y2 y3 y4, LeO (spec_beFit.l0 k y0 y1 y2 y3 y4) (spec_beFit.l0 (k + 1) y0 y1 y2 y3 y4))
 | 0 => fun _ _ _ _ _ r h => by simp [spec_beFit.l0] at h
 | k + 1 => by
  have ih0 := spec_beFit.mono_l k
  ·intro y0 y1 y2 y3 y4
   unfold spec_beFit.l0
   repeat' first
   | (with_reducible first | exact ih0 _ _ _ _ _ | exact spec_krPower.mono _ _ _ | exact LeO.refl _ | exact LeO.none _ | refine LeO.ite ?_ ?_ | refine LeO.bind ?_ (fun _ => ?_))
   | exact ih0 _ _ _ _ _
   | exact spec_krPower.mono _ _ _
   | exact LeO.none _
   | refine LeO.ite ?_ ?_
   | refine LeO.bind ?_ (fun _ => ?_)
theorem spec_beFit.mono : ∀ a0 a1 k, LeO (spec_beFit.f k a0 a1) (spec_beFit.f (k + 1) a0 a1) := by
 intro a0 a1 k
 have ih0 := spec_beFit.mono_l k
 unfold spec_beFit.f
 repeat' first
   | (with_reducible first | exact ih0 _ _ _ _ _ | exact spec_krPower.mono _ _ _ | exact LeO.refl _ | exact LeO.none _ | refine LeO.ite ?_ ?_ | refine LeO.bind ?_ (fun _ => ?_))
   | exact ih0 _ _ _ _ _
   | exact spec_krPower.mono _ _ _
   | exact LeO.none _
   | refine LeO.ite ?_ ?_
   | refine LeO.bind ?_ (fun _ => ?_)
theorem spec_beFit.calls (k : Nat) (A0 : Option Addr) (c0 : Nat) (l0 : List Int) (a1 : Int) (r : Bool) (w : World) (hr0 : Kd.C (Kd.int .i64) w A0 l0.length l0) (hc0 : l0.length ≤ c0) (h : spec_beFit.f k l0 a1 = some r) :
  Calls Tryz.prog 62 #[.slice A0 l0.length c0, .int .i64 a1] w fun e w' => e = .returned (.bool r) ∧ Drawn0 w w' := by
 have HR0 := Aside0.mk hr0
 have HC0 := Aside0.mk hc0
 clear hr0 hc0
 have H : ((spec_krPower.f k a1 11).bind fun t383 => (spec_beFit.l0 k a1 t383 l0 (l0.length : Int) 0)) = some r := h
 clear h
 replace H := Option.bind_eq_some_iff.mp H
 obtain ⟨t383, A30, H⟩ := H
 (try dsimp only at H)
 have A3 := Aside0.mk A30
 clear A30
 have H' := Aside0.mk H
 clear H
 go_enter Tryz.func62, Tryz.ntmps62
 go_wp2_with (first | ((with_reducible refine gate_callee (f := 51) rfl ?_); refine goesL_ (some 9) rfl rfl Tryz.func51 (by kernel_rfl) rfl #[.int .i64 a1, .int .i64 11] rfl (by (try simp only [List.map_toArray, List.map_cons, List.map_nil]); first | done | rfl | (simp only [List.length_drop, List.length_take]; rfl)) ?_; (with_reducible refine (spec_krPower.calls k a1 11 t383 _ A3.out).mono ?_); rintro e w' ⟨rfl, ⟨nd, rfl⟩⟩; refine ⟨_, rfl, ?_⟩))
 go_loopg [5, 12] k (fun kq v5 v12 w' => ∃ (x5_1 : Int) (x12_1 : Int), v5 = .int .i64 x5_1 ∧ v12 = .int .i64 x12_1 ∧ Aside0 (spec_beFit.l0 kq a1 x5_1 l0 (l0.length : Int) x12_1 = some r) ∧ Aside0 (kq ≤ k) ∧ Drawn0 w w')
 case atStart => exact ⟨(t383), (0), zE1, zE1, H', ⟨Nat.le_refl _⟩, by repeat (first | exact Drawn0.refl _ | apply Drawn0.step)⟩
 case round =>
  clear H'
  try clear p2
  obtain ⟨x5_1, x12_1, rfl, rfl, HA, HK1, ⟨m1, rfl⟩⟩ := hrel
  cases gk with
  | zero => exact absurd HA.out (by simp [spec_beFit.l0])
  | succ k1 =>
   have H := HA.out
   clear HA
   simp only [spec_beFit.l0] at H
   by_cases c4 : x12_1 < (l0.length : Int)
   ·rw [if_pos c4] at H
    have c4b0 : decide (x12_1 < (l0.length : Int)) = true := decide_eq_true c4
    clear c4
    by_cases c5 : 0 ≤ x12_1
    ·rw [if_pos c5] at H
     have c5b0 : decide (0 ≤ x12_1) = true := decide_eq_true c5
     clear c5
     by_cases c6 : x12_1 < (l0.length : Int)
     ·rw [if_pos c6] at H
      have c6b0 : decide (x12_1 < (l0.length : Int)) = true := decide_eq_true c6
      clear c6
      replace H := Option.bind_eq_some_iff.mp H
      obtain ⟨t385, A70, H⟩ := H
      (try dsimp only at H)
      have A7 := Aside0.mk A70
      clear A70
      have H' := Aside0.mk H
      clear H
      have p384 : 0 ≤ (x12_1 : Int) := zD
      have q384 : x12_1 < (l0.length : Int) := zD
      obtain ⟨ad384, e384, hx384_0⟩ := Kd.at_int HR0.out x12_1 p384 q384
      cases e384
      replace p384 := eq_true p384
      replace q384 := eq_true q384
      go_wp2_with (first | ((with_reducible refine gate_callee (f := 51) rfl ?_); refine goesL_ (some 20) rfl rfl Tryz.func51 (by kernel_rfl) rfl #[.int .i64 a1, .int .i64 (wrap64 (11 - (rd l0 x12_1)))] rfl (by (try simp only [List.map_toArray, List.map_cons, List.map_nil]); first | done | rfl | (simp only [List.length_drop, List.length_take]; rfl)) ?_; (with_reducible refine (spec_krPower.calls k1 a1 (wrap64 (11 - (rd l0 x12_1))) t385 _ A7.out).mono ?_); rintro e w' ⟨rfl, ⟨nd, rfl⟩⟩; refine ⟨_, rfl, ?_⟩))
      go_roundg k1
      case measure => have := HK1.out; omega
      case rel => exact ⟨(wrap64 (x5_1 - t385)), (wrap64 (x12_1 + 1)), zE1, zE1, H', ⟨by have := HK1.out; omega⟩, by repeat (first | exact Drawn0.refl _ | apply Drawn0.step)⟩
     ·rw [if_neg c6] at H
      exact absurd H (by simp)
    ·rw [if_neg c5] at H
     exact absurd H (by simp)
   ·rw [if_neg c4] at H
    have c4b0 : decide (x12_1 < (l0.length : Int)) = false := decide_eq_false c4
    clear c4
    obtain rfl := Option.some.inj H
    go_wp2
    go_ret
    exact ⟨by first | rfl | (simp; done) | (simp [*]; done) | (simp only [IntWalk.i64_left]; done) | (simp [IntWalk.i64_left]; done) | (simp [*, IntWalk.i64_left]; done), by repeat (first | exact Drawn0.refl _ | apply Drawn0.step)⟩
end Go.Proofs.YtmanjfdchhipmaaGreatDoor.XFnBestWithin
