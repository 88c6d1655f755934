-- Cut out of longer texts by a program of this session (wip/shake.py): what the claim uses.
import Derived.Test.YtcdmmpbcjcajlaaGreatXFnBestIsMergedx0
import Derived.Test.YtcdmmpbcjcajlaaGreatXFnBestIsMergedx2
import Derived.Test.YtcdmmpbcjcajlaaGreatXFnBestIsMergedx3
import Derived.Test.YtcdmmpbcjcajlaaGreatXFnBestIsMergedx4
namespace Go.Proofs.YtcdmmpbcjcajlaaGreat.XFnBestIsMerged
open Go.RowKit Go.Proofs.YtcdmmpbcjcajlaaGreat.Hand Go.Proofs.YtcdmmpbcjcajlaaGreatW.PrintWords Go.Proofs.YtcdmmpbcjcajlaaGreatW.PrintLast Go.Proofs.YtcdmmpbcjcajlaaGreatW.PrintMore
attribute [local go_sem] max2_int min2_int max_two min_two max_three min_three max_four min_four   -- for this text's walks alone
set_option linter.unusedVariables false
set_option linter.unusedSimpArgs false
def spec_beBest.l0 : Nat → Int → List Int → Int → Int → Option (Int)
  | 0, _, _, _, _ => none
  | k + 1, x5, x16, x17, x18 => if x18 < x17 then (if 0 ≤ x18 then (if x18 < (x16.length : Int) then (spec_beBest.l0 k (wrap64 (x5 + (rd x16 x18))) x16 x17 (wrap64 (x18 + 1))) else (none)) else (none)) else (some x5)
def spec_beBest.f (k : Nat) (l0 : List Int) (a1 : Int) : Option (Int) := if (l0.length : Int) = 1 then (if 0 < (l0.length : Int) then (some (rd l0 0)) else (none)) else ((spec_beMerge.f k l0 a1).bind fun t245 => (spec_beBest.l0 k 0 t245 (t245.length : Int) 0))
theorem spec_beBest.mono_l : ∀ k, (∀ y0 y1 y2 y3, LeO (spec_beBest.l0 k y0 y1 y2 y3) (spec_beBest.l0 (k + 1) y0 y1 y2 y3))
  | 0 => fun _ _ _ _ r h => by simp [spec_beBest.l0] at h
  | k + 1 => by
    have ih0 := spec_beBest.mono_l k
    · intro y0 y1 y2 y3
      unfold spec_beBest.l0
      repeat' first
      | (with_reducible exact ih0 _ _ _ _)
      | (with_reducible exact spec_beMerge.mono _ _ _)
      | (with_reducible exact LeO.refl _)
      | (with_reducible exact LeO.none _)
      | (with_reducible refine LeO.ite ?_ ?_)
      | (with_reducible refine LeO.bind ?_ (fun _ => ?_))
      | exact ih0 _ _ _ _
      | exact spec_beMerge.mono _ _ _
      | exact LeO.none _
      | refine LeO.ite ?_ ?_
      | refine LeO.bind ?_ (fun _ => ?_)
theorem spec_beBest.mono : ∀ a0 a1 k, LeO (spec_beBest.f k a0 a1) (spec_beBest.f (k + 1) a0 a1) := by
  intro a0 a1 k
  have ih0 := spec_beBest.mono_l k
  unfold spec_beBest.f
  repeat' first
      | (with_reducible exact ih0 _ _ _ _)
      | (with_reducible exact spec_beMerge.mono _ _ _)
      | (with_reducible exact LeO.refl _)
      | (with_reducible exact LeO.none _)
      | (with_reducible refine LeO.ite ?_ ?_)
      | (with_reducible refine LeO.bind ?_ (fun _ => ?_))
      | exact ih0 _ _ _ _
      | exact spec_beMerge.mono _ _ _
      | exact LeO.none _
      | refine LeO.ite ?_ ?_
      | refine LeO.bind ?_ (fun _ => ?_)
set_option maxHeartbeats 8000000 in
set_option maxRecDepth 100000 in
theorem spec_beBest.calls (k : Nat) (A0 : Option Addr) (c0 : Nat) (l0 : List Int) (a1 : Int) (r : Int) (w : World) (hr0 : Kd.C (Kd.int .i64) w A0 l0.length l0) (hc0 : l0.length ≤ c0) (h : spec_beBest.f k l0 a1 = some r) :
    Calls Tryz.prog 34 #[.slice A0 l0.length c0, .int .i64 a1] w fun e w' => e = .returned (.int .i64 r) ∧ Below w.heap.size w w' := by
  have HR0 := Aside0.mk hr0
  have HC0 := Aside0.mk hc0
  clear hr0 hc0
  have HB := Aside0.mk (Below.refl w.heap.size w)
  have H : (if (l0.length : Int) = 1 then (if 0 < (l0.length : Int) then (some (rd l0 0)) else (none)) else ((spec_beMerge.f k l0 a1).bind fun t245 => (spec_beBest.l0 k 0 t245 (t245.length : Int) 0))) = some r := h
  clear h
  by_cases c3 : (l0.length : Int) = 1
  · rw [if_pos c3] at H
    have c3b0 : ((l0.length : Int) == 1) = true := beq_iff_eq.mpr c3
    have c3b1 : ((l0.length : Int) != 1) = false := bne_eq_false_iff_eq.mpr c3
    clear c3
    by_cases c4 : 0 < (l0.length : Int)
    · rw [if_pos c4] at H
      have c4b0 : decide (0 < (l0.length : Int)) = true := decide_eq_true c4
      have c4b1 : decide (0 < l0.length) = true := decide_eq_true (by omega)
      clear c4
      obtain rfl := Option.some.inj H
      have p244 : 0 ≤ (0 : Int) := (by omega)
      have q244 : 0 < (l0.length : Int) := of_decide_eq_true (by first | (with_reducible assumption) | assumption)
      obtain ⟨ad244, e244, hx244_0⟩ := Kd.at_int HR0.out 0 p244 q244
      cases e244
      have qi244 : (0 < l0.length) = True := eq_true (by omega)
      (try rw [show ((0 : Int)).toNat = 0 from rfl] at hx244_0)
      (try rw [Addr.add_zero'] at hx244_0)
      replace p244 := eq_true p244
      replace q244 := eq_true q244
      go_enter Tryz.func34, Tryz.ntmps34
      go_wp2
      go_ret
      exact ⟨by first | rfl | (simp [errW_none, errW_some] <;> rfl) | (simp [*, errW_none, errW_some] <;> rfl), by repeat (first | (with_reducible first | exact HB.out | apply below_alloc | apply pw_below_drewN | apply below_drew1) | exact HB.out)⟩
    · rw [if_neg c4] at H
      exact absurd H (by simp)
  · rw [if_neg c3] at H
    have c3b0 : ((l0.length : Int) == 1) = false := beq_eq_false_iff_ne.mpr c3
    have c3b1 : ((l0.length : Int) != 1) = true := bne_iff_ne.mpr c3
    replace H := Option.bind_eq_some_iff.mp H
    obtain ⟨t245, A50, H⟩ := H
    replace H : (spec_beBest.l0 k 0 t245 (t245.length : Int) 0) = some r := H
    have A5 := Aside0.mk A50
    clear A50
    have H' := Aside0.mk H
    clear H
    go_enter Tryz.func34, Tryz.ntmps34
    go_wp2_with (first | ((with_reducible refine gate_callee (f := 46) rfl ?_); refine goesL_ (some 16) rfl rfl Tryz.func46 (by kernel_rfl) rfl #[.slice A0 l0.length c0, .int .i64 a1] rfl (by (try simp only [List.map_toArray, List.map_cons, List.map_nil]); first | done | rfl | (simp only [List.length_drop, List.length_take]; rfl)) ?_; (with_reducible refine (spec_beMerge.calls k _ _ l0 a1 t245 _ ?side1 ?side2 A5.out).mono ?_); (case side1 => repeat (first | exact HR0.out | (with_reducible refine Kd.C_alloc ?_ _) | (with_reducible refine Kd.C_drewN ?_ _) | (with_reducible refine Kd.C_drew ?_))); (case side2 => exact HC0.out); rintro e w6 ⟨v246, rfl, ho0, hb⟩; refine ⟨_, rfl, ?_⟩; have n0_ := Aside0.mk (Kd.R_lower ho0 (below_size (by repeat (first | (with_reducible first | exact HB.out | apply below_alloc | apply pw_below_drewN | apply below_drew1) | exact HB.out)))); have n1_ := Aside0.mk (below_step (by repeat (first | (with_reducible first | exact HB.out | apply below_alloc | apply pw_below_drewN | apply below_drew1) | exact HB.out)) hb); clear HB; have HO247 := n0_; have HB := n1_; clear n0_ n1_; (try clear hb); (try clear hb2); (try clear hk); (try clear hi); (try clear ho0); obtain ⟨Ao7, co7, eo7⟩ := Kd.R_slice HO247.out; subst eo7))
    go_loopg [5, 18] k (fun kq v5 v18 w' => ∃ (x5_1 : Int) (x18_1 : Int), v5 = .int .i64 x5_1 ∧ v18 = .int .i64 x18_1 ∧ Aside0 (spec_beBest.l0 kq x5_1 t245 (t245.length : Int) x18_1 = some r) ∧ Aside0 (kq ≤ k) ∧ Aside0 (Kd.R (Kd.int .i64) 3 w' w.heap.size (fun _ => True) (.slice Ao7 t245.length co7) t245) ∧ Aside0 (Below w.heap.size w w'))
    case atStart => exact ⟨(0), (0), (by first | rfl | (simp; done) | (simp [*]; done) | (simp only [IntWalk.i64_left]; done) | (simp [IntWalk.i64_left]; done) | (simp [*, IntWalk.i64_left]; done)), (by first | rfl | (simp; done) | (simp [*]; done) | (simp only [IntWalk.i64_left]; done) | (simp [IntWalk.i64_left]; done) | (simp [*, IntWalk.i64_left]; done)), H', ⟨Nat.le_refl _⟩, ⟨by (with_reducible repeat (first | apply Kd.R_alloc | apply Kd.R_drewN | apply Kd.R_drew)); exact HO247.out⟩, ⟨by repeat (first | (with_reducible first | exact HB.out | apply below_alloc | apply pw_below_drewN | apply below_drew1) | exact HB.out)⟩⟩
    case round =>
      clear H'
      try clear p2
      try clear q2
      try clear hx2
      try clear qi2
      try clear c3
      try clear c3b0
      try clear c3b1
      try clear c4
      try clear c4b0
      try clear c4b1
      try clear hx244_0
      try clear p244
      try clear q244
      obtain ⟨x5_1, x18_1, rfl, rfl, HA, HK1, HO_16, HB⟩ := hrel
      cases gk with
      | zero => exact absurd HA.out (by simp [spec_beBest.l0])
      | succ k1 =>
        have H := HA.out
        clear HA
        simp only [spec_beBest.l0] at H
        by_cases c8 : x18_1 < (t245.length : Int)
        · rw [if_pos c8] at H
          have c8b0 : decide (x18_1 < (t245.length : Int)) = true := decide_eq_true c8
          clear c8
          by_cases c9 : 0 ≤ x18_1
          · rw [if_pos c9] at H
            have c9b0 : decide (0 ≤ x18_1) = true := decide_eq_true c9
            clear c9
            by_cases c10 : x18_1 < (t245.length : Int)
            · rw [if_pos c10] at H
              have c10b0 : decide (x18_1 < (t245.length : Int)) = true := decide_eq_true c10
              clear c10
              have H' := Aside0.mk H
              clear H
              have p248 : 0 ≤ (x18_1 : Int) := of_decide_eq_true (by first | (with_reducible assumption) | assumption)
              have q248 : x18_1 < (t245.length : Int) := of_decide_eq_true (by first | (with_reducible assumption) | assumption)
              obtain ⟨ad248, e248, hx248_0⟩ := Kd.at_int (Kd.R_reads' HO_16.out).2.2 x18_1 p248 q248
              cases e248
              replace p248 := eq_true p248
              replace q248 := eq_true q248
              go_wp2
              go_roundg k1
              case measure => have := HK1.out; omega
              case rel => exact ⟨(wrap64 (x5_1 + (rd t245 x18_1))), (wrap64 (x18_1 + 1)), (by first | rfl | (simp; done) | (simp [*]; done) | (simp only [IntWalk.i64_left]; done) | (simp [IntWalk.i64_left]; done) | (simp [*, IntWalk.i64_left]; done)), (by first | rfl | (simp; done) | (simp [*]; done) | (simp only [IntWalk.i64_left]; done) | (simp [IntWalk.i64_left]; done) | (simp [*, IntWalk.i64_left]; done)), H', ⟨by have := HK1.out; omega⟩, ⟨by (with_reducible repeat (first | apply Kd.R_alloc | apply Kd.R_drewN | apply Kd.R_drew)); exact HO_16.out⟩, ⟨by repeat (first | (with_reducible first | exact HB.out | apply below_alloc | apply pw_below_drewN | apply below_drew1) | exact HB.out)⟩⟩
            · rw [if_neg c10] at H
              exact absurd H (by simp)
          · rw [if_neg c9] at H
            exact absurd H (by simp)
        · rw [if_neg c8] at H
          have c8b0 : decide (x18_1 < (t245.length : Int)) = false := decide_eq_false c8
          clear c8
          obtain rfl := Option.some.inj H
          go_wp2
          go_ret
          exact ⟨by first | rfl | (simp [errW_none, errW_some] <;> rfl) | (simp [*, errW_none, errW_some] <;> rfl), by repeat (first | (with_reducible first | exact HB.out | apply below_alloc | apply pw_below_drewN | apply below_drew1) | exact HB.out)⟩
def spec_krPower.l0 : Nat → Int → Int → Int → Option (Int)
  | 0, _, _, _ => none
  | k + 1, x0, x1, x5 => if x1 > 0 then (spec_krPower.l0 k x0 (wrap64 (x1 - 1)) (wrap64 (x5 * x0))) else (some x5)
def spec_krPower.f (k : Nat) (a0 : Int) (a1 : Int) : Option (Int) := spec_krPower.l0 k a0 a1 1
theorem spec_krPower.mono_l : ∀ k, (∀ y0 y1 y2, LeO (spec_krPower.l0 k y0 y1 y2) (spec_krPower.l0 (k + 1) y0 y1 y2))
  | 0 => fun _ _ _ r h => by simp [spec_krPower.l0] at h
  | k + 1 => by
    have ih0 := spec_krPower.mono_l k
    · intro y0 y1 y2
      unfold spec_krPower.l0
      repeat' first
      | (with_reducible exact ih0 _ _ _)
      | (with_reducible exact LeO.refl _)
      | (with_reducible exact LeO.none _)
      | (with_reducible refine LeO.ite ?_ ?_)
      | (with_reducible refine LeO.bind ?_ (fun _ => ?_))
      | exact ih0 _ _ _
      | exact LeO.none _
      | refine LeO.ite ?_ ?_
      | refine LeO.bind ?_ (fun _ => ?_)
theorem spec_krPower.mono : ∀ a0 a1 k, LeO (spec_krPower.f k a0 a1) (spec_krPower.f (k + 1) a0 a1) := by
  intro a0 a1 k
  have ih0 := spec_krPower.mono_l k
  unfold spec_krPower.f
  repeat' first
      | (with_reducible exact ih0 _ _ _)
      | (with_reducible exact LeO.refl _)
      | (with_reducible exact LeO.none _)
      | (with_reducible refine LeO.ite ?_ ?_)
      | (with_reducible refine LeO.bind ?_ (fun _ => ?_))
      | exact ih0 _ _ _
      | exact LeO.none _
      | refine LeO.ite ?_ ?_
      | refine LeO.bind ?_ (fun _ => ?_)
set_option maxHeartbeats 8000000 in
set_option maxRecDepth 100000 in
theorem spec_krPower.calls (k : Nat) (a0 : Int) (a1 : Int) (r : Int) (w : World) (h : spec_krPower.f k a0 a1 = some r) :
    Calls Tryz.prog 60 #[.int .i64 a0, .int .i64 a1] w fun e w' => e = .returned (.int .i64 r) ∧ Drawn0 w w' := by
  have H : (spec_krPower.l0 k a0 a1 1) = some r := h
  clear h
  have H' := Aside0.mk H
  clear H
  go_enter Tryz.func60, Tryz.ntmps60
  go_wp2
  go_loopg [1, 5] k (fun kq v1 v5 w' => ∃ (x1_1 : Int) (x5_1 : Int), v1 = .int .i64 x1_1 ∧ v5 = .int .i64 x5_1 ∧ Aside0 (spec_krPower.l0 kq a0 x1_1 x5_1 = some r) ∧ Aside0 (kq ≤ k) ∧ Drawn0 w w')
  case atStart => exact ⟨(a1), (1), (by first | rfl | (simp; done) | (simp [*]; done) | (simp only [IntWalk.i64_left]; done) | (simp [IntWalk.i64_left]; done) | (simp [*, IntWalk.i64_left]; done)), (by first | rfl | (simp; done) | (simp [*]; done) | (simp only [IntWalk.i64_left]; done) | (simp [IntWalk.i64_left]; done) | (simp [*, IntWalk.i64_left]; done)), H', ⟨Nat.le_refl _⟩, by repeat (first | exact Drawn0.refl _ | apply Drawn0.step)⟩
  case round =>
    clear H'
    try clear p2
    obtain ⟨x1_1, x5_1, rfl, rfl, HA, HK1, ⟨m1, rfl⟩⟩ := hrel
    cases gk with
    | zero => exact absurd HA.out (by simp [spec_krPower.l0])
    | succ k1 =>
      have H := HA.out
      clear HA
      simp only [spec_krPower.l0] at H
      by_cases c3 : x1_1 > 0
      · rw [if_pos c3] at H
        have c3b0 : decide (0 < x1_1) = true := decide_eq_true c3
        clear c3
        have H' := Aside0.mk H
        clear H
        go_wp2
        go_roundg k1
        case measure => have := HK1.out; omega
        case rel => exact ⟨(wrap64 (x1_1 - 1)), (wrap64 (x5_1 * a0)), (by first | rfl | (simp; done) | (simp [*]; done) | (simp only [IntWalk.i64_left]; done) | (simp [IntWalk.i64_left]; done) | (simp [*, IntWalk.i64_left]; done)), (by first | rfl | (simp; done) | (simp [*]; done) | (simp only [IntWalk.i64_left]; done) | (simp [IntWalk.i64_left]; done) | (simp [*, IntWalk.i64_left]; done)), H', ⟨by have := HK1.out; omega⟩, by repeat (first | exact Drawn0.refl _ | apply Drawn0.step)⟩
      · rw [if_neg c3] at H
        have c3b0 : decide (0 < x1_1) = false := decide_eq_false c3
        clear c3
        obtain rfl := Option.some.inj H
        go_wp2
        go_ret
        exact ⟨by first | rfl | (simp; done) | (simp [*]; done) | (simp only [IntWalk.i64_left]; done) | (simp [IntWalk.i64_left]; done) | (simp [*, IntWalk.i64_left]; done), by repeat (first | exact Drawn0.refl _ | apply Drawn0.step)⟩
open Go.Proofs.YtcdmmpbcjcajlaaGreat.Hand
mutual
def spec_beFind.seek : Nat → List Int → Int → List Int → Int → Int → List Int → Int → Option (List Int × Int)
  | 0, _, _, _, _, _, _, _ => none
  | q + 1, ws, m, list, share, cost, f, cnt => if cost < 0 then some (f, cnt) else if share < 0 then some (f, cnt) else (if list.length ≤ ws.length ∧ ws.length ≤ 1000 then (if list.length = ws.length then (if cost = 0 then (if cnt = 0 then some (list, wrap64 (cnt + 1)) else some (f, wrap64 (cnt + 1))) else some (f, cnt)) else spec_beFind.loop q ws m list share cost f cnt 1) else none)
def spec_beFind.loop : Nat → List Int → Int → List Int → Int → Int → List Int → Int → Nat → Option (List Int × Int)
  | 0, _, _, _, _, _, _, _, _ => none
  | q + 1, ws, m, list, share, cost, f, cnt, l => if l ≤ 11 then ((spec_krPower.f q m (11 - (l : Int))).bind fun p => (spec_beFind.seek q ws m (list ++ [(l : Int)]) (wrap64 (share - p)) (wrap64 (cost - wrap64 ((l : Int) * rd ws list.length))) f cnt).bind fun st => spec_beFind.loop q ws m list share cost st.1 st.2 (l + 1)) else some (f, cnt)
end
def spec_beFind.f (k : Nat) (l0 : List Int) (a1 : Int) : Option (List Int × Int) := (spec_krPower.f k a1 11).bind fun p => (spec_beBest.f k l0 a1).bind fun b => spec_beFind.seek k l0 a1 [] p b [] 0
theorem spec_beFind.mono_l : ∀ k, (∀ ws m list share cost f cnt, LeO (spec_beFind.seek k ws m list share cost f cnt) (spec_beFind.seek (k + 1) ws m list share cost f cnt)) ∧ (∀ ws m list share cost f cnt l, LeO (spec_beFind.loop k ws m list share cost f cnt l) (spec_beFind.loop (k + 1) ws m list share cost f cnt l))
  | 0 => ⟨fun _ _ _ _ _ _ _ r h => by simp [spec_beFind.seek] at h, fun _ _ _ _ _ _ _ _ r h => by simp [spec_beFind.loop] at h⟩
  | k + 1 => by
    obtain ⟨ih1, ih2⟩ := spec_beFind.mono_l k
    refine ⟨fun ws m list share cost f cnt => ?_, fun ws m list share cost f cnt l => ?_⟩
    · unfold spec_beFind.seek
      exact LeO.ite (LeO.refl _) (LeO.ite (LeO.refl _) (LeO.ite (LeO.ite (LeO.refl _) (ih2 _ _ _ _ _ _ _ _)) (LeO.refl _)))
    · unfold spec_beFind.loop
      exact LeO.ite (LeO.bind (spec_krPower.mono _ _ _) fun p => LeO.bind (ih1 _ _ _ _ _ _ _) fun st => ih2 _ _ _ _ _ _ _ _) (LeO.refl _)
theorem spec_beFind.mono : ∀ a0 a1 k, LeO (spec_beFind.f k a0 a1) (spec_beFind.f (k + 1) a0 a1) := by
  intro a0 a1 k
  unfold spec_beFind.f
  exact LeO.bind (spec_krPower.mono _ _ _) fun p => LeO.bind (spec_beBest.mono _ _ _) fun b => (spec_beFind.mono_l k).1 _ _ _ _ _ _ _
structure BeBox (w0 w : World) (g : Nat) (ws : List Int) (A0 : Option Addr) (c0 : Nat) (m z : Int) (vf : Value) (f : List Int) (cnt : Int) : Prop where
  blk : w.heap[g]? = some (.cells #[.slice A0 ws.length c0, .int .i64 m, .int .i64 z, vf, .int .i64 cnt] 72 (0, 0))
  ge : w0.heap.size ≤ g
  bel : Below w0.heap.size w0 w
  row : Kd.C (Kd.int .i64) w0 A0 ws.length ws
  own : Kd.R (Kd.int .i64) 3 w w0.heap.size (fun k => k ≠ g) vf f
theorem BeBox.below {w0 w w' : World} {g : Nat} {ws : List Int} {A0 : Option Addr} {c0 : Nat} {m z : Int} {vf : Value} {f : List Int} {cnt : Int} (h : BeBox w0 w g ws A0 c0 m z vf f cnt) (hb : Below w.heap.size w w') : BeBox w0 w' g ws A0 c0 m z vf f cnt :=
  ⟨(hb.block g (blk_lt h.blk)).trans h.blk, h.ge, below_step h.bel hb, h.row, Kd.R_below h.own hb⟩
theorem be_cell {w : World} {g : Nat} {cur : Array Value} {t : TypeId} (h : w.heap[g]? = some (.cells cur t (0, 0))) (j : Nat) (v : Value) (hv : cur[j]? = some v) : w.cell? ⟨g, j, none⟩ = some v := (blk_cell h j).trans hv
theorem BeBox.put {w0 w w' : World} {g : Nat} {ws : List Int} {A0 : Option Addr} {c0 : Nat} {m z : Int} {vf vf' : Value} {f f' : List Int} {cnt : Int} (cnt' : Int) (h : BeBox w0 w g ws A0 c0 m z vf f cnt) (hb : Below w.heap.size w w') (hv : Kd.R (Kd.int .i64) 3 w' w0.heap.size (fun k => k ≠ g) vf' f') :
    BeBox w0 ((w'.setCell ⟨g, 3, none⟩ vf').setCell ⟨g, 4, none⟩ (.int .i64 cnt')) g ws A0 c0 m z vf' f' cnt' := by
  have h1 := (h.below hb).blk
  have h2 := blk_set h1 3 vf'
  have h3 := blk_set h2 4 (.int .i64 cnt')
  exact ⟨h3, h.ge, ((h.below hb).bel.setCell (p := ⟨g, 3, none⟩) h.ge _).setCell (p := ⟨g, 4, none⟩) h.ge _, h.row, Kd.R_far (p := ⟨g, 4, none⟩) (Kd.R_far (p := ⟨g, 3, none⟩) hv (fun _ hk => hk) _) (fun _ hk => hk) _⟩
theorem BeBox.count {w0 w : World} {g : Nat} {ws : List Int} {A0 : Option Addr} {c0 : Nat} {m z : Int} {vf : Value} {f : List Int} {cnt : Int} (cnt' : Int) (h : BeBox w0 w g ws A0 c0 m z vf f cnt) :
    BeBox w0 (w.setCell ⟨g, 4, none⟩ (.int .i64 cnt')) g ws A0 c0 m z vf f cnt' := by
  have h3 := blk_set h.blk 4 (.int .i64 cnt')
  exact ⟨h3, h.ge, h.bel.setCell (p := ⟨g, 4, none⟩) h.ge _, h.row, Kd.R_far (p := ⟨g, 4, none⟩) h.own (fun _ hk => hk) _⟩
theorem be_fresh {w w' : World} {M : Option Nat} (hb : Below w.heap.size w w') : w.grownBy w' M := ⟨hb.os, hb.tape, hb.output, hb.size, fun k hk _ => hb.block k hk⟩
theorem be_trans {w w1 w2 : World} {M : Option Nat} (h : w.grownBy w1 M) (k : w1.grownBy w2 M) : w.grownBy w2 M :=
  ⟨k.os.trans h.os, k.tape.trans h.tape, k.output.trans h.output, Nat.le_trans h.size k.size, fun i hi hne => (k.block i (Nat.lt_of_lt_of_le hi h.size) hne).trans (h.block i hi hne)⟩
theorem be_set {w w' : World} {g : Nat} (h : w.grownBy w' (some g)) (j : Nat) (v : Value) : w.grownBy (w'.setCell ⟨g, j, none⟩ v) (some g) :=
  ⟨h.os, h.tape, h.output, by have := h.size; simpa [World.setCell] using this, fun k hk hne => (Below.heap_setCell w' ⟨g, j, none⟩ v k (fun e => hne (by rw [e]))).trans (h.block k hk hne)⟩
theorem be_grow {B : Nat} {w W w1 : World} {v : Value} (h : Below B w W) (hg : W.grownBy w1 v.ownBlock) (hv : ∀ k, v.ownBlock = some k → B ≤ k) (hB : B ≤ W.heap.size) : Below B w w1 :=
  ⟨hg.os.trans h.os, hg.tape.trans h.tape, hg.output.trans h.output, Nat.le_trans h.size hg.size, fun k hk => (hg.block k (by omega) (fun e => by have := hv k e.symm; omega)).trans (h.block k hk)⟩
theorem be_row {w1 : World} {base : Nat} {g cap n : Nat} {xs : List Int} {x : Int} (hn : n = xs.length) (h : w1.ownsRow base 3 1 (.slice (some ⟨g, 0, none⟩) (n + 1) cap) (n + 1) (encs (Value.int .i64) xs ++ [.int .i64 x])) (B : Nat) (hB : B < base) : Kd.R (Kd.int .i64) 3 w1 base (fun k => k ≠ B) (.slice (some ⟨g, 0, none⟩) (n + 1) cap) (xs ++ [x]) := by
  subst hn
  refine Kd.R_of_own (enc := Value.int .i64) (h1 := fun _ => rfl) (by simpa [encs] using h) (fun k hk => ?_)
  rcases h.2 with ⟨h1, -⟩ | ⟨g', cap', cur, h1, h2, -⟩
  · cases h1
  · have e1 : g = g' := by injection h1 with h1; injection h1 with h1; injection h1
    have e2 : g = k := by simpa [Value.ownBlock] using hk
    omega
theorem be_S {w w' : World} {p1 p2 p3 : Addr} {v1 v2 v3 : Value} (h : w.cell? p1 = some v1 ∧ w.cell? p2 = some v2 ∧ w.cell? p3 = some v3) (hb : Below w.heap.size w w') : w'.cell? p1 = some v1 ∧ w'.cell? p2 = some v2 ∧ w'.cell? p3 = some v3 :=
  ⟨(hb.cell (World.block_lt_of_cell? _ _ h.1)).trans h.1, (hb.cell (World.block_lt_of_cell? _ _ h.2.1)).trans h.2.1, (hb.cell (World.block_lt_of_cell? _ _ h.2.2)).trans h.2.2⟩
theorem be_news {w : World} {B : Nat} {x : Value} (h : w.cell? ⟨B, 0, none⟩ = some x) : ∀ j u, [x][j]? = some u → w.cell? ((⟨B, 0, none⟩ : Addr).add j) = some u := by
  intro j u hj
  match j, hj with
  | 0, hj =>
    simp at hj
    subst hj
    simpa [Addr.add] using h
theorem be_late {W w7 : World} {x : Value} {t : TypeId} (hb : Below (W.alloc (.cells #[x] t)).heap.size (W.alloc (.cells #[x] t)) w7) : w7.cell? ⟨W.heap.size, 0, none⟩ = some x :=
  (hb.cell (p := ⟨W.heap.size, 0, none⟩) (by simp)).trans (by simp)
theorem be_late2 {W w7 : World} {x : Value} {t : TypeId} (hb : Below (W.alloc (.cells #[x] t)).drew.heap.size (W.alloc (.cells #[x] t)).drew w7) : w7.cell? ⟨W.heap.size, 0, none⟩ = some x :=
  (hb.cell (p := ⟨W.heap.size, 0, none⟩) (by simp)).trans (show (W.alloc (.cells #[x] t)).cell? ⟨W.heap.size, 0, none⟩ = some x by simp)
set_option maxHeartbeats 8000000 in
set_option maxRecDepth 100000 in
theorem spec_beFind.seek_calls : ∀ (q : Nat) (ws : List Int) (m : Int) (list : List Int) (share cost : Int) (f : List Int) (cnt : Int) (r : List Int × Int) (w0 w : World) (A0 : Option Addr) (c0 : Nat) (z : Int) (vf : Value) (g : Nat) (Al : Option Addr) (cl bl n : Nat),
    BeBox w0 w g ws A0 c0 m z vf f cnt → Kd.R (Kd.int .i64) 3 w bl (fun k => k ≠ g) (.slice Al n cl) list → n = list.length → spec_beFind.seek q ws m list share cost f cnt = some r →
    Calls Tryz.prog 59 #[.pointer (some ⟨g, 0, none⟩), .slice Al n cl, .int .i64 share, .int .i64 cost] w fun e w' => e = .returned (.tuple #[]) ∧ w.grownBy w' (some g) ∧ ∃ vf', BeBox w0 w' g ws A0 c0 m z vf' r.1 r.2 := by
  intro q
  induction q using Nat.strongRecOn with
  | _ q ih =>
    intro ws m list share cost f cnt r w0 w A0 c0 z vf g Al cl bl n hbox hlist hn h
    have BOX := Aside0.mk hbox
    have LIST := Aside0.mk hlist
    have HN := Aside0.mk hn
    cases q with
    | zero => exact absurd h (by simp [spec_beFind.seek])
    | succ q =>
      simp only [spec_beFind.seek] at h
      by_cases c1 : cost < 0
      · rw [if_pos c1] at h
        obtain rfl := Option.some.inj h
        have c1a : decide (cost < 0) = true := decide_eq_true c1
        clear hbox hlist hn h
        go_enter Tryz.func59, Tryz.ntmps59
        go_wp2
        refine bodyPost_ret (results_none rfl _ _ _) rfl ?_
        exact ⟨rfl, be_fresh (Below.refl _ _), vf, BOX.out⟩
      · rw [if_neg c1] at h
        have c1a : decide (cost < 0) = false := decide_eq_false c1
        by_cases c2 : share < 0
        · rw [if_pos c2] at h
          obtain rfl := Option.some.inj h
          have c2a : decide (share < 0) = true := decide_eq_true c2
          clear hbox hlist hn h
          go_enter Tryz.func59, Tryz.ntmps59
          go_wp2
          refine bodyPost_ret (results_none rfl _ _ _) rfl ?_
          exact ⟨rfl, be_fresh (Below.refl _ _), vf, BOX.out⟩
        · rw [if_neg c2] at h
          have c2a : decide (share < 0) = false := decide_eq_false c2
          split at h
          case isFalse => cases h
          rename_i hfit
          have HFIT := Aside0.mk hfit
          have hq0 := be_cell hbox.blk 0 _ rfl
          have hq4 := be_cell hbox.blk 4 _ rfl
          have hq3 := be_cell hbox.blk 3 _ rfl
          have hf3 := blk_frozen hbox.blk 3
          have hf4 := blk_frozen hbox.blk 4
          obtain ⟨hn', hcl, hrd⟩ := Kd.R_reads' hlist
          have HCL := Aside0.mk (show list.length ≤ cl from by omega)
          have HRD := Aside0.mk hrd
          have HL1 := Aside0.mk (show spec_l1Own.f list = some list from by simp only [spec_l1Own.f, Option.bind_some, List.length_nil, Nat.zero_add, List.nil_append]; rw [if_pos (by omega)])
          have hl1 := fun W (hC : Kd.C (Kd.int .i64) W Al list.length list) => spec_l1Own.calls Al cl list list W hC HCL.out HL1.out
          rw [← hn] at hl1
          clear hn' hcl hrd
          by_cases c3 : list.length = ws.length
          · rw [if_pos c3] at h
            have c3a : ((n : Int) = (ws.length : Int)) = True := eq_true (by omega)
            have c3b : decide ((n : Int) = (ws.length : Int)) = true := decide_eq_true (by omega)
            have c3c : ((n : Int) == (ws.length : Int)) = true := beq_iff_eq.2 (by omega)
            by_cases c4 : cost = 0
            · rw [if_pos c4] at h
              have c4c : (cost == 0) = true := beq_iff_eq.2 c4
              by_cases c5 : cnt = 0
              · rw [if_pos c5] at h
                obtain rfl := Option.some.inj h
                subst c5
                clear hbox hlist hn h hfit c3 c4 c1 c2
                go_enter Tryz.func59, Tryz.ntmps59
                go_wp2_with (go_at_call 73; (with_reducible refine (hl1 _ (by rw [HN.out]; exact HRD.out)).mono ?_); rintro e w7 ⟨v7, rfl, ho7, hb7⟩; (obtain ⟨A7, c7, e7⟩ := Kd.R_slice ho7); subst e7; have HB7 := Aside0.mk hb7; have HO7 := Aside0.mk ho7; have hb7f := blk_frozen (BOX.out.below hb7).blk 3; have hb7g := blk_frozen (blk_set (BOX.out.below hb7).blk 3 (.slice A7 list.length c7)) 4; have hb7c := be_cell (BOX.out.below hb7).blk 4 (.int .i64 0) rfl; have hb7h := blk_frozen (BOX.out.below hb7).blk 4; have hb7d := be_cell (BOX.out.below hb7).blk 3 vf rfl; clear ho7 hb7)
                refine bodyPost_ret (results_none rfl _ _ _) rfl ?_
                refine ⟨rfl, be_set (be_set (be_fresh HB7.out) _ _) _ _, .slice A7 list.length c7, ?_⟩
                have e0 : wrap64 (0 + 1) = 1 := by unfold wrap64; omega
                simp only [e0]
                exact BOX.out.put 1 HB7.out (Kd.R_lower (Kd.R_mono (Kd.R_bound HO7.out) (fun k hk => by have h8 := hk.2.1; have h9 := blk_lt BOX.out.blk; omega)) BOX.out.bel.size)
              · rw [if_neg c5] at h
                obtain rfl := Option.some.inj h
                have c5c : (cnt == 0) = false := beq_eq_false_iff_ne.2 c5
                clear hbox hlist hn h hfit c3 c4 c1 c2 c5
                go_enter Tryz.func59, Tryz.ntmps59
                go_wp2
                refine bodyPost_ret (results_none rfl _ _ _) rfl ?_
                exact ⟨rfl, be_set (be_fresh (Below.refl _ _)) _ _, vf, BOX.out.count _⟩
            · rw [if_neg c4] at h
              obtain rfl := Option.some.inj h
              have c4c : (cost == 0) = false := beq_eq_false_iff_ne.2 c4
              clear hbox hlist hn h hfit c3 c4 c1 c2
              go_enter Tryz.func59, Tryz.ntmps59
              go_wp2
              refine bodyPost_ret (results_none rfl _ _ _) rfl ?_
              exact ⟨rfl, be_fresh (Below.refl _ _), vf, BOX.out⟩
          · rw [if_neg c3] at h
            have H' := Aside0.mk h
            have c3a : ((n : Int) = (ws.length : Int)) = False := eq_false (by omega)
            have c3b : decide ((n : Int) = (ws.length : Int)) = false := decide_eq_false (by omega)
            have c3c : ((n : Int) == (ws.length : Int)) = false := beq_eq_false_iff_ne.2 (by omega)
            have c3d : (0 : Int) ≤ (n : Int) := by omega
            have c3e : (n : Int) < (ws.length : Int) := by omega
            obtain ⟨ad, ead, hx⟩ := Kd.at_int hbox.row (n : Int) c3d c3e
            rw [Int.toNat_natCast] at hx
            obtain ⟨x, hxx⟩ : ∃ x, x = rd ws (n : Int) := ⟨_, rfl⟩
            rw [← hxx] at hx
            have HX := Aside0.mk hxx
            have HXC := Aside0.mk hx
            subst ead
            clear hbox hlist hn h hfit c1 c2 c3 hxx hx hf3 hf4 hq4 hq3
            go_enter Tryz.func59, Tryz.ntmps59
            go_wp2
            go_loopg [8] q (fun kq v8 w' => ∃ (l : Nat) (f' : List Int) (cnt' : Int) (vf' : Value), v8 = .int .i64 (l : Int) ∧ Aside0 (l ≤ 12) ∧ Aside0 (spec_beFind.loop kq ws m list share cost f' cnt' l = some r) ∧ Aside0 (kq ≤ q) ∧ Aside0 (w.grownBy w' (some g)) ∧ Aside0 (BeBox w0 w' g ws (some ad) c0 m z vf' f' cnt'))
            case atStart => exact ⟨1, f, cnt, vf, rfl, ⟨by omega⟩, H', ⟨Nat.le_refl _⟩, ⟨be_fresh (Below.refl _ _)⟩, BOX⟩
            case round =>
              clear H' hq0
              obtain ⟨l, f', cnt', vf', rfl, HL, HA, HK1, HG, HBX⟩ := hrel
              cases gk with
              | zero => exact absurd HA.out (by simp [spec_beFind.loop])
              | succ k1 =>
                have H := HA.out
                clear HA
                simp only [spec_beFind.loop] at H
                rw [← HN.out, ← HX.out] at H
                by_cases d1 : l ≤ 11
                · rw [if_pos d1] at H
                  have d1a : decide ((l : Int) ≤ 11) = true := decide_eq_true (by omega)
                  have d1b : decide (l ≤ 11) = true := decide_eq_true d1
                  obtain ⟨p, hp, h1⟩ := Option.bind_eq_some_iff.mp H
                  obtain ⟨st, ht, h2⟩ := Option.bind_eq_some_iff.mp h1
                  have A1 := Aside0.mk hp
                  have H7 := Aside0.mk h2
                  clear H h1 hp h2
                  obtain ⟨S1, hs1⟩ : ∃ y, y = wrap64 (share - p) := ⟨_, rfl⟩
                  obtain ⟨M1, hm1⟩ : ∃ y, y = wrap64 ((l : Int) * x) := ⟨_, rfl⟩
                  rw [← hs1, ← hm1] at ht
                  obtain ⟨C1, hc1⟩ : ∃ y, y = wrap64 (cost - M1) := ⟨_, rfl⟩
                  rw [← hc1] at ht
                  have A2 := Aside0.mk ht
                  have e1 : IntKind.i64.wrap (share - p) = S1 := (Go.IntWalk.i64_left _).trans hs1.symm
                  have e2 : IntKind.i64.wrap ((l : Int) * x) = M1 := (Go.IntWalk.i64_left _).trans hm1.symm
                  have e3 : IntKind.i64.wrap (cost - M1) = C1 := (Go.IntWalk.i64_left _).trans hc1.symm
                  have e4 : IntKind.i64.wrap (11 - (l : Int)) = 11 - (l : Int) := (Go.IntWalk.i64_left _).trans (by unfold wrap64; omega)
                  have D1 := Aside0.mk d1
                  have hkp := fun W => spec_krPower.calls k1 m (11 - (l : Int)) p W A1.out
                  have htry := fun W g8 cap8 (hbx : BeBox w0 W g ws (some ad) c0 m z vf' f' cnt') (hR : Kd.R (Kd.int .i64) 3 W wr.heap.size (fun k => k ≠ g) (.slice (some ⟨g8, 0, none⟩) (n + 1) cap8) (list ++ [(l : Int)])) => ih k1 (by have := HK1.out; omega) ws m (list ++ [(l : Int)]) S1 C1 f' cnt' st w0 W (some ad) c0 z vf' g (some ⟨g8, 0, none⟩) cap8 wr.heap.size (n + 1) hbx hR (by rw [List.length_append, HN.out]; rfl) A2.out
                  clear ht d1 hs1 hm1 hc1
                  have HSR := Aside0.mk (show wr.cell? ⟨g, 0, none⟩ = some (.slice (some ad) ws.length c0) ∧ wr.cell? ⟨g, 1, none⟩ = some (.int .i64 m) ∧ wr.cell? (ad.add n) = some (.int .i64 x) from ⟨be_cell HBX.out.blk 0 _ rfl, be_cell HBX.out.blk 1 _ rfl, (HBX.out.bel.cell (World.block_lt_of_cell? _ _ HXC.out)).trans HXC.out⟩)
                  have HLR := Aside0.mk (Kd.R_grown LIST.out HG.out (fun k hk e => hk (by injection e)))
                  have HCR := Aside0.mk (show Kd.C (Kd.int .i64) wr Al n list from by have h9 := (Kd.R_reads' HLR.out).2.2; rwa [← HN.out] at h9)
                  have HGL := Aside0.mk (blk_lt HBX.out.blk)
                  have HLN := Aside0.mk (show n ≤ 1000 from by have h8 := HFIT.out; have h9 := HN.out; omega)
                  obtain ⟨i0, hi, hz0, hz1, hz2⟩ := info_parts infoInt
                  have HI := Aside0.mk hi
                  have HZ0 := Aside0.mk hz0
                  have HZ1 := Aside0.mk hz1
                  have HZ2 := Aside0.mk hz2
                  have e5 : Aside0 (wrap64 ((l : Int) + 1) = ((l + 1 : Nat) : Int)) := ⟨by unfold wrap64; have := D1.out; omega⟩
                  clear hi hz0 hz1 hz2
                  go_upto_region 9 with fail
                  go_region_held3 (fun w' => w'.cell? ⟨g, 0, none⟩ = some (.slice (some ad) ws.length c0) ∧ w'.cell? ⟨g, 1, none⟩ = some (.int .i64 m) ∧ w'.cell? (ad.add n) = some (.int .i64 x))
                    (first | exact HS10.out | exact be_S HSR.out HB9.out | exact be_S HSR.out HB8.out | exact be_S HSR.out HB7.out | exact be_S HSR.out (below_alloc HB7.out _) | exact be_S HSR.out (below_drew (Below.refl _ _)) | exact be_S HSR.out (below_alloc (below_drew (Below.refl _ _)) _))
                    (first
                      | (go_at_call 73; (with_reducible refine (hl1 _ ?hC).mono ?_); (case hC => first | exact Kd.C_drew HCR.out | exact Kd.C_alloc (Kd.C_drew HCR.out) _); rintro e w7 ⟨v7, rfl, ho7, hb7⟩; (obtain ⟨A7, c7, e7⟩ := Kd.R_slice ho7); rw [← HN.out] at e7; subst e7; have HX7 := Aside0.mk hb7; have HB7 := Aside0.mk (show Below wr.heap.size wr w7 from by first | exact below_step (below_drew (Below.refl _ _)) hb7 | exact below_step (below_alloc (below_drew (Below.refl _ _)) _) hb7); have HO7 := Aside0.mk (Kd.R_lower (base' := wr.heap.size) ho7 (by first | exact Nat.le_refl _ | simp)); clear ho7 hb7)
                      | (go_at_call 60; (with_reducible refine (hkp _).mono ?_); rintro e w9 ⟨rfl, hb9⟩; have HB9 := Aside0.mk (below_step HB8.out (Drawn0.below hb9)); have HR9 := Aside0.mk (Kd.R_below HR8.out (Drawn0.below hb9)); clear hb9)
                      | (go_at_call 59; (with_reducible refine (htry _ _ _ (HBX.out.below HB9.out) HR9.out).mono ?_); rintro e w10 ⟨rfl, hg10, vf10, hbx10⟩; have HG10 := Aside0.mk hg10; have HBX10 := Aside0.mk hbx10; have HS10 := Aside0.mk (show w10.cell? ⟨g, 0, none⟩ = some (.slice (some ad) ws.length c0) ∧ w10.cell? ⟨g, 1, none⟩ = some (.int .i64 m) ∧ w10.cell? (ad.add n) = some (.int .i64 x) from ⟨be_cell hbx10.blk 0 _ rfl, be_cell hbx10.blk 1 _ rfl, (hbx10.bel.cell (World.block_lt_of_cell? _ _ HXC.out)).trans HXC.out⟩); clear hg10 hbx10)
                      | (refine step_append_lies _ rfl (.tmp 48) (.tmp 50) 24 rfl wr.heap.size 3 i0 (.int .i64 0) 1 8 Tryz.underlying24 HI.out HZ0.out HZ1.out HZ2.out rfl (by decide) (.slice A7 n c7) n (encs (Value.int .i64) list) (by rfl) ?hown _ 1 1 [.int .i64 (l : Int)] (by rfl) rfl ?hnews (by simp [Value.oneCell']) (by decide) (by have := HLN.out; unfold maxLen; omega) (by have := HLN.out; omega) ?hbase _ rfl ?_; (case hown => first | (have h9 := Kd.own_of_R HO7.out; rwa [← HN.out] at h9) | (have h9 := Kd.own_of_R (Kd.R_alloc HO7.out (.cells #[.int .i64 (l : Int)] 3)); rwa [← HN.out] at h9)); (case hnews => first | exact cell_one_new _ _ _ | exact be_news (be_late HX7.out) | exact be_news (be_late2 HX7.out)); (case hbase => first | exact HB7.out.size | exact (below_alloc HB7.out (.cells #[.int .i64 (l : Int)] 3)).size); intro g8 cap8 w8 hown8 hgrow8 hat8 hlt8; have HB8 := Aside0.mk (show Below wr.heap.size wr w8 from by first | exact be_grow HB7.out hgrow8 (Kd.R_base HO7.out) HB7.out.size | exact be_grow (below_alloc HB7.out (.cells #[.int .i64 (l : Int)] 3)) hgrow8 (Kd.R_base HO7.out) (below_alloc HB7.out (.cells #[.int .i64 (l : Int)] 3)).size); have HR8 := Aside0.mk (be_row HN.out hown8 g HGL.out); clear hown8 hgrow8 hat8 hlt8))
                  all_goals
                    clear e1 e2 e3 e4
                    go_wp2
                    go_roundg k1
                    case measure => omega
                    case rel => exact ⟨l + 1, st.1, st.2, vf10, by rw [e5.out], ⟨by have := D1.out; omega⟩, H7, ⟨by have := HK1.out; omega⟩, ⟨be_trans (be_trans HG.out (be_fresh HB9.out)) HG10.out⟩, HBX10⟩
                · rw [if_neg d1] at H
                  have d1a : decide ((l : Int) ≤ 11) = false := decide_eq_false (by omega)
                  have d1b : decide (l ≤ 11) = false := decide_eq_false d1
                  obtain rfl := Option.some.inj H
                  clear H d1
                  go_wp2
                  refine bodyPost_end (results_none rfl _ _ _) rfl ?_
                  exact ⟨rfl, HG.out, vf', HBX.out⟩
set_option maxHeartbeats 8000000 in
set_option maxRecDepth 100000 in
theorem spec_beFind.calls (k : Nat) (A0 : Option Addr) (c0 : Nat) (l0 : List Int) (a1 : Int) (r1 : List Int) (r2 : Int) (w : World) (hr0 : Kd.C (Kd.int .i64) w A0 l0.length l0) (hc0 : l0.length ≤ c0) (h : spec_beFind.f k l0 a1 = some (r1, r2)) :
    Calls Tryz.prog 31 #[.slice A0 l0.length c0, .int .i64 a1] w fun e w' => ∃ v0_ : Value, e = .returned (.tuple #[v0_, .int .i64 r2]) ∧ Kd.R (Kd.int .i64) 3 w' w.heap.size (fun _ => True) v0_ r1 ∧ Below w.heap.size w w' := by
  unfold spec_beFind.f at h
  obtain ⟨p, hp, h1⟩ := Option.bind_eq_some_iff.mp h
  obtain ⟨b, hb, h2⟩ := Option.bind_eq_some_iff.mp h1
  have A1 := Aside0.mk hp
  have A2 := Aside0.mk hb
  have A3 := Aside0.mk h2
  have HR0 := Aside0.mk hr0
  have HC0 := Aside0.mk hc0
  clear h h1 hp hb h2 hr0 hc0
  have HB0 := Aside0.mk (below_alloc (Below.refl w.heap.size w) (.cells #[.slice A0 l0.length c0, .int .i64 a1, .int .i64 0, .slice none 0 0, .int .i64 0] 72))
  have HBX := Aside0.mk (show BeBox w (w.alloc (.cells #[.slice A0 l0.length c0, .int .i64 a1, .int .i64 0, .slice none 0 0, .int .i64 0] 72)) w.heap.size l0 A0 c0 a1 0 (.slice none 0 0) [] 0 from ⟨by unfold World.alloc; simp, Nat.le_refl _, HB0.out, HR0.out, Kd.R_nil _ _ _ _ _⟩)
  go_enter Tryz.func31, Tryz.ntmps31
  go_wp2_with (first
    | (go_at_call 60; (with_reducible refine (spec_krPower.calls k a1 11 p _ A1.out).mono ?_); rintro e w7 ⟨rfl, hb7⟩; have HB7 := Aside0.mk (Drawn0.below hb7); clear hb7)
    | (go_at_call 34; (with_reducible refine (spec_beBest.calls k A0 c0 l0 a1 b _ (Kd.C_below HR0.out (below_step HB0.out HB7.out)) HC0.out A2.out).mono ?_); rintro e w8 ⟨rfl, hb8⟩; have HB8 := Aside0.mk (below_then HB7.out HB7.out.size hb8); clear hb8)
    | (go_at_call 59; (with_reducible refine (spec_beFind.seek_calls k l0 a1 [] p b [] 0 (r1, r2) w _ A0 c0 0 (.slice none 0 0) w.heap.size none 0 0 0 (HBX.out.below HB8.out) (Kd.R_nil _ _ _ _ _) rfl A3.out).mono ?_); rintro e w10 ⟨rfl, hg10, vf10, hbx10⟩; have HBX10 := Aside0.mk hbx10; have hs3 := be_cell hbx10.blk 3 _ rfl; have hs4 := be_cell hbx10.blk 4 _ rfl; clear hg10 hbx10))
  go_quiet (fail)
  go_wp2
  go_ret2
  exact ⟨_, rfl, Kd.R_drewN (Kd.R_mono HBX10.out.own (fun _ _ => trivial)) _, pw_below_drewN HBX10.out.bel _⟩
def spec_FirstBest.f (k : Nat) (l0 : List Int) (a1 : Int) : Option (List Int × Bool) := (spec_beAsked.f k l0 a1).bind fun t249 => (if t249 = true then (if (l0.length : Int) > 6 then (some (([] : List Int), false)) else ((spec_beFind.f k l0 a1).bind fun bt250 => (some (bt250.1, true)))) else (some (([] : List Int), false)))
theorem spec_FirstBest.mono : ∀ a0 a1 k, LeO (spec_FirstBest.f k a0 a1) (spec_FirstBest.f (k + 1) a0 a1) := by
  intro a0 a1 k
  unfold spec_FirstBest.f
  repeat' first
      | (with_reducible exact spec_beAsked.mono _ _ _)
      | (with_reducible exact spec_beFind.mono _ _ _)
      | (with_reducible exact LeO.refl _)
      | (with_reducible exact LeO.none _)
      | (with_reducible refine LeO.ite ?_ ?_)
      | (with_reducible refine LeO.bind ?_ (fun _ => ?_))
      | exact spec_beAsked.mono _ _ _
      | exact spec_beFind.mono _ _ _
      | exact LeO.none _
      | refine LeO.ite ?_ ?_
      | refine LeO.bind ?_ (fun _ => ?_)
set_option maxHeartbeats 8000000 in
set_option maxRecDepth 100000 in
theorem spec_FirstBest.calls (k : Nat) (A0 : Option Addr) (c0 : Nat) (l0 : List Int) (a1 : Int) (r1 : List Int) (r2 : Bool) (w : World) (hr0 : Kd.C (Kd.int .i64) w A0 l0.length l0) (hc0 : l0.length ≤ c0) (h : spec_FirstBest.f k l0 a1 = some (r1, r2)) :
    Calls Tryz.prog 7 #[.slice A0 l0.length c0, .int .i64 a1] w fun e w' => ∃ v0_ : Value, e = .returned (.tuple #[v0_, .bool r2]) ∧ Kd.R (Kd.int .i64) 3 w' w.heap.size (fun _ => True) v0_ r1 ∧ Below w.heap.size w w' := by
  have HR0 := Aside0.mk hr0
  have HC0 := Aside0.mk hc0
  clear hr0 hc0
  have HB := Aside0.mk (Below.refl w.heap.size w)
  have H : ((spec_beAsked.f k l0 a1).bind fun t249 => (if t249 = true then (if (l0.length : Int) > 6 then (some (([] : List Int), false)) else ((spec_beFind.f k l0 a1).bind fun bt250 => (some (bt250.1, true)))) else (some (([] : List Int), false)))) = some (r1, r2) := h
  clear h
  replace H := Option.bind_eq_some_iff.mp H
  obtain ⟨t249, A30, H⟩ := H
  replace H : (if t249 = true then (if (l0.length : Int) > 6 then (some (([] : List Int), false)) else ((spec_beFind.f k l0 a1).bind fun bt250 => (some (bt250.1, true)))) else (some (([] : List Int), false))) = some (r1, r2) := H
  have A3 := Aside0.mk A30
  clear A30
  by_cases c4 : t249 = true
  · subst c4
    have H1 : (if (l0.length : Int) > 6 then (some (([] : List Int), false)) else ((spec_beFind.f k l0 a1).bind fun bt250 => (some (bt250.1, true)))) = some (r1, r2) := by rw [if_pos rfl] at H; exact H
    clear H
    have H := H1
    clear H1
    by_cases c5 : (l0.length : Int) > 6
    · rw [if_pos c5] at H
      have c5b0 : decide (6 < (l0.length : Int)) = true := decide_eq_true c5
      have c5b1 : decide (6 < l0.length) = true := decide_eq_true (by omega)
      clear c5
      simp only [Option.some.injEq, Prod.mk.injEq] at H
      obtain ⟨rfl, rfl⟩ := H
      go_enter Tryz.func7, Tryz.ntmps7
      go_wp2_with (first | ((with_reducible refine gate_callee (f := 30) rfl ?_); refine goesL_ (some 10) rfl rfl Tryz.func30 (by kernel_rfl) rfl #[.slice A0 l0.length c0, .int .i64 a1] rfl (by (try simp only [List.map_toArray, List.map_cons, List.map_nil]); first | done | rfl | (simp only [List.length_drop, List.length_take]; rfl)) ?_; (with_reducible refine (spec_beAsked.calls k _ _ l0 a1 true _ ?side1 ?side2 A3.out).mono ?_); (case side1 => repeat (first | exact HR0.out | (with_reducible refine Kd.C_alloc ?_ _) | (with_reducible refine Kd.C_drewN ?_ _) | (with_reducible refine Kd.C_drew ?_))); (case side2 => exact HC0.out); rintro e w' ⟨rfl, ⟨nd, rfl⟩⟩; refine ⟨_, rfl, ?_⟩))
      go_ret2
      exact ⟨_, by first | rfl | (simp [errW_none, errW_some] <;> rfl) | (simp [*, errW_none, errW_some] <;> rfl), by first | exact Kd.R_nil _ _ _ _ _ | exact Kd.N_nil _ _ _ _ _ | exact Kd.V_nil _ _ _ _ _ | exact Kd.Q_nil _ _ _ _ _ | exact Kd.S_nil _ _ _ _ _, by repeat (first | (with_reducible first | exact HB.out | apply below_alloc | apply pw_below_drewN | apply below_drew1) | exact HB.out)⟩
    · rw [if_neg c5] at H
      have c5b0 : decide (6 < (l0.length : Int)) = false := decide_eq_false c5
      have c5b1 : decide (6 < l0.length) = false := decide_eq_false (by omega)
      clear c5
      replace H := Option.bind_eq_some_iff.mp H
      obtain ⟨⟨t250, t251⟩, A60, H⟩ := H
      replace H : (some (t250, true)) = some (r1, r2) := H
      have A6 := Aside0.mk A60
      clear A60
      simp only [Option.some.injEq, Prod.mk.injEq] at H
      obtain ⟨rfl, rfl⟩ := H
      go_enter Tryz.func7, Tryz.ntmps7
      go_wp2_with (first | ((with_reducible refine gate_callee (f := 30) rfl ?_); refine goesL_ (some 10) rfl rfl Tryz.func30 (by kernel_rfl) rfl #[.slice A0 l0.length c0, .int .i64 a1] rfl (by (try simp only [List.map_toArray, List.map_cons, List.map_nil]); first | done | rfl | (simp only [List.length_drop, List.length_take]; rfl)) ?_; (with_reducible refine (spec_beAsked.calls k _ _ l0 a1 true _ ?side1 ?side2 A3.out).mono ?_); (case side1 => repeat (first | exact HR0.out | (with_reducible refine Kd.C_alloc ?_ _) | (with_reducible refine Kd.C_drewN ?_ _) | (with_reducible refine Kd.C_drew ?_))); (case side2 => exact HC0.out); rintro e w' ⟨rfl, ⟨nd, rfl⟩⟩; refine ⟨_, rfl, ?_⟩) | ((with_reducible refine gate_callee (f := 31) rfl ?_); refine goesL_ (some 20) rfl rfl Tryz.func31 (by kernel_rfl) rfl #[.slice A0 l0.length c0, .int .i64 a1] rfl (by (try simp only [List.map_toArray, List.map_cons, List.map_nil]); first | done | rfl | (simp only [List.length_drop, List.length_take]; rfl)) ?_; (with_reducible refine (spec_beFind.calls k _ _ l0 a1 t250 t251 _ ?side1 ?side2 A6.out).mono ?_); (case side1 => repeat (first | exact HR0.out | (with_reducible refine Kd.C_alloc ?_ _) | (with_reducible refine Kd.C_drewN ?_ _) | (with_reducible refine Kd.C_drew ?_))); (case side2 => exact HC0.out); rintro e w7 ⟨v252, rfl, ho0, hb⟩; refine ⟨_, rfl, ?_⟩; have n0_ := Aside0.mk (Kd.R_lower ho0 (below_size (by repeat (first | (with_reducible first | exact HB.out | apply below_alloc | apply pw_below_drewN | apply below_drew1) | exact HB.out)))); have n1_ := Aside0.mk (below_step (by repeat (first | (with_reducible first | exact HB.out | apply below_alloc | apply pw_below_drewN | apply below_drew1) | exact HB.out)) hb); clear HB; have HO253 := n0_; have HB := n1_; clear n0_ n1_; (try clear hb); (try clear hb2); (try clear hk); (try clear hi); (try clear ho0)))
      go_ret2
      exact ⟨_, by first | rfl | (simp [errW_none, errW_some] <;> rfl) | (simp [*, errW_none, errW_some] <;> rfl), by (with_reducible repeat (first | apply Kd.R_alloc | apply Kd.R_drewN | apply Kd.R_drew)); exact HO253.out, by repeat (first | (with_reducible first | exact HB.out | apply below_alloc | apply pw_below_drewN | apply below_drew1) | exact HB.out)⟩
  · replace c4 := Bool.eq_false_iff.mpr c4
    subst c4
    have H1 : (some (([] : List Int), false)) = some (r1, r2) := by rw [if_neg (show ¬ (false = true) by decide)] at H; exact H
    clear H
    have H := H1
    clear H1
    simp only [Option.some.injEq, Prod.mk.injEq] at H
    obtain ⟨rfl, rfl⟩ := H
    go_enter Tryz.func7, Tryz.ntmps7
    go_wp2_with (first | ((with_reducible refine gate_callee (f := 30) rfl ?_); refine goesL_ (some 10) rfl rfl Tryz.func30 (by kernel_rfl) rfl #[.slice A0 l0.length c0, .int .i64 a1] rfl (by (try simp only [List.map_toArray, List.map_cons, List.map_nil]); first | done | rfl | (simp only [List.length_drop, List.length_take]; rfl)) ?_; (with_reducible refine (spec_beAsked.calls k _ _ l0 a1 false _ ?side1 ?side2 A3.out).mono ?_); (case side1 => repeat (first | exact HR0.out | (with_reducible refine Kd.C_alloc ?_ _) | (with_reducible refine Kd.C_drewN ?_ _) | (with_reducible refine Kd.C_drew ?_))); (case side2 => exact HC0.out); rintro e w' ⟨rfl, ⟨nd, rfl⟩⟩; refine ⟨_, rfl, ?_⟩))
    go_ret2
    exact ⟨_, by first | rfl | (simp [errW_none, errW_some] <;> rfl) | (simp [*, errW_none, errW_some] <;> rfl), by first | exact Kd.R_nil _ _ _ _ _ | exact Kd.N_nil _ _ _ _ _ | exact Kd.V_nil _ _ _ _ _ | exact Kd.Q_nil _ _ _ _ _ | exact Kd.S_nil _ _ _ _ _, by repeat (first | (with_reducible first | exact HB.out | apply below_alloc | apply pw_below_drewN | apply below_drew1) | exact HB.out)⟩
def impl_CountBest.f (k : Nat) (l0 : List Int) (a1 : Int) : Option (Int × Bool) := (impl_isSearched.f k l0).bind fun t254 => (if t254 = true then ((impl_areLetters.f a1).bind fun t255 => (if t255 = true then ((impl_allBest.f k l0 a1).bind fun t256 => (some ((t256.length : Int), true))) else (some (0, false)))) else (some (0, false)))
theorem impl_CountBest.mono : ∀ a0 a1 k, LeO (impl_CountBest.f k a0 a1) (impl_CountBest.f (k + 1) a0 a1) := by
  intro a0 a1 k
  unfold impl_CountBest.f
  repeat' first
      | (with_reducible exact impl_allBest.mono _ _ _)
      | (with_reducible exact impl_isSearched.mono _ _)
      | (with_reducible exact LeO.refl _)
      | (with_reducible exact LeO.none _)
      | (with_reducible refine LeO.ite ?_ ?_)
      | (with_reducible refine LeO.bind ?_ (fun _ => ?_))
      | exact impl_allBest.mono _ _ _
      | exact impl_isSearched.mono _ _
      | exact LeO.none _
      | refine LeO.ite ?_ ?_
      | refine LeO.bind ?_ (fun _ => ?_)
set_option maxHeartbeats 8000000 in
set_option maxRecDepth 100000 in
theorem impl_CountBest.calls (k : Nat) (A0 : Option Addr) (c0 : Nat) (l0 : List Int) (a1 : Int) (r1 : Int) (r2 : Bool) (w : World) (hr0 : Kd.C (Kd.int .i64) w A0 l0.length l0) (hc0 : l0.length ≤ c0) (h : impl_CountBest.f k l0 a1 = some (r1, r2)) :
    Calls Tryz.prog 8 #[.slice A0 l0.length c0, .int .i64 a1] w fun e w' => e = .returned (.tuple #[.int .i64 r1, .bool r2]) ∧ Below w.heap.size w w' := by
  have HR0 := Aside0.mk hr0
  have HC0 := Aside0.mk hc0
  clear hr0 hc0
  have HB := Aside0.mk (Below.refl w.heap.size w)
  have H : ((impl_isSearched.f k l0).bind fun t254 => (if t254 = true then ((impl_areLetters.f a1).bind fun t255 => (if t255 = true then ((impl_allBest.f k l0 a1).bind fun t256 => (some ((t256.length : Int), true))) else (some (0, false)))) else (some (0, false)))) = some (r1, r2) := h
  clear h
  replace H := Option.bind_eq_some_iff.mp H
  obtain ⟨t254, A30, H⟩ := H
  replace H : (if t254 = true then ((impl_areLetters.f a1).bind fun t255 => (if t255 = true then ((impl_allBest.f k l0 a1).bind fun t256 => (some ((t256.length : Int), true))) else (some (0, false)))) else (some (0, false))) = some (r1, r2) := H
  have A3 := Aside0.mk A30
  clear A30
  by_cases c4 : t254 = true
  · subst c4
    have H1 : ((impl_areLetters.f a1).bind fun t255 => (if t255 = true then ((impl_allBest.f k l0 a1).bind fun t256 => (some ((t256.length : Int), true))) else (some (0, false)))) = some (r1, r2) := by rw [if_pos rfl] at H; exact H
    clear H
    have H := H1
    clear H1
    replace H := Option.bind_eq_some_iff.mp H
    obtain ⟨t255, A50, H⟩ := H
    replace H : (if t255 = true then ((impl_allBest.f k l0 a1).bind fun t256 => (some ((t256.length : Int), true))) else (some (0, false))) = some (r1, r2) := H
    have A5 := Aside0.mk A50
    clear A50
    by_cases c6 : t255 = true
    · subst c6
      have H1 : ((impl_allBest.f k l0 a1).bind fun t256 => (some ((t256.length : Int), true))) = some (r1, r2) := by rw [if_pos rfl] at H; exact H
      clear H
      have H := H1
      clear H1
      replace H := Option.bind_eq_some_iff.mp H
      obtain ⟨t256, A70, H⟩ := H
      replace H : (some ((t256.length : Int), true)) = some (r1, r2) := H
      have A7 := Aside0.mk A70
      clear A70
      simp only [Option.some.injEq, Prod.mk.injEq] at H
      obtain ⟨rfl, rfl⟩ := H
      go_enter Tryz.func8, Tryz.ntmps8
      go_wp2_with (first | ((with_reducible refine gate_callee (f := 27) rfl ?_); refine goesL_ (some 7) rfl rfl Tryz.func27 (by kernel_rfl) rfl #[.slice A0 l0.length c0] rfl (by (try simp only [List.map_toArray, List.map_cons, List.map_nil]); first | done | rfl | (simp only [List.length_drop, List.length_take]; rfl)) ?_; (with_reducible refine (impl_isSearched.calls k _ _ l0 true _ ?side1 ?side2 A3.out).mono ?_); (case side1 => repeat (first | exact HR0.out | (with_reducible refine Kd.C_alloc ?_ _) | (with_reducible refine Kd.C_drewN ?_ _) | (with_reducible refine Kd.C_drew ?_))); (case side2 => exact HC0.out); rintro e w' ⟨rfl, ⟨nd, rfl⟩⟩; refine ⟨_, rfl, ?_⟩) | (go_at_call 28; (with_reducible refine (impl_areLetters.calls a1 true _ A5.out).mono ?_); rintro e w' ⟨rfl, ⟨nd, rfl⟩⟩) | ((with_reducible refine gate_callee (f := 29) rfl ?_); refine goesL_ (some 16) rfl rfl Tryz.func29 (by kernel_rfl) rfl #[.slice A0 l0.length c0, .int .i64 a1] rfl (by (try simp only [List.map_toArray, List.map_cons, List.map_nil]); first | done | rfl | (simp only [List.length_drop, List.length_take]; rfl)) ?_; (with_reducible refine (impl_allBest.calls k _ _ l0 a1 t256 _ ?side1 ?side2 A7.out).mono ?_); (case side1 => repeat (first | exact HR0.out | (with_reducible refine Kd.C_alloc ?_ _) | (with_reducible refine Kd.C_drewN ?_ _) | (with_reducible refine Kd.C_drew ?_))); (case side2 => exact HC0.out); rintro e w8 ⟨v257, rfl, ho0, hb⟩; refine ⟨_, rfl, ?_⟩; have n0_ := Aside0.mk (Kd.S_lower ho0 (below_size (by repeat (first | (with_reducible first | exact HB.out | apply below_alloc | apply pw_below_drewN | apply below_drew1) | exact HB.out)))); have n1_ := Aside0.mk (below_step (by repeat (first | (with_reducible first | exact HB.out | apply below_alloc | apply pw_below_drewN | apply below_drew1) | exact HB.out)) hb); clear HB; have HO258 := n0_; have HB := n1_; clear n0_ n1_; (try clear hb); (try clear hb2); (try clear hk); (try clear hi); (try clear ho0); obtain ⟨Ao9, co9, eo9⟩ := Kd.S_slice HO258.out; subst eo9))
      go_ret2
      exact ⟨by first | rfl | (simp [errW_none, errW_some] <;> rfl) | (simp [*, errW_none, errW_some] <;> rfl), by repeat (first | (with_reducible first | exact HB.out | apply below_alloc | apply pw_below_drewN | apply below_drew1) | exact HB.out)⟩
    · replace c6 := Bool.eq_false_iff.mpr c6
      subst c6
      have H1 : (some (0, false)) = some (r1, r2) := by rw [if_neg (show ¬ (false = true) by decide)] at H; exact H
      clear H
      have H := H1
      clear H1
      simp only [Option.some.injEq, Prod.mk.injEq] at H
      obtain ⟨rfl, rfl⟩ := H
      go_enter Tryz.func8, Tryz.ntmps8
      go_wp2_with (first | ((with_reducible refine gate_callee (f := 27) rfl ?_); refine goesL_ (some 7) rfl rfl Tryz.func27 (by kernel_rfl) rfl #[.slice A0 l0.length c0] rfl (by (try simp only [List.map_toArray, List.map_cons, List.map_nil]); first | done | rfl | (simp only [List.length_drop, List.length_take]; rfl)) ?_; (with_reducible refine (impl_isSearched.calls k _ _ l0 true _ ?side1 ?side2 A3.out).mono ?_); (case side1 => repeat (first | exact HR0.out | (with_reducible refine Kd.C_alloc ?_ _) | (with_reducible refine Kd.C_drewN ?_ _) | (with_reducible refine Kd.C_drew ?_))); (case side2 => exact HC0.out); rintro e w' ⟨rfl, ⟨nd, rfl⟩⟩; refine ⟨_, rfl, ?_⟩) | (go_at_call 28; (with_reducible refine (impl_areLetters.calls a1 false _ A5.out).mono ?_); rintro e w' ⟨rfl, ⟨nd, rfl⟩⟩))
      go_ret2
      exact ⟨by first | rfl | (simp [errW_none, errW_some] <;> rfl) | (simp [*, errW_none, errW_some] <;> rfl), by repeat (first | (with_reducible first | exact HB.out | apply below_alloc | apply pw_below_drewN | apply below_drew1) | exact HB.out)⟩
  · replace c4 := Bool.eq_false_iff.mpr c4
    subst c4
    have H1 : (some (0, false)) = some (r1, r2) := by rw [if_neg (show ¬ (false = true) by decide)] at H; exact H
    clear H
    have H := H1
    clear H1
    simp only [Option.some.injEq, Prod.mk.injEq] at H
    obtain ⟨rfl, rfl⟩ := H
    go_enter Tryz.func8, Tryz.ntmps8
    go_wp2_with (first | ((with_reducible refine gate_callee (f := 27) rfl ?_); refine goesL_ (some 7) rfl rfl Tryz.func27 (by kernel_rfl) rfl #[.slice A0 l0.length c0] rfl (by (try simp only [List.map_toArray, List.map_cons, List.map_nil]); first | done | rfl | (simp only [List.length_drop, List.length_take]; rfl)) ?_; (with_reducible refine (impl_isSearched.calls k _ _ l0 false _ ?side1 ?side2 A3.out).mono ?_); (case side1 => repeat (first | exact HR0.out | (with_reducible refine Kd.C_alloc ?_ _) | (with_reducible refine Kd.C_drewN ?_ _) | (with_reducible refine Kd.C_drew ?_))); (case side2 => exact HC0.out); rintro e w' ⟨rfl, ⟨nd, rfl⟩⟩; refine ⟨_, rfl, ?_⟩))
    go_ret2
    exact ⟨by first | rfl | (simp [errW_none, errW_some] <;> rfl) | (simp [*, errW_none, errW_some] <;> rfl), by repeat (first | (with_reducible first | exact HB.out | apply below_alloc | apply pw_below_drewN | apply below_drew1) | exact HB.out)⟩
def spec_CountBest.f (k : Nat) (l0 : List Int) (a1 : Int) : Option (Int × Bool) := (spec_beAsked.f k l0 a1).bind fun t259 => (if t259 = true then (if (l0.length : Int) > 6 then (some (0, false)) else ((spec_beFind.f k l0 a1).bind fun bt260 => (some (bt260.2, true)))) else (some (0, false)))
theorem spec_CountBest.mono : ∀ a0 a1 k, LeO (spec_CountBest.f k a0 a1) (spec_CountBest.f (k + 1) a0 a1) := by
  intro a0 a1 k
  unfold spec_CountBest.f
  repeat' first
      | (with_reducible exact spec_beAsked.mono _ _ _)
      | (with_reducible exact spec_beFind.mono _ _ _)
      | (with_reducible exact LeO.refl _)
      | (with_reducible exact LeO.none _)
      | (with_reducible refine LeO.ite ?_ ?_)
      | (with_reducible refine LeO.bind ?_ (fun _ => ?_))
      | exact spec_beAsked.mono _ _ _
      | exact spec_beFind.mono _ _ _
      | exact LeO.none _
      | refine LeO.ite ?_ ?_
      | refine LeO.bind ?_ (fun _ => ?_)
set_option maxHeartbeats 8000000 in
set_option maxRecDepth 100000 in
theorem spec_CountBest.calls (k : Nat) (A0 : Option Addr) (c0 : Nat) (l0 : List Int) (a1 : Int) (r1 : Int) (r2 : Bool) (w : World) (hr0 : Kd.C (Kd.int .i64) w A0 l0.length l0) (hc0 : l0.length ≤ c0) (h : spec_CountBest.f k l0 a1 = some (r1, r2)) :
    Calls Tryz.prog 9 #[.slice A0 l0.length c0, .int .i64 a1] w fun e w' => e = .returned (.tuple #[.int .i64 r1, .bool r2]) ∧ Below w.heap.size w w' := by
  have HR0 := Aside0.mk hr0
  have HC0 := Aside0.mk hc0
  clear hr0 hc0
  have HB := Aside0.mk (Below.refl w.heap.size w)
  have H : ((spec_beAsked.f k l0 a1).bind fun t259 => (if t259 = true then (if (l0.length : Int) > 6 then (some (0, false)) else ((spec_beFind.f k l0 a1).bind fun bt260 => (some (bt260.2, true)))) else (some (0, false)))) = some (r1, r2) := h
  clear h
  replace H := Option.bind_eq_some_iff.mp H
  obtain ⟨t259, A30, H⟩ := H
  replace H : (if t259 = true then (if (l0.length : Int) > 6 then (some (0, false)) else ((spec_beFind.f k l0 a1).bind fun bt260 => (some (bt260.2, true)))) else (some (0, false))) = some (r1, r2) := H
  have A3 := Aside0.mk A30
  clear A30
  by_cases c4 : t259 = true
  · subst c4
    have H1 : (if (l0.length : Int) > 6 then (some (0, false)) else ((spec_beFind.f k l0 a1).bind fun bt260 => (some (bt260.2, true)))) = some (r1, r2) := by rw [if_pos rfl] at H; exact H
    clear H
    have H := H1
    clear H1
    by_cases c5 : (l0.length : Int) > 6
    · rw [if_pos c5] at H
      have c5b0 : decide (6 < (l0.length : Int)) = true := decide_eq_true c5
      have c5b1 : decide (6 < l0.length) = true := decide_eq_true (by omega)
      clear c5
      simp only [Option.some.injEq, Prod.mk.injEq] at H
      obtain ⟨rfl, rfl⟩ := H
      go_enter Tryz.func9, Tryz.ntmps9
      go_wp2_with (first | ((with_reducible refine gate_callee (f := 30) rfl ?_); refine goesL_ (some 10) rfl rfl Tryz.func30 (by kernel_rfl) rfl #[.slice A0 l0.length c0, .int .i64 a1] rfl (by (try simp only [List.map_toArray, List.map_cons, List.map_nil]); first | done | rfl | (simp only [List.length_drop, List.length_take]; rfl)) ?_; (with_reducible refine (spec_beAsked.calls k _ _ l0 a1 true _ ?side1 ?side2 A3.out).mono ?_); (case side1 => repeat (first | exact HR0.out | (with_reducible refine Kd.C_alloc ?_ _) | (with_reducible refine Kd.C_drewN ?_ _) | (with_reducible refine Kd.C_drew ?_))); (case side2 => exact HC0.out); rintro e w' ⟨rfl, ⟨nd, rfl⟩⟩; refine ⟨_, rfl, ?_⟩))
      go_ret2
      exact ⟨by first | rfl | (simp [errW_none, errW_some] <;> rfl) | (simp [*, errW_none, errW_some] <;> rfl), by repeat (first | (with_reducible first | exact HB.out | apply below_alloc | apply pw_below_drewN | apply below_drew1) | exact HB.out)⟩
    · rw [if_neg c5] at H
      have c5b0 : decide (6 < (l0.length : Int)) = false := decide_eq_false c5
      have c5b1 : decide (6 < l0.length) = false := decide_eq_false (by omega)
      clear c5
      replace H := Option.bind_eq_some_iff.mp H
      obtain ⟨⟨t260, t261⟩, A60, H⟩ := H
      replace H : (some (t261, true)) = some (r1, r2) := H
      have A6 := Aside0.mk A60
      clear A60
      simp only [Option.some.injEq, Prod.mk.injEq] at H
      obtain ⟨rfl, rfl⟩ := H
      go_enter Tryz.func9, Tryz.ntmps9
      go_wp2_with (first | ((with_reducible refine gate_callee (f := 30) rfl ?_); refine goesL_ (some 10) rfl rfl Tryz.func30 (by kernel_rfl) rfl #[.slice A0 l0.length c0, .int .i64 a1] rfl (by (try simp only [List.map_toArray, List.map_cons, List.map_nil]); first | done | rfl | (simp only [List.length_drop, List.length_take]; rfl)) ?_; (with_reducible refine (spec_beAsked.calls k _ _ l0 a1 true _ ?side1 ?side2 A3.out).mono ?_); (case side1 => repeat (first | exact HR0.out | (with_reducible refine Kd.C_alloc ?_ _) | (with_reducible refine Kd.C_drewN ?_ _) | (with_reducible refine Kd.C_drew ?_))); (case side2 => exact HC0.out); rintro e w' ⟨rfl, ⟨nd, rfl⟩⟩; refine ⟨_, rfl, ?_⟩) | ((with_reducible refine gate_callee (f := 31) rfl ?_); refine goesL_ (some 20) rfl rfl Tryz.func31 (by kernel_rfl) rfl #[.slice A0 l0.length c0, .int .i64 a1] rfl (by (try simp only [List.map_toArray, List.map_cons, List.map_nil]); first | done | rfl | (simp only [List.length_drop, List.length_take]; rfl)) ?_; (with_reducible refine (spec_beFind.calls k _ _ l0 a1 t260 t261 _ ?side1 ?side2 A6.out).mono ?_); (case side1 => repeat (first | exact HR0.out | (with_reducible refine Kd.C_alloc ?_ _) | (with_reducible refine Kd.C_drewN ?_ _) | (with_reducible refine Kd.C_drew ?_))); (case side2 => exact HC0.out); rintro e w7 ⟨v262, rfl, ho0, hb⟩; refine ⟨_, rfl, ?_⟩; have n0_ := Aside0.mk (Kd.R_lower ho0 (below_size (by repeat (first | (with_reducible first | exact HB.out | apply below_alloc | apply pw_below_drewN | apply below_drew1) | exact HB.out)))); have n1_ := Aside0.mk (below_step (by repeat (first | (with_reducible first | exact HB.out | apply below_alloc | apply pw_below_drewN | apply below_drew1) | exact HB.out)) hb); clear HB; have HO263 := n0_; have HB := n1_; clear n0_ n1_; (try clear hb); (try clear hb2); (try clear hk); (try clear hi); (try clear ho0)))
      go_ret2
      exact ⟨by first | rfl | (simp [errW_none, errW_some] <;> rfl) | (simp [*, errW_none, errW_some] <;> rfl), by repeat (first | (with_reducible first | exact HB.out | apply below_alloc | apply pw_below_drewN | apply below_drew1) | exact HB.out)⟩
  · replace c4 := Bool.eq_false_iff.mpr c4
    subst c4
    have H1 : (some (0, false)) = some (r1, r2) := by rw [if_neg (show ¬ (false = true) by decide)] at H; exact H
    clear H
    have H := H1
    clear H1
    simp only [Option.some.injEq, Prod.mk.injEq] at H
    obtain ⟨rfl, rfl⟩ := H
    go_enter Tryz.func9, Tryz.ntmps9
    go_wp2_with (first | ((with_reducible refine gate_callee (f := 30) rfl ?_); refine goesL_ (some 10) rfl rfl Tryz.func30 (by kernel_rfl) rfl #[.slice A0 l0.length c0, .int .i64 a1] rfl (by (try simp only [List.map_toArray, List.map_cons, List.map_nil]); first | done | rfl | (simp only [List.length_drop, List.length_take]; rfl)) ?_; (with_reducible refine (spec_beAsked.calls k _ _ l0 a1 false _ ?side1 ?side2 A3.out).mono ?_); (case side1 => repeat (first | exact HR0.out | (with_reducible refine Kd.C_alloc ?_ _) | (with_reducible refine Kd.C_drewN ?_ _) | (with_reducible refine Kd.C_drew ?_))); (case side2 => exact HC0.out); rintro e w' ⟨rfl, ⟨nd, rfl⟩⟩; refine ⟨_, rfl, ?_⟩))
    go_ret2
    exact ⟨by first | rfl | (simp [errW_none, errW_some] <;> rfl) | (simp [*, errW_none, errW_some] <;> rfl), by repeat (first | (with_reducible first | exact HB.out | apply below_alloc | apply pw_below_drewN | apply below_drew1) | exact HB.out)⟩
def impl_BestCost.f (k : Nat) (l0 : List Int) (a1 : Int) : Option (Int × Bool) := (impl_areWeights.f k l0).bind fun t264 => (if t264 = true then ((impl_areLetters.f a1).bind fun t265 => (if t265 = true then ((impl_bestCost.f k l0 a1).bind fun t266 => (some (t266, true))) else (some (0, false)))) else (some (0, false)))
theorem impl_BestCost.mono : ∀ a0 a1 k, LeO (impl_BestCost.f k a0 a1) (impl_BestCost.f (k + 1) a0 a1) := by
  intro a0 a1 k
  unfold impl_BestCost.f
  repeat' first
      | (with_reducible exact impl_areWeights.mono _ _)
      | (with_reducible exact impl_bestCost.mono _ _ _)
      | (with_reducible exact LeO.refl _)
      | (with_reducible exact LeO.none _)
      | (with_reducible refine LeO.ite ?_ ?_)
      | (with_reducible refine LeO.bind ?_ (fun _ => ?_))
      | exact impl_areWeights.mono _ _
      | exact impl_bestCost.mono _ _ _
      | exact LeO.none _
      | refine LeO.ite ?_ ?_
      | refine LeO.bind ?_ (fun _ => ?_)
set_option maxHeartbeats 8000000 in
set_option maxRecDepth 100000 in
theorem impl_BestCost.calls (k : Nat) (A0 : Option Addr) (c0 : Nat) (l0 : List Int) (a1 : Int) (r1 : Int) (r2 : Bool) (w : World) (hr0 : Kd.C (Kd.int .i64) w A0 l0.length l0) (hc0 : l0.length ≤ c0) (h : impl_BestCost.f k l0 a1 = some (r1, r2)) :
    Calls Tryz.prog 10 #[.slice A0 l0.length c0, .int .i64 a1] w fun e w' => e = .returned (.tuple #[.int .i64 r1, .bool r2]) ∧ Below w.heap.size w w' := by
  have HR0 := Aside0.mk hr0
  have HC0 := Aside0.mk hc0
  clear hr0 hc0
  have HB := Aside0.mk (Below.refl w.heap.size w)
  have H : ((impl_areWeights.f k l0).bind fun t264 => (if t264 = true then ((impl_areLetters.f a1).bind fun t265 => (if t265 = true then ((impl_bestCost.f k l0 a1).bind fun t266 => (some (t266, true))) else (some (0, false)))) else (some (0, false)))) = some (r1, r2) := h
  clear h
  replace H := Option.bind_eq_some_iff.mp H
  obtain ⟨t264, A30, H⟩ := H
  replace H : (if t264 = true then ((impl_areLetters.f a1).bind fun t265 => (if t265 = true then ((impl_bestCost.f k l0 a1).bind fun t266 => (some (t266, true))) else (some (0, false)))) else (some (0, false))) = some (r1, r2) := H
  have A3 := Aside0.mk A30
  clear A30
  by_cases c4 : t264 = true
  · subst c4
    have H1 : ((impl_areLetters.f a1).bind fun t265 => (if t265 = true then ((impl_bestCost.f k l0 a1).bind fun t266 => (some (t266, true))) else (some (0, false)))) = some (r1, r2) := by rw [if_pos rfl] at H; exact H
    clear H
    have H := H1
    clear H1
    replace H := Option.bind_eq_some_iff.mp H
    obtain ⟨t265, A50, H⟩ := H
    replace H : (if t265 = true then ((impl_bestCost.f k l0 a1).bind fun t266 => (some (t266, true))) else (some (0, false))) = some (r1, r2) := H
    have A5 := Aside0.mk A50
    clear A50
    by_cases c6 : t265 = true
    · subst c6
      have H1 : ((impl_bestCost.f k l0 a1).bind fun t266 => (some (t266, true))) = some (r1, r2) := by rw [if_pos rfl] at H; exact H
      clear H
      have H := H1
      clear H1
      replace H := Option.bind_eq_some_iff.mp H
      obtain ⟨t266, A70, H⟩ := H
      replace H : (some (t266, true)) = some (r1, r2) := H
      have A7 := Aside0.mk A70
      clear A70
      simp only [Option.some.injEq, Prod.mk.injEq] at H
      obtain ⟨rfl, rfl⟩ := H
      go_enter Tryz.func10, Tryz.ntmps10
      go_wp2_with (first | ((with_reducible refine gate_callee (f := 32) rfl ?_); refine goesL_ (some 7) rfl rfl Tryz.func32 (by kernel_rfl) rfl #[.slice A0 l0.length c0] rfl (by (try simp only [List.map_toArray, List.map_cons, List.map_nil]); first | done | rfl | (simp only [List.length_drop, List.length_take]; rfl)) ?_; (with_reducible refine (impl_areWeights.calls k _ _ l0 true _ ?side1 ?side2 A3.out).mono ?_); (case side1 => repeat (first | exact HR0.out | (with_reducible refine Kd.C_alloc ?_ _) | (with_reducible refine Kd.C_drewN ?_ _) | (with_reducible refine Kd.C_drew ?_))); (case side2 => exact HC0.out); rintro e w' ⟨rfl, ⟨nd, rfl⟩⟩; refine ⟨_, rfl, ?_⟩) | (go_at_call 28; (with_reducible refine (impl_areLetters.calls a1 true _ A5.out).mono ?_); rintro e w' ⟨rfl, ⟨nd, rfl⟩⟩) | ((with_reducible refine gate_callee (f := 33) rfl ?_); refine goesL_ (some 16) rfl rfl Tryz.func33 (by kernel_rfl) rfl #[.slice A0 l0.length c0, .int .i64 a1] rfl (by (try simp only [List.map_toArray, List.map_cons, List.map_nil]); first | done | rfl | (simp only [List.length_drop, List.length_take]; rfl)) ?_; (with_reducible refine (impl_bestCost.calls k _ _ l0 a1 t266 _ ?side1 ?side2 A7.out).mono ?_); (case side1 => repeat (first | exact HR0.out | (with_reducible refine Kd.C_alloc ?_ _) | (with_reducible refine Kd.C_drewN ?_ _) | (with_reducible refine Kd.C_drew ?_))); (case side2 => exact HC0.out); rintro e w8 ⟨rfl, hb⟩; refine ⟨_, rfl, ?_⟩; have n0_ := Aside0.mk (below_step (by repeat (first | (with_reducible first | exact HB.out | apply below_alloc | apply pw_below_drewN | apply below_drew1) | exact HB.out)) hb); clear HB; have HB := n0_; clear n0_; (try clear hb); (try clear hb2); (try clear hk); (try clear hi)))
      go_ret2
      exact ⟨by first | rfl | (simp [errW_none, errW_some] <;> rfl) | (simp [*, errW_none, errW_some] <;> rfl), by repeat (first | (with_reducible first | exact HB.out | apply below_alloc | apply pw_below_drewN | apply below_drew1) | exact HB.out)⟩
    · replace c6 := Bool.eq_false_iff.mpr c6
      subst c6
      have H1 : (some (0, false)) = some (r1, r2) := by rw [if_neg (show ¬ (false = true) by decide)] at H; exact H
      clear H
      have H := H1
      clear H1
      simp only [Option.some.injEq, Prod.mk.injEq] at H
      obtain ⟨rfl, rfl⟩ := H
      go_enter Tryz.func10, Tryz.ntmps10
      go_wp2_with (first | ((with_reducible refine gate_callee (f := 32) rfl ?_); refine goesL_ (some 7) rfl rfl Tryz.func32 (by kernel_rfl) rfl #[.slice A0 l0.length c0] rfl (by (try simp only [List.map_toArray, List.map_cons, List.map_nil]); first | done | rfl | (simp only [List.length_drop, List.length_take]; rfl)) ?_; (with_reducible refine (impl_areWeights.calls k _ _ l0 true _ ?side1 ?side2 A3.out).mono ?_); (case side1 => repeat (first | exact HR0.out | (with_reducible refine Kd.C_alloc ?_ _) | (with_reducible refine Kd.C_drewN ?_ _) | (with_reducible refine Kd.C_drew ?_))); (case side2 => exact HC0.out); rintro e w' ⟨rfl, ⟨nd, rfl⟩⟩; refine ⟨_, rfl, ?_⟩) | (go_at_call 28; (with_reducible refine (impl_areLetters.calls a1 false _ A5.out).mono ?_); rintro e w' ⟨rfl, ⟨nd, rfl⟩⟩))
      go_ret2
      exact ⟨by first | rfl | (simp [errW_none, errW_some] <;> rfl) | (simp [*, errW_none, errW_some] <;> rfl), by repeat (first | (with_reducible first | exact HB.out | apply below_alloc | apply pw_below_drewN | apply below_drew1) | exact HB.out)⟩
  · replace c4 := Bool.eq_false_iff.mpr c4
    subst c4
    have H1 : (some (0, false)) = some (r1, r2) := by rw [if_neg (show ¬ (false = true) by decide)] at H; exact H
    clear H
    have H := H1
    clear H1
    simp only [Option.some.injEq, Prod.mk.injEq] at H
    obtain ⟨rfl, rfl⟩ := H
    go_enter Tryz.func10, Tryz.ntmps10
    go_wp2_with (first | ((with_reducible refine gate_callee (f := 32) rfl ?_); refine goesL_ (some 7) rfl rfl Tryz.func32 (by kernel_rfl) rfl #[.slice A0 l0.length c0] rfl (by (try simp only [List.map_toArray, List.map_cons, List.map_nil]); first | done | rfl | (simp only [List.length_drop, List.length_take]; rfl)) ?_; (with_reducible refine (impl_areWeights.calls k _ _ l0 false _ ?side1 ?side2 A3.out).mono ?_); (case side1 => repeat (first | exact HR0.out | (with_reducible refine Kd.C_alloc ?_ _) | (with_reducible refine Kd.C_drewN ?_ _) | (with_reducible refine Kd.C_drew ?_))); (case side2 => exact HC0.out); rintro e w' ⟨rfl, ⟨nd, rfl⟩⟩; refine ⟨_, rfl, ?_⟩))
    go_ret2
    exact ⟨by first | rfl | (simp [errW_none, errW_some] <;> rfl) | (simp [*, errW_none, errW_some] <;> rfl), by repeat (first | (with_reducible first | exact HB.out | apply below_alloc | apply pw_below_drewN | apply below_drew1) | exact HB.out)⟩
def spec_BestCost.f (k : Nat) (l0 : List Int) (a1 : Int) : Option (Int × Bool) := (spec_beAsked.f k l0 a1).bind fun t267 => (if t267 = true then ((spec_beBest.f k l0 a1).bind fun t268 => (some (t268, true))) else (some (0, false)))
theorem spec_BestCost.mono : ∀ a0 a1 k, LeO (spec_BestCost.f k a0 a1) (spec_BestCost.f (k + 1) a0 a1) := by
  intro a0 a1 k
  unfold spec_BestCost.f
  repeat' first
      | (with_reducible exact spec_beAsked.mono _ _ _)
      | (with_reducible exact spec_beBest.mono _ _ _)
      | (with_reducible exact LeO.refl _)
      | (with_reducible exact LeO.none _)
      | (with_reducible refine LeO.ite ?_ ?_)
      | (with_reducible refine LeO.bind ?_ (fun _ => ?_))
      | exact spec_beAsked.mono _ _ _
      | exact spec_beBest.mono _ _ _
      | exact LeO.none _
      | refine LeO.ite ?_ ?_
      | refine LeO.bind ?_ (fun _ => ?_)
set_option maxHeartbeats 8000000 in
set_option maxRecDepth 100000 in
theorem spec_BestCost.calls (k : Nat) (A0 : Option Addr) (c0 : Nat) (l0 : List Int) (a1 : Int) (r1 : Int) (r2 : Bool) (w : World) (hr0 : Kd.C (Kd.int .i64) w A0 l0.length l0) (hc0 : l0.length ≤ c0) (h : spec_BestCost.f k l0 a1 = some (r1, r2)) :
    Calls Tryz.prog 11 #[.slice A0 l0.length c0, .int .i64 a1] w fun e w' => e = .returned (.tuple #[.int .i64 r1, .bool r2]) ∧ Below w.heap.size w w' := by
  have HR0 := Aside0.mk hr0
  have HC0 := Aside0.mk hc0
  clear hr0 hc0
  have HB := Aside0.mk (Below.refl w.heap.size w)
  have H : ((spec_beAsked.f k l0 a1).bind fun t267 => (if t267 = true then ((spec_beBest.f k l0 a1).bind fun t268 => (some (t268, true))) else (some (0, false)))) = some (r1, r2) := h
  clear h
  replace H := Option.bind_eq_some_iff.mp H
  obtain ⟨t267, A30, H⟩ := H
  replace H : (if t267 = true then ((spec_beBest.f k l0 a1).bind fun t268 => (some (t268, true))) else (some (0, false))) = some (r1, r2) := H
  have A3 := Aside0.mk A30
  clear A30
  by_cases c4 : t267 = true
  · subst c4
    have H1 : ((spec_beBest.f k l0 a1).bind fun t268 => (some (t268, true))) = some (r1, r2) := by rw [if_pos rfl] at H; exact H
    clear H
    have H := H1
    clear H1
    replace H := Option.bind_eq_some_iff.mp H
    obtain ⟨t268, A50, H⟩ := H
    replace H : (some (t268, true)) = some (r1, r2) := H
    have A5 := Aside0.mk A50
    clear A50
    simp only [Option.some.injEq, Prod.mk.injEq] at H
    obtain ⟨rfl, rfl⟩ := H
    go_enter Tryz.func11, Tryz.ntmps11
    go_wp2_with (first | ((with_reducible refine gate_callee (f := 30) rfl ?_); refine goesL_ (some 8) rfl rfl Tryz.func30 (by kernel_rfl) rfl #[.slice A0 l0.length c0, .int .i64 a1] rfl (by (try simp only [List.map_toArray, List.map_cons, List.map_nil]); first | done | rfl | (simp only [List.length_drop, List.length_take]; rfl)) ?_; (with_reducible refine (spec_beAsked.calls k _ _ l0 a1 true _ ?side1 ?side2 A3.out).mono ?_); (case side1 => repeat (first | exact HR0.out | (with_reducible refine Kd.C_alloc ?_ _) | (with_reducible refine Kd.C_drewN ?_ _) | (with_reducible refine Kd.C_drew ?_))); (case side2 => exact HC0.out); rintro e w' ⟨rfl, ⟨nd, rfl⟩⟩; refine ⟨_, rfl, ?_⟩) | ((with_reducible refine gate_callee (f := 34) rfl ?_); refine goesL_ (some 12) rfl rfl Tryz.func34 (by kernel_rfl) rfl #[.slice A0 l0.length c0, .int .i64 a1] rfl (by (try simp only [List.map_toArray, List.map_cons, List.map_nil]); first | done | rfl | (simp only [List.length_drop, List.length_take]; rfl)) ?_; (with_reducible refine (spec_beBest.calls k _ _ l0 a1 t268 _ ?side1 ?side2 A5.out).mono ?_); (case side1 => repeat (first | exact HR0.out | (with_reducible refine Kd.C_alloc ?_ _) | (with_reducible refine Kd.C_drewN ?_ _) | (with_reducible refine Kd.C_drew ?_))); (case side2 => exact HC0.out); rintro e w6 ⟨rfl, hb⟩; refine ⟨_, rfl, ?_⟩; have n0_ := Aside0.mk (below_step (by repeat (first | (with_reducible first | exact HB.out | apply below_alloc | apply pw_below_drewN | apply below_drew1) | exact HB.out)) hb); clear HB; have HB := n0_; clear n0_; (try clear hb); (try clear hb2); (try clear hk); (try clear hi)))
    go_ret2
    exact ⟨by first | rfl | (simp [errW_none, errW_some] <;> rfl) | (simp [*, errW_none, errW_some] <;> rfl), by repeat (first | (with_reducible first | exact HB.out | apply below_alloc | apply pw_below_drewN | apply below_drew1) | exact HB.out)⟩
  · replace c4 := Bool.eq_false_iff.mpr c4
    subst c4
    have H1 : (some (0, false)) = some (r1, r2) := by rw [if_neg (show ¬ (false = true) by decide)] at H; exact H
    clear H
    have H := H1
    clear H1
    simp only [Option.some.injEq, Prod.mk.injEq] at H
    obtain ⟨rfl, rfl⟩ := H
    go_enter Tryz.func11, Tryz.ntmps11
    go_wp2_with (first | ((with_reducible refine gate_callee (f := 30) rfl ?_); refine goesL_ (some 8) rfl rfl Tryz.func30 (by kernel_rfl) rfl #[.slice A0 l0.length c0, .int .i64 a1] rfl (by (try simp only [List.map_toArray, List.map_cons, List.map_nil]); first | done | rfl | (simp only [List.length_drop, List.length_take]; rfl)) ?_; (with_reducible refine (spec_beAsked.calls k _ _ l0 a1 false _ ?side1 ?side2 A3.out).mono ?_); (case side1 => repeat (first | exact HR0.out | (with_reducible refine Kd.C_alloc ?_ _) | (with_reducible refine Kd.C_drewN ?_ _) | (with_reducible refine Kd.C_drew ?_))); (case side2 => exact HC0.out); rintro e w' ⟨rfl, ⟨nd, rfl⟩⟩; refine ⟨_, rfl, ?_⟩))
    go_ret2
    exact ⟨by first | rfl | (simp [errW_none, errW_some] <;> rfl) | (simp [*, errW_none, errW_some] <;> rfl), by repeat (first | (with_reducible first | exact HB.out | apply below_alloc | apply pw_below_drewN | apply below_drew1) | exact HB.out)⟩
end Go.Proofs.YtcdmmpbcjcajlaaGreat.XFnBestIsMerged
