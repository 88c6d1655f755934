-- Written by a program of this session (wip/xprint.py), which follows the kit's print; no kit file.
import Derived.Test.YtfjadaaahkomnaaDoorXFnExactLetterCountsx0
import Derived.Test.YtfjadaaahkomnaaDoorXFnExactLetterCountsx1
import Derived.Test.YtfjadaaahkomnaaDoorXFnExactLetterCountsx2
import Derived.Test.YtfjadaaahkomnaaDoorXFnExactLetterCountsx3
namespace Go.Proofs.YtfjadaaahkomnaaDoor.XFnExactLetterCounts
open Go.RowKit Go.Proofs.YtfjadaaahkomnaaDoor.Hand Go.Proofs.YtfjadaaahkomnaaDoorW.PrintWords Go.Proofs.YtfjadaaahkomnaaDoorW.PrintLast Go.Proofs.YtfjadaaahkomnaaDoorW.PrintMore
attribute [local go_sem] max2_int min2_int max_two min_two max_three min_three max_four min_four   -- for this text's walks alone
set_option linter.unusedVariables false
set_option linter.unusedSimpArgs false

/-! ### laws_markIntS: function 27 -/
def laws_markIntS.l0 : Nat → List Int → Int → Int → Option (Int × List Int)
  | 0, _, _, _ => none
  | k + 1, x0, x1, x5 => if x5 < (x0.length : Int) then (if 0 ≤ x5 then (laws_markIntS.l0 k (x0.set (x5 : Int).toNat x1) (wrap64 (x1 + 1)) (wrap64 (x5 + 1))) else (none)) else (some (x1, x0))
def laws_markIntS.f (k : Nat) (l0 : List Int) (a1 : Int) : Option (Int × List Int) := laws_markIntS.l0 k l0 a1 0
theorem laws_markIntS.mono_l : ∀ k, (∀ y0 y1 y2, LeO (laws_markIntS.l0 k y0 y1 y2) (laws_markIntS.l0 (k + 1) y0 y1 y2))
  | 0 => fun _ _ _ r h => by simp [laws_markIntS.l0] at h
  | k + 1 => by
    have ih0 := laws_markIntS.mono_l k
    · intro y0 y1 y2
      unfold laws_markIntS.l0
      repeat' first
      | (with_reducible exact ih0 _ _ _)
      | (with_reducible exact LeO.refl _)
      | (with_reducible exact LeO.none _)
      | (with_reducible refine LeO.ite ?_ ?_)
      | (with_reducible refine LeO.bind ?_ (fun _ => ?_))
      | exact ih0 _ _ _
      | exact LeO.none _
      | refine LeO.ite ?_ ?_
      | refine LeO.bind ?_ (fun _ => ?_)
theorem laws_markIntS.mono : ∀ a0 a1 k, LeO (laws_markIntS.f k a0 a1) (laws_markIntS.f (k + 1) a0 a1) := by
  intro a0 a1 k
  have ih0 := laws_markIntS.mono_l k
  unfold laws_markIntS.f
  repeat' first
      | (with_reducible exact ih0 _ _ _)
      | (with_reducible exact LeO.refl _)
      | (with_reducible exact LeO.none _)
      | (with_reducible refine LeO.ite ?_ ?_)
      | (with_reducible refine LeO.bind ?_ (fun _ => ?_))
      | exact ih0 _ _ _
      | exact LeO.none _
      | refine LeO.ite ?_ ?_
      | refine LeO.bind ?_ (fun _ => ?_)
set_option maxHeartbeats 8000000 in
set_option maxRecDepth 100000 in
theorem laws_markIntS.calls (k : Nat) (P0_ : Nat → Prop) (u9000_ : Value) (l0 : List Int) (a1 : Int) (r1 : Int) (r2 : List Int) (w0 w : World) (hB : Below w0.heap.size w0 w) (ho0 : Kd.R (Kd.int .i64) 3 w w0.heap.size P0_ u9000_ l0) (h : laws_markIntS.f k l0 a1 = some (r1, r2)) :
    Calls Tryd.prog 27 #[u9000_, .int .i64 a1] w fun e w' => e = .returned (.int .i64 r1) ∧ Kd.R (Kd.int .i64) 3 w' w0.heap.size (fun k_ => (P0_ k_ ∨ w.heap.size ≤ k_)) u9000_ r2 ∧ Below w0.heap.size w0 w' ∧ Kept w w' (fun k_ => P0_ k_) := by
  have HO0 := Aside0.mk (show Kd.R (Kd.int .i64) 3 w w0.heap.size (fun k_ => (P0_ k_ ∨ w.heap.size ≤ k_)) u9000_ l0 from Kd.R_mono ho0 (fun k_ hk => (.inl hk)))
  have HK := Aside0.mk (Kept.refl w (fun k_ => P0_ k_))
  have HW0 := Aside0.mk hB.size
  have HB := Aside0.mk hB
  clear hB
  have H : (laws_markIntS.l0 k l0 a1 0) = some (r1, r2) := h
  clear h
  have H' := Aside0.mk H
  clear H
  go_enter Tryd.func27, Tryd.ntmps27
  go_wp2
  go_loopg [1, 5] k (fun kq v1 v5 w' => ∃ (x0_1 : List Int) (x1_1 : Int) (x5_1 : Int), v1 = .int .i64 x1_1 ∧ v5 = .int .i64 x5_1 ∧ Aside0 (laws_markIntS.l0 kq x0_1 x1_1 x5_1 = some (r1, r2)) ∧ Aside0 (kq ≤ k) ∧ Aside0 (Kd.R (Kd.int .i64) 3 w' w0.heap.size (fun k_ => (P0_ k_ ∨ w.heap.size ≤ k_)) u9000_ x0_1) ∧ Aside0 (Kept w w' (fun k_ => P0_ k_)) ∧ Aside0 (Below w0.heap.size w0 w'))
  case atStart => exact ⟨(l0), (a1), (0), (by first | rfl | (simp; done) | (simp [*]; done) | (simp only [IntWalk.i64_left]; done) | (simp [IntWalk.i64_left]; done) | (simp [*, IntWalk.i64_left]; done)), (by first | rfl | (simp; done) | (simp [*]; done) | (simp only [IntWalk.i64_left]; done) | (simp [IntWalk.i64_left]; done) | (simp [*, IntWalk.i64_left]; done)), H', ⟨Nat.le_refl _⟩, ⟨by (with_reducible repeat (first | apply Kd.R_alloc | apply Kd.R_drewN | apply Kd.R_drew)); exact HO0.out⟩, ⟨by repeat (first | (with_reducible first | exact HK.out | apply Kept.alloc | apply Kept.drewN | apply Kept.drew) | exact HK.out)⟩, ⟨by repeat (first | (with_reducible first | exact HB.out | apply below_alloc | apply pw_below_drewN | apply below_drew1) | exact HB.out)⟩⟩
  case round =>
    clear H'
    try clear c2
    try clear p2
    obtain ⟨x0_1, x1_1, x5_1, rfl, rfl, HA, HK1, HO_0, HK, HB⟩ := hrel
    cases gk with
    | zero => exact absurd HA.out (by simp [laws_markIntS.l0])
    | succ k1 =>
      have H := HA.out
      clear HA
      simp only [laws_markIntS.l0] at H
      by_cases c3 : x5_1 < (x0_1.length : Int)
      · rw [if_pos c3] at H
        have c3b0 : decide (x5_1 < (x0_1.length : Int)) = true := decide_eq_true c3
        clear c3
        by_cases c4 : 0 ≤ x5_1
        · rw [if_pos c4] at H
          have c4b0 : decide (0 ≤ x5_1) = true := decide_eq_true c4
          clear c4
          obtain ⟨y171, hy171⟩ : ∃ y_ : List Int, y_ = (x0_1.set (x5_1 : Int).toNat x1_1) := ⟨_, rfl⟩
          replace H : (laws_markIntS.l0 k1 y171 (wrap64 (x1_1 + 1)) (wrap64 (x5_1 + 1))) = some (r1, r2) := by first | (rw [hy171]; with_reducible exact H) | (have H2_ := (Option.bind_some _ _).symm.trans H; rw [hy171]; with_reducible exact H2_) | (have H2_ := (Option.bind_some _ _).symm.trans H; with_reducible exact H2_) | with_reducible exact H | (rw [hy171]; exact H) | exact H
          have Ny171 := Aside0.mk hy171
          clear hy171
          have H' := Aside0.mk H
          clear H
          obtain ⟨Ao6, co6, eo6⟩ := Kd.R_slice HO_0.out
          subst eo6
          have p5 : 0 ≤ (x5_1 : Int) := of_decide_eq_true (by first | (with_reducible assumption) | assumption)
          have q5 : (x5_1 : Int) < ((x0_1.length : Int) : Int) := of_decide_eq_true (by first | (with_reducible assumption) | assumption)
          obtain ⟨go5, co5, eo5, gb5, gl5, cl5, HG5⟩ := Kd.R_form HO_0.out (by omega)
          (first | cases eo5 | (injection eo5 with ea_ en_ ec_; (first | subst ea_ | (injection ea_ with ea_; subst ea_)); subst ec_; clear en_))
          have GB5 := Aside0.mk gb5
          have GG5 := Aside0.mk HG5
          clear gb5 gl5 HG5
          have HMgo5 := Aside0.mk (show (P0_ go5 ∨ w.heap.size ≤ go5) from (HO_0.out.1 _ rfl))
          obtain ⟨hx5_0, hf5_0⟩ := Kd.R_celln 0 HO_0.out (x5_1 : Int) p5 q5
          replace p5 := eq_true p5
          replace q5 := eq_true q5
          have HP7 := Kd.R_putg HO_0.out (x5_1 : Int) x1_1
          go_wp2_with (first | ((with_reducible refine gate_store (t := 3) (p := 15) rfl ?_); refine store_event (t := 3) (p := 15) (v := ?vo_w8) (w1 := (wr.setCell ⟨go5, (x5_1 : Int).toNat, none⟩ (.int .i64 x1_1))) ?hg ?ho ?hn ?hr ?_; (case ho => rfl); (case hg => rfl); (case hn => rfl); (case hr => first | (go_simp; done) | (go_simp; rfl)); intro w8 hw; have hg : wr.grownBy w8 (some go5) := (by rw [hw]; exact HP7.2); have hp_ : Kd.R (Kd.int .i64) 3 w8 w0.heap.size (fun k_ => (P0_ k_ ∨ w.heap.size ≤ k_)) (.slice (some ⟨go5, 0, none⟩) x0_1.length co6) y171 := (by rw [hw, Ny171.out]; exact HP7.1); clear HP7; have n0_ := Aside0.mk (hp_); have n1_ := Aside0.mk ((by rw [hw]; exact below_set (HB.out) GB5.out : Below w0.heap.size w0 w8)); have n2_ := Aside0.mk (Kept.of_grown (S := (fun k_ => P0_ k_)) hg (by repeat (first | (with_reducible first | exact HK.out | apply Kept.alloc | apply Kept.drewN | apply Kept.drew) | exact HK.out)) (fun k_ e_ => (HO_0.out.1 k_ e_))); clear HO_0; clear HB; clear HK; have HO_0 := n0_; have HB := n1_; have HK := n2_; clear n0_ n1_ n2_; clear hg hw hp_))
          go_roundg k1
          case measure => have := HK1.out; omega
          case rel => exact ⟨(y171), (wrap64 (x1_1 + 1)), (wrap64 (x5_1 + 1)), (by first | rfl | (simp; done) | (simp [*]; done) | (simp only [IntWalk.i64_left]; done) | (simp [IntWalk.i64_left]; done) | (simp [*, IntWalk.i64_left]; done)), (by first | rfl | (simp; done) | (simp [*]; done) | (simp only [IntWalk.i64_left]; done) | (simp [IntWalk.i64_left]; done) | (simp [*, IntWalk.i64_left]; done)), H', ⟨by have := HK1.out; omega⟩, ⟨by (with_reducible repeat (first | apply Kd.R_alloc | apply Kd.R_drewN | apply Kd.R_drew)); exact HO_0.out⟩, ⟨by repeat (first | (with_reducible first | exact HK.out | apply Kept.alloc | apply Kept.drewN | apply Kept.drew) | exact HK.out)⟩, ⟨by repeat (first | (with_reducible first | exact HB.out | apply below_alloc | apply pw_below_drewN | apply below_drew1) | exact HB.out)⟩⟩
        · rw [if_neg c4] at H
          exact absurd H (by simp)
      · rw [if_neg c3] at H
        have c3b0 : decide (x5_1 < (x0_1.length : Int)) = false := decide_eq_false c3
        clear c3
        simp only [Option.some.injEq, Prod.mk.injEq] at H
        obtain ⟨rfl, rfl⟩ := H
        obtain ⟨Ao9, co9, eo9⟩ := Kd.R_slice HO_0.out
        subst eo9
        go_wp2
        go_ret
        exact ⟨by first | rfl | (simp [errW_none, errW_some] <;> rfl) | (simp [*, errW_none, errW_some] <;> rfl), by (with_reducible repeat (first | apply Kd.R_alloc | apply Kd.R_drewN | apply Kd.R_drew)); exact HO_0.out, by repeat (first | (with_reducible first | exact HB.out | apply below_alloc | apply pw_below_drewN | apply below_drew1) | exact HB.out), by repeat (first | (with_reducible first | exact HK.out | apply Kept.alloc | apply Kept.drewN | apply Kept.drew) | exact HK.out)⟩

-- laws_markIntSS: function 13, by hand
open Go.Proofs.YtfjadaaahkomnaaDoorW.PrintLast
def laws_markIntSS.l0 : Nat → List (List Int) → Int → Int → Option (Int × List (List Int))
  | 0, _, _, _ => none
  | k + 1, x0, x1, x5 => if x5 < (x0.length : Int) then (if 0 ≤ x5 then ((laws_markIntS.f k (x0.getD x5.toNat []) x1).bind fun t => laws_markIntSS.l0 k (x0.set x5.toNat t.2) t.1 (wrap64 (x5 + 1))) else none) else some (x1, x0)
def laws_markIntSS.f (k : Nat) (l0 : List (List Int)) (a1 : Int) : Option (Int × List (List Int)) := laws_markIntSS.l0 k l0 a1 0
theorem laws_markIntSS.mono_l : ∀ k, (∀ y0 y1 y2, LeO (laws_markIntSS.l0 k y0 y1 y2) (laws_markIntSS.l0 (k + 1) y0 y1 y2))
  | 0 => fun _ _ _ r h => by simp [laws_markIntSS.l0] at h
  | k + 1 => by
    intro y0 y1 y2
    unfold laws_markIntSS.l0
    exact LeO.ite (LeO.ite (LeO.bind (laws_markIntS.mono _ _ _) fun _ => laws_markIntSS.mono_l k _ _ _) (LeO.refl _)) (LeO.refl _)
theorem laws_markIntSS.mono : ∀ a0 a1 k, LeO (laws_markIntSS.f k a0 a1) (laws_markIntSS.f (k + 1) a0 a1) := fun _ _ k => laws_markIntSS.mono_l k _ _ _
set_option maxHeartbeats 8000000 in
set_option maxRecDepth 100000 in
theorem laws_markIntSS.calls (k : Nat) (P : Nat → Prop) (u : Value) (l0 : List (List Int)) (a1 : Int) (r1 : Int) (r2 : List (List Int)) (w0 w : World) (hB : Below w0.heap.size w0 w) (ho0 : Kd.S (Kd.slice 3 (Kd.int .i64)) 32 w w0.heap.size P u l0) (h : laws_markIntSS.f k l0 a1 = some (r1, r2)) :
    Calls Tryd.prog 13 #[u, .int .i64 a1] w fun e w' => e = .returned (.int .i64 r1) ∧ Kd.S (Kd.slice 3 (Kd.int .i64)) 32 w' w0.heap.size P u r2 ∧ Below w0.heap.size w0 w' ∧ Kept w w' P := by
  have HO0 := Aside0.mk ho0
  have HK := Aside0.mk (Kept.refl w P)
  have HB := Aside0.mk hB
  have H' := Aside0.mk (show laws_markIntSS.l0 k l0 a1 0 = some (r1, r2) from h)
  obtain ⟨A0, c0, e0⟩ := Kd.S_slice ho0
  obtain ⟨n0, hn0⟩ : ∃ n : Nat, n = l0.length := ⟨_, rfl⟩
  have HN := Aside0.mk hn0
  rw [← hn0] at e0
  subst e0
  clear h hB ho0 hn0
  go_enter Tryd.func13, Tryd.ntmps13
  go_wp2
  go_loopg [1, 5] k (fun kq v1 v5 w' => ∃ (x0 : List (List Int)) (x1 x5 : Int), v1 = .int .i64 x1 ∧ v5 = .int .i64 x5 ∧ Aside0 (laws_markIntSS.l0 kq x0 x1 x5 = some (r1, r2)) ∧ Aside0 (kq ≤ k) ∧ Aside0 (n0 = x0.length) ∧ Aside0 (Kd.S (Kd.slice 3 (Kd.int .i64)) 32 w' w0.heap.size P (.slice A0 n0 c0) x0) ∧ Aside0 (Kept w w' P) ∧ Aside0 (Below w0.heap.size w0 w'))
  case atStart => exact ⟨l0, a1, 0, rfl, rfl, H', ⟨Nat.le_refl _⟩, HN, HO0, HK, HB⟩
  case round =>
    clear H' HN HO0 HK HB
    obtain ⟨x0, x1, x5, rfl, rfl, HA, HK1, HN, HO, HK, HB⟩ := hrel
    cases gk with
    | zero => exact absurd HA.out (by simp [laws_markIntSS.l0])
    | succ k1 =>
      have H := HA.out
      clear HA
      simp only [laws_markIntSS.l0] at H
      rw [← HN.out] at H
      by_cases c3 : x5 < (n0 : Int)
      · rw [if_pos c3] at H
        split at H
        case isFalse => cases H
        rename_i c4
        obtain ⟨t, ht, hr⟩ := Option.bind_eq_some_iff.mp H
        have A1 := Aside0.mk ht
        have A2 := Aside0.mk hr
        clear H ht hr
        obtain ⟨g, cap, eg, -, -, -⟩ := Kd.S_form HO.out (by have := HN.out; omega)
        rw [← HN.out] at eg
        injection eg with eg1 eg2 eg3
        subst eg1
        subst eg3
        obtain ⟨oki, c, hcl, hM, hcell, hoki, HH⟩ := Kd.S_lend HO.out [] x5 c4 c3
        obtain ⟨v, rfl, hR⟩ := hM
        have hx := hcell 0 v rfl
        simp only [Nat.mul_one, Nat.add_zero, Kd.slice] at hx
        have HHa := Aside0.mk HH
        have HRa := Aside0.mk hR
        have HOK := Aside0.mk hoki
        clear hcl hcell hR hoki HH
        have c3b : decide (x5 < (n0 : Int)) = true := decide_eq_true c3
        have c4b : decide (0 ≤ x5) = true := decide_eq_true c4
        have hcall := fun (W : World) (hb : Below w0.heap.size w0 W) (hC : Kd.R (Kd.int .i64) 3 W w0.heap.size oki v (x0.getD x5.toNat [])) => laws_markIntS.calls k1 oki v (x0.getD x5.toNat []) x1 t.1 t.2 w0 W hb hC (by rw [A1.out])
        go_wp2_with (go_at_call 27; (with_reducible refine (hcall _ HB.out HRa.out).mono ?_); rintro e w9 ⟨rfl, hr9, hb9, hk9⟩; have HR9 := Aside0.mk hr9; have HB9 := Aside0.mk hb9; have HK9 := Aside0.mk hk9; clear hr9 hb9 hk9)
        go_roundg k1
        case measure => have := HK1.out; omega
        case rel => exact ⟨x0.set x5.toNat t.2, t.1, wrap64 (x5 + 1), rfl, rfl, A2, ⟨by have := HK1.out; omega⟩, ⟨by rw [List.length_set]; exact HN.out⟩, ⟨Kd.H_back (Kd.H_step HHa.out (fun q hq hn hlt => HK9.out.2 q hlt hn)) (Kd.M_row (Kd.R_tight rfl HR9.out)) (fun q hq => HRa.out.1 q hq.symm)⟩, ⟨HK.out.then_ HK9.out (fun q hq => .inl (HOK.out q hq).1)⟩, HB9⟩
      · rw [if_neg c3] at H
        have c3b : decide (x5 < (n0 : Int)) = false := decide_eq_false c3
        simp only [Option.some.injEq, Prod.mk.injEq] at H
        obtain ⟨rfl, rfl⟩ := H
        go_wp2
        go_ret
        exact ⟨rfl, HO.out, HB.out, HK.out⟩

/-! ### laws_heldIntS: function 28 -/
def laws_heldIntS.l0 : Nat → List Int → Int → Int → Option (Int)
  | 0, _, _, _ => none
  | k + 1, x0, x1, x5 => if x5 < (x0.length : Int) then (if 0 ≤ x5 then (if (rd x0 x5) = x1 then (laws_heldIntS.l0 k x0 (wrap64 (x1 + 1)) (wrap64 (x5 + 1))) else (some (-1))) else (none)) else (some x1)
def laws_heldIntS.f (k : Nat) (l0 : List Int) (a1 : Int) : Option (Int) := laws_heldIntS.l0 k l0 a1 0
theorem laws_heldIntS.mono_l : ∀ k, (∀ y0 y1 y2, LeO (laws_heldIntS.l0 k y0 y1 y2) (laws_heldIntS.l0 (k + 1) y0 y1 y2))
  | 0 => fun _ _ _ r h => by simp [laws_heldIntS.l0] at h
  | k + 1 => by
    have ih0 := laws_heldIntS.mono_l k
    · intro y0 y1 y2
      unfold laws_heldIntS.l0
      repeat' first
      | (with_reducible exact ih0 _ _ _)
      | (with_reducible exact LeO.refl _)
      | (with_reducible exact LeO.none _)
      | (with_reducible refine LeO.ite ?_ ?_)
      | (with_reducible refine LeO.bind ?_ (fun _ => ?_))
      | exact ih0 _ _ _
      | exact LeO.none _
      | refine LeO.ite ?_ ?_
      | refine LeO.bind ?_ (fun _ => ?_)
theorem laws_heldIntS.mono : ∀ a0 a1 k, LeO (laws_heldIntS.f k a0 a1) (laws_heldIntS.f (k + 1) a0 a1) := by
  intro a0 a1 k
  have ih0 := laws_heldIntS.mono_l k
  unfold laws_heldIntS.f
  repeat' first
      | (with_reducible exact ih0 _ _ _)
      | (with_reducible exact LeO.refl _)
      | (with_reducible exact LeO.none _)
      | (with_reducible refine LeO.ite ?_ ?_)
      | (with_reducible refine LeO.bind ?_ (fun _ => ?_))
      | exact ih0 _ _ _
      | exact LeO.none _
      | refine LeO.ite ?_ ?_
      | refine LeO.bind ?_ (fun _ => ?_)
set_option maxHeartbeats 8000000 in
set_option maxRecDepth 100000 in
theorem laws_heldIntS.calls (k : Nat) (A0 : Option Addr) (c0 : Nat) (l0 : List Int) (a1 : Int) (r : Int) (w : World) (hr0 : Kd.C (Kd.int .i64) w A0 l0.length l0) (hc0 : l0.length ≤ c0) (h : laws_heldIntS.f k l0 a1 = some r) :
    Calls Tryd.prog 28 #[.slice A0 l0.length c0, .int .i64 a1] w fun e w' => e = .returned (.int .i64 r) ∧ Drawn0 w w' := by
  have HR0 := Aside0.mk hr0
  have HC0 := Aside0.mk hc0
  clear hr0 hc0
  have H : (laws_heldIntS.l0 k l0 a1 0) = some r := h
  clear h
  have H' := Aside0.mk H
  clear H
  go_enter Tryd.func28, Tryd.ntmps28
  go_wp2
  go_loopg [1, 5] k (fun kq v1 v5 w' => ∃ (x1_1 : Int) (x5_1 : Int), v1 = .int .i64 x1_1 ∧ v5 = .int .i64 x5_1 ∧ Aside0 (laws_heldIntS.l0 kq l0 x1_1 x5_1 = some r) ∧ Aside0 (kq ≤ k) ∧ Drawn0 w w')
  case atStart => exact ⟨(a1), (0), (by first | rfl | (simp; done) | (simp [*]; done) | (simp only [IntWalk.i64_left]; done) | (simp [IntWalk.i64_left]; done) | (simp [*, IntWalk.i64_left]; done)), (by first | rfl | (simp; done) | (simp [*]; done) | (simp only [IntWalk.i64_left]; done) | (simp [IntWalk.i64_left]; done) | (simp [*, IntWalk.i64_left]; done)), H', ⟨Nat.le_refl _⟩, by repeat (first | exact Drawn0.refl _ | apply Drawn0.step)⟩
  case round =>
    clear H'
    try clear c2
    try clear p2
    obtain ⟨x1_1, x5_1, rfl, rfl, HA, HK1, ⟨m1, rfl⟩⟩ := hrel
    cases gk with
    | zero => exact absurd HA.out (by simp [laws_heldIntS.l0])
    | succ k1 =>
      have H := HA.out
      clear HA
      simp only [laws_heldIntS.l0] at H
      by_cases c3 : x5_1 < (l0.length : Int)
      · rw [if_pos c3] at H
        have c3b0 : decide (x5_1 < (l0.length : Int)) = true := decide_eq_true c3
        clear c3
        by_cases c4 : 0 ≤ x5_1
        · rw [if_pos c4] at H
          have c4b0 : decide (0 ≤ x5_1) = true := decide_eq_true c4
          clear c4
          by_cases c5 : (rd l0 x5_1) = x1_1
          · rw [if_pos c5] at H
            have c5b0 : ((rd l0 x5_1) == x1_1) = true := beq_iff_eq.mpr c5
            have c5b1 : ((rd l0 x5_1) != x1_1) = false := bne_eq_false_iff_eq.mpr c5
            clear c5
            have H' := Aside0.mk H
            clear H
            have p172 : 0 ≤ (x5_1 : Int) := of_decide_eq_true (by first | (with_reducible assumption) | assumption)
            have q172 : x5_1 < (l0.length : Int) := of_decide_eq_true (by first | (with_reducible assumption) | assumption)
            obtain ⟨ad172, e172, hx172_0⟩ := Kd.at_int HR0.out x5_1 p172 q172
            cases e172
            replace p172 := eq_true p172
            replace q172 := eq_true q172
            go_wp2
            go_roundg k1
            case measure => have := HK1.out; omega
            case rel => exact ⟨(wrap64 (x1_1 + 1)), (wrap64 (x5_1 + 1)), (by first | rfl | (simp; done) | (simp [*]; done) | (simp only [IntWalk.i64_left]; done) | (simp [IntWalk.i64_left]; done) | (simp [*, IntWalk.i64_left]; done)), (by first | rfl | (simp; done) | (simp [*]; done) | (simp only [IntWalk.i64_left]; done) | (simp [IntWalk.i64_left]; done) | (simp [*, IntWalk.i64_left]; done)), H', ⟨by have := HK1.out; omega⟩, by repeat (first | exact Drawn0.refl _ | apply Drawn0.step)⟩
          · rw [if_neg c5] at H
            have c5b0 : ((rd l0 x5_1) == x1_1) = false := beq_eq_false_iff_ne.mpr c5
            have c5b1 : ((rd l0 x5_1) != x1_1) = true := bne_iff_ne.mpr c5
            obtain rfl := Option.some.inj H
            have p172 : 0 ≤ (x5_1 : Int) := of_decide_eq_true (by first | (with_reducible assumption) | assumption)
            have q172 : x5_1 < (l0.length : Int) := of_decide_eq_true (by first | (with_reducible assumption) | assumption)
            obtain ⟨ad172, e172, hx172_0⟩ := Kd.at_int HR0.out x5_1 p172 q172
            cases e172
            replace p172 := eq_true p172
            replace q172 := eq_true q172
            go_wp2
            go_ret
            exact ⟨by first | rfl | (simp; done) | (simp [*]; done) | (simp only [IntWalk.i64_left]; done) | (simp [IntWalk.i64_left]; done) | (simp [*, IntWalk.i64_left]; done), by repeat (first | exact Drawn0.refl _ | apply Drawn0.step)⟩
        · rw [if_neg c4] at H
          exact absurd H (by simp)
      · rw [if_neg c3] at H
        have c3b0 : decide (x5_1 < (l0.length : Int)) = false := decide_eq_false c3
        clear c3
        obtain rfl := Option.some.inj H
        go_wp2
        go_ret
        exact ⟨by first | rfl | (simp; done) | (simp [*]; done) | (simp only [IntWalk.i64_left]; done) | (simp [IntWalk.i64_left]; done) | (simp [*, IntWalk.i64_left]; done), by repeat (first | exact Drawn0.refl _ | apply Drawn0.step)⟩

/-! ### laws_heldIntSS: function 14 -/
def laws_heldIntSS.l0 : Nat → List (List Int) → Int → Int → Option (Int)
  | 0, _, _, _ => none
  | k + 1, x0, x1, x5 => if x5 < (x0.length : Int) then (if 0 ≤ x5 then ((laws_heldIntS.f k (rd_L2 x0 x5) x1).bind fun t174 => (if t174 < 0 then (some (-1)) else (laws_heldIntSS.l0 k x0 t174 (wrap64 (x5 + 1))))) else (none)) else (some x1)
def laws_heldIntSS.f (k : Nat) (l0 : List (List Int)) (a1 : Int) : Option (Int) := laws_heldIntSS.l0 k l0 a1 0
theorem laws_heldIntSS.mono_l : ∀ k, (∀ y0 y1 y2, LeO (laws_heldIntSS.l0 k y0 y1 y2) (laws_heldIntSS.l0 (k + 1) y0 y1 y2))
  | 0 => fun _ _ _ r h => by simp [laws_heldIntSS.l0] at h
  | k + 1 => by
    have ih0 := laws_heldIntSS.mono_l k
    · intro y0 y1 y2
      unfold laws_heldIntSS.l0
      repeat' first
      | (with_reducible exact ih0 _ _ _)
      | (with_reducible exact laws_heldIntS.mono _ _ _)
      | (with_reducible exact LeO.refl _)
      | (with_reducible exact LeO.none _)
      | (with_reducible refine LeO.ite ?_ ?_)
      | (with_reducible refine LeO.bind ?_ (fun _ => ?_))
      | exact ih0 _ _ _
      | exact laws_heldIntS.mono _ _ _
      | exact LeO.none _
      | refine LeO.ite ?_ ?_
      | refine LeO.bind ?_ (fun _ => ?_)
theorem laws_heldIntSS.mono : ∀ a0 a1 k, LeO (laws_heldIntSS.f k a0 a1) (laws_heldIntSS.f (k + 1) a0 a1) := by
  intro a0 a1 k
  have ih0 := laws_heldIntSS.mono_l k
  unfold laws_heldIntSS.f
  repeat' first
      | (with_reducible exact ih0 _ _ _)
      | (with_reducible exact laws_heldIntS.mono _ _ _)
      | (with_reducible exact LeO.refl _)
      | (with_reducible exact LeO.none _)
      | (with_reducible refine LeO.ite ?_ ?_)
      | (with_reducible refine LeO.bind ?_ (fun _ => ?_))
      | exact ih0 _ _ _
      | exact laws_heldIntS.mono _ _ _
      | exact LeO.none _
      | refine LeO.ite ?_ ?_
      | refine LeO.bind ?_ (fun _ => ?_)
set_option maxHeartbeats 8000000 in
set_option maxRecDepth 100000 in
theorem laws_heldIntSS.calls (k : Nat) (A0 : Option Addr) (c0 : Nat) (l0 : List (List Int)) (a1 : Int) (r : Int) (w : World) (hr0 : Kd.C (Kd.slice 3 (Kd.int .i64)) w A0 l0.length l0) (hc0 : l0.length ≤ c0) (h : laws_heldIntSS.f k l0 a1 = some r) :
    Calls Tryd.prog 14 #[.slice A0 l0.length c0, .int .i64 a1] w fun e w' => e = .returned (.int .i64 r) ∧ Drawn0 w w' := by
  have HR0 := Aside0.mk hr0
  have HC0 := Aside0.mk hc0
  clear hr0 hc0
  have H : (laws_heldIntSS.l0 k l0 a1 0) = some r := h
  clear h
  have H' := Aside0.mk H
  clear H
  go_enter Tryd.func14, Tryd.ntmps14
  go_wp2
  go_loopg [1, 5] k (fun kq v1 v5 w' => ∃ (x1_1 : Int) (x5_1 : Int), v1 = .int .i64 x1_1 ∧ v5 = .int .i64 x5_1 ∧ Aside0 (laws_heldIntSS.l0 kq l0 x1_1 x5_1 = some r) ∧ Aside0 (kq ≤ k) ∧ Drawn0 w w')
  case atStart => exact ⟨(a1), (0), (by first | rfl | (simp; done) | (simp [*]; done) | (simp only [IntWalk.i64_left]; done) | (simp [IntWalk.i64_left]; done) | (simp [*, IntWalk.i64_left]; done)), (by first | rfl | (simp; done) | (simp [*]; done) | (simp only [IntWalk.i64_left]; done) | (simp [IntWalk.i64_left]; done) | (simp [*, IntWalk.i64_left]; done)), H', ⟨Nat.le_refl _⟩, by repeat (first | exact Drawn0.refl _ | apply Drawn0.step)⟩
  case round =>
    clear H'
    try clear c1
    try clear p2
    obtain ⟨x1_1, x5_1, rfl, rfl, HA, HK1, ⟨m1, rfl⟩⟩ := hrel
    cases gk with
    | zero => exact absurd HA.out (by simp [laws_heldIntSS.l0])
    | succ k1 =>
      have H := HA.out
      clear HA
      simp only [laws_heldIntSS.l0] at H
      by_cases c3 : x5_1 < (l0.length : Int)
      · rw [if_pos c3] at H
        have c3b0 : decide (x5_1 < (l0.length : Int)) = true := decide_eq_true c3
        clear c3
        by_cases c4 : 0 ≤ x5_1
        · rw [if_pos c4] at H
          have c4b0 : decide (0 ≤ x5_1) = true := decide_eq_true c4
          clear c4
          replace H := Option.bind_eq_some_iff.mp H
          obtain ⟨t174, A50, H⟩ := H
          replace H : (if t174 < 0 then (some (-1)) else (laws_heldIntSS.l0 k1 l0 t174 (wrap64 (x5_1 + 1)))) = some r := H
          have A5 := Aside0.mk A50
          clear A50
          by_cases c6 : t174 < 0
          · rw [if_pos c6] at H
            have c6b0 : decide (t174 < 0) = true := decide_eq_true c6
            clear c6
            obtain rfl := Option.some.inj H
            have p173 : 0 ≤ (x5_1 : Int) := of_decide_eq_true (by first | (with_reducible assumption) | assumption)
            have q173 : x5_1 < (l0.length : Int) := of_decide_eq_true (by first | (with_reducible assumption) | assumption)
            obtain ⟨ad173, A173_0, c173_0, e173, hx173_0, hl173_0, hi173_0⟩ := at_L2 HR0.out x5_1 p173 q173
            cases e173
            have HR173_0 := Aside0.mk hi173_0
            have HC173_0 := Aside0.mk hl173_0
            clear hi173_0 hl173_0
            replace p173 := eq_true p173
            replace q173 := eq_true q173
            go_wp2_with (first | ((with_reducible refine gate_callee (f := 28) rfl ?_); refine goesL_ (some 17) rfl rfl Tryd.func28 (by kernel_rfl) rfl #[.slice A173_0 (rd_L2 l0 x5_1).length c173_0, .int .i64 x1_1] rfl (by (try simp only [List.map_toArray, List.map_cons, List.map_nil]); first | done | rfl | (simp only [List.length_drop, List.length_take]; rfl)) ?_; (with_reducible refine (laws_heldIntS.calls k1 _ _ (rd_L2 l0 x5_1) x1_1 t174 _ ?side1 ?side2 A5.out).mono ?_); (case side1 => repeat (first | exact HR173_0.out | (with_reducible refine Kd.C_alloc ?_ _) | (with_reducible refine Kd.C_drewN ?_ _) | (with_reducible refine Kd.C_drew ?_))); (case side2 => exact HC173_0.out); rintro e w' ⟨rfl, ⟨nd, rfl⟩⟩; refine ⟨_, rfl, ?_⟩))
            go_ret
            exact ⟨by first | rfl | (simp; done) | (simp [*]; done) | (simp only [IntWalk.i64_left]; done) | (simp [IntWalk.i64_left]; done) | (simp [*, IntWalk.i64_left]; done), by repeat (first | exact Drawn0.refl _ | apply Drawn0.step)⟩
          · rw [if_neg c6] at H
            have c6b0 : decide (t174 < 0) = false := decide_eq_false c6
            clear c6
            have H' := Aside0.mk H
            clear H
            have p173 : 0 ≤ (x5_1 : Int) := of_decide_eq_true (by first | (with_reducible assumption) | assumption)
            have q173 : x5_1 < (l0.length : Int) := of_decide_eq_true (by first | (with_reducible assumption) | assumption)
            obtain ⟨ad173, A173_0, c173_0, e173, hx173_0, hl173_0, hi173_0⟩ := at_L2 HR0.out x5_1 p173 q173
            cases e173
            have HR173_0 := Aside0.mk hi173_0
            have HC173_0 := Aside0.mk hl173_0
            clear hi173_0 hl173_0
            replace p173 := eq_true p173
            replace q173 := eq_true q173
            go_wp2_with (first | ((with_reducible refine gate_callee (f := 28) rfl ?_); refine goesL_ (some 17) rfl rfl Tryd.func28 (by kernel_rfl) rfl #[.slice A173_0 (rd_L2 l0 x5_1).length c173_0, .int .i64 x1_1] rfl (by (try simp only [List.map_toArray, List.map_cons, List.map_nil]); first | done | rfl | (simp only [List.length_drop, List.length_take]; rfl)) ?_; (with_reducible refine (laws_heldIntS.calls k1 _ _ (rd_L2 l0 x5_1) x1_1 t174 _ ?side1 ?side2 A5.out).mono ?_); (case side1 => repeat (first | exact HR173_0.out | (with_reducible refine Kd.C_alloc ?_ _) | (with_reducible refine Kd.C_drewN ?_ _) | (with_reducible refine Kd.C_drew ?_))); (case side2 => exact HC173_0.out); rintro e w' ⟨rfl, ⟨nd, rfl⟩⟩; refine ⟨_, rfl, ?_⟩))
            go_roundg k1
            case measure => have := HK1.out; omega
            case rel => exact ⟨(t174), (wrap64 (x5_1 + 1)), (by first | rfl | (simp; done) | (simp [*]; done) | (simp only [IntWalk.i64_left]; done) | (simp [IntWalk.i64_left]; done) | (simp [*, IntWalk.i64_left]; done)), (by first | rfl | (simp; done) | (simp [*]; done) | (simp only [IntWalk.i64_left]; done) | (simp [IntWalk.i64_left]; done) | (simp [*, IntWalk.i64_left]; done)), H', ⟨by have := HK1.out; omega⟩, by repeat (first | exact Drawn0.refl _ | apply Drawn0.step)⟩
        · rw [if_neg c4] at H
          exact absurd H (by simp)
      · rw [if_neg c3] at H
        have c3b0 : decide (x5_1 < (l0.length : Int)) = false := decide_eq_false c3
        clear c3
        obtain rfl := Option.some.inj H
        go_wp2
        go_ret
        exact ⟨by first | rfl | (simp; done) | (simp [*]; done) | (simp only [IntWalk.i64_left]; done) | (simp [IntWalk.i64_left]; done) | (simp [*, IntWalk.i64_left]; done), by repeat (first | exact Drawn0.refl _ | apply Drawn0.step)⟩

-- laws_FnExactLetterCounts: function 3, by hand
def laws_FnExactLetterCounts.f (k : Nat) (l0 : List ByteArray) : Option Bool :=
  (laws_szStringS.f k l0 1048576).bind fun n => if n < 0 then some true else
  (laws_toStringS.f k l0).bind fun a => (spec_LetterCounts.f k a).bind fun w => (impl_LetterCounts.f k a).bind fun g =>
  (laws_eqIntSS.f k g.1 w.1).bind fun e1 => (laws_eqStringS.f k a a).bind fun e2 => (laws_markStringS.f k a 1).bind fun m1 =>
  (laws_markIntSS.f k g.1 1).bind fun m2 => (laws_heldIntSS.f k m2.2 1).bind fun q1 =>
  if e1 = true ∧ g.2 = w.2 ∧ e2 = true ∧ ¬ m1.1 < 0 ∧ ¬ q1 < 0 ∧ q1 = m2.1 then some true else none
theorem laws_FnExactLetterCounts.mono : ∀ a0 k, LeO (laws_FnExactLetterCounts.f k a0) (laws_FnExactLetterCounts.f (k + 1) a0) := fun _ k => by
  unfold laws_FnExactLetterCounts.f
  exact LeO.bind (laws_szStringS.mono _ _ _) fun _ => LeO.ite (LeO.refl _) (LeO.bind (laws_toStringS.mono _ _) fun _ => LeO.bind (spec_LetterCounts.mono _ _) fun _ => LeO.bind (impl_LetterCounts.mono _ _) fun _ => LeO.bind (laws_eqIntSS.mono _ _ _) fun _ => LeO.bind (laws_eqStringS.mono _ _ _) fun _ => LeO.bind (laws_markStringS.mono _ _ _) fun _ => LeO.bind (laws_markIntSS.mono _ _ _) fun _ => LeO.bind (laws_heldIntSS.mono _ _ _) fun _ => LeO.refl _)
/-- a row of rows that lies between two marks, in a world that wrote elsewhere -/
theorem lc_keep {W W' : World} {base : Nat} {P Q : Nat → Prop} {u : Value} {l : List (List Int)} (h : Kd.S (Kd.slice 3 (Kd.int .i64)) 32 W base P u l) (hk : Kept W W' Q) (hq : ∀ k, P k → k < W.heap.size → ¬ Q k) : Kd.S (Kd.slice 3 (Kd.int .i64)) 32 W' base P u l :=
  Kd.S_step h (fun k hp hlt => hk.2 k hlt (hq k hp hlt))
theorem lc_cut {W : World} {base : Nat} {u : Value} {l : List (List Int)} (h : Kd.S (Kd.slice 3 (Kd.int .i64)) 32 W base (fun _ => True) u l) : Kd.S (Kd.slice 3 (Kd.int .i64)) 32 W base (fun k => base ≤ k ∧ k < W.heap.size) u l :=
  Kd.S_mono (Kd.S_bound h) (fun k hk => ⟨hk.2.1, hk.2.2.1⟩)
set_option maxHeartbeats 8000000 in
set_option maxRecDepth 100000 in
theorem laws_FnExactLetterCounts.calls (k : Nat) (A0 : Option Addr) (c0 : Nat) (l0 : List ByteArray) (r : Bool) (w : World) (hr0 : Kd.C Kd.string w A0 l0.length l0) (hc0 : l0.length ≤ c0) (h : laws_FnExactLetterCounts.f k l0 = some r) :
    Calls Tryd.prog 3 #[.slice A0 l0.length c0] w fun e w' => e = .returned (.bool r) ∧ Below w.heap.size w w' := by
  have HR0 := Aside0.mk hr0
  have HC0 := Aside0.mk hc0
  clear hr0 hc0
  unfold laws_FnExactLetterCounts.f at h
  replace h := Option.bind_eq_some_iff.mp h
  obtain ⟨n, A1, h⟩ := h
  have hsz := fun (W : World) (hC : Kd.C Kd.string W A0 l0.length l0) => laws_szStringS.calls k A0 c0 l0 1048576 n W hC HC0.out A1
  by_cases c5 : n < 0
  · rw [if_pos c5] at h
    obtain rfl := Option.some.inj h
    have c5b : decide (n < 0) = true := decide_eq_true c5
    clear h A1
    go_enter Tryd.func3, Tryd.ntmps3
    go_wp2_with (go_at_call 6; (with_reducible refine (hsz _ HR0.out).mono ?_); rintro e w7 ⟨rfl, ⟨nd, rfl⟩⟩)
    go_ret
    exact ⟨rfl, pw_below_drewN (Below.refl _ _) _⟩
  · rw [if_neg c5] at h
    have c5b : decide (n < 0) = false := decide_eq_false c5
    replace h := Option.bind_eq_some_iff.mp h
    obtain ⟨a, A2, h⟩ := h
    replace h := Option.bind_eq_some_iff.mp h
    obtain ⟨⟨s1, s2⟩, A3, h⟩ := h
    replace h := Option.bind_eq_some_iff.mp h
    obtain ⟨⟨g1, g2⟩, A4, h⟩ := h
    replace h := Option.bind_eq_some_iff.mp h
    obtain ⟨e1, A5, h⟩ := h
    replace h := Option.bind_eq_some_iff.mp h
    obtain ⟨e2, A6, h⟩ := h
    replace h := Option.bind_eq_some_iff.mp h
    obtain ⟨⟨m1, l1⟩, A7, h⟩ := h
    replace h := Option.bind_eq_some_iff.mp h
    obtain ⟨⟨m2, l2⟩, A8, h⟩ := h
    replace h := Option.bind_eq_some_iff.mp h
    obtain ⟨q1, A9, h⟩ := h
    split at h
    case isFalse => cases h
    rename_i hall
    obtain ⟨rfl, hg, rfl, hm1, hq1, hq2⟩ := hall
    simp only at hg hm1 hq2
    subst hg
    replace h := Option.some.inj h
    subst h
    have B2 := Aside0.mk A2
    have B3 := Aside0.mk A3
    have B4 := Aside0.mk A4
    have B5 := Aside0.mk A5
    have B6 := Aside0.mk A6
    have B7 := Aside0.mk A7
    have B8 := Aside0.mk A8
    have B9 := Aside0.mk A9
    have hm1b : decide (m1 < 0) = false := decide_eq_false hm1
    have hq1b : decide (q1 < 0) = false := decide_eq_false hq1
    subst hq2
    clear A1 A2 A3 A4 A5 A6 A7 A8 A9 hm1 hq1 c5
    go_enter Tryd.func3, Tryd.ntmps3
    have hgg : (g2 != g2) = false := by simp
    have hgh : (g2 == g2) = true := by simp
    have heq := fun (W : World) (A A' : Option Addr) (c c' : Nat) h1 h2 h3 h4 => laws_eqIntSS.calls k A c g1 A' c' s1 true W h1 h2 h3 h4 B5.out
    go_upto_region 6 with (first
      | (go_at_call 6; (with_reducible refine (hsz _ HR0.out).mono ?_); rintro e w7 ⟨rfl, ⟨nd, rfl⟩⟩)
      | (go_at_call 8; (with_reducible refine (laws_toStringS.calls k A0 c0 l0 a _ (Kd.C_drewN HR0.out _) HC0.out B2.out).mono ?_); rintro e w1 ⟨va, rfl, ha, hb1⟩; obtain ⟨Aa, ca, rfl⟩ := Kd.R_slice ha; have HA1 := Aside0.mk (Kd.R_reads' ha); have HB1 := Aside0.mk (below_step (pw_below_drewN (Below.refl _ _) _) hb1); clear ha hb1)
      | (go_at_call 7; (with_reducible refine (spec_LetterCounts.calls k Aa ca a s1 g2 _ HA1.out.2.2 HA1.out.2.1 B3.out).mono ?_); rintro e w2 ⟨vs, rfl, hs, hb2⟩; obtain ⟨As, cs, rfl⟩ := Kd.S_slice hs; have HS2 := Aside0.mk (lc_cut hs); have HB2 := Aside0.mk (below_step HB1.out hb2); clear hs hb2))
    go_upto_region 7 with (first
      | (go_at_call 8; (with_reducible refine (laws_toStringS.calls k A0 c0 l0 a _ (Kd.C_below HR0.out HB2.out) HC0.out B2.out).mono ?_); rintro e w3 ⟨va, rfl, ha, hb3⟩; obtain ⟨Ax, cx, rfl⟩ := Kd.R_slice ha; have HX3 := Aside0.mk (show Kd.R Kd.string 9 w3 w2.heap.size (fun k => w2.heap.size ≤ k ∧ k < w3.heap.size) (.slice (Ax) a.length cx) a from Kd.R_mono (Kd.R_bound ha) (fun k hk => ⟨hk.2.1, hk.2.2.1⟩)); have HD3 := Aside0.mk hb3; clear ha hb3))
    go_upto_region 8 with (first
      | (go_at_call 9; (with_reducible refine (impl_LetterCounts.calls k Ax cx a g1 g2 _ (Kd.R_reads' HX3.out).2.2 (Kd.R_reads' HX3.out).2.1 B4.out).mono ?_); rintro e w4 ⟨vg, rfl, hs, hb4⟩; obtain ⟨Ag, cg, rfl⟩ := Kd.S_slice hs; have HG4 := Aside0.mk (lc_cut hs); have HD4 := Aside0.mk hb4; have HS4 := Aside0.mk (Kd.S_below (Kd.S_below HS2.out HD3.out) hb4); clear hs hb4))
    go_upto_region 10 with (first
      | (go_at_call 10; (with_reducible refine (heq _ Ag As cg cs (Kd.S_reads' HG4.out).2.2 (Kd.S_reads' HG4.out).2.1 (Kd.S_reads' HS4.out).2.2 (Kd.S_reads' HS4.out).2.1).mono ?_); rintro e w8 ⟨rfl, ⟨nd8, rfl⟩⟩))
    have HX4 := Aside0.mk (Kd.R_drewN (Kd.R_below HX3.out HD4.out) nd8)
    have HG5 := Aside0.mk (Kd.S_drewN HG4.out nd8)
    have HS5 := Aside0.mk (Kd.S_drewN HS4.out nd8)
    have HE5 := Aside0.mk (show Below w2.heap.size w2 (w4.drewN nd8) from pw_below_drewN (below_step HD3.out HD4.out) nd8)
    obtain ⟨W4, hw4⟩ : ∃ W, W = w4.drewN nd8 := ⟨_, rfl⟩
    rw [← hw4] at HX4 HG5 HS5 HE5
    have HW4 := Aside0.mk (show w4.heap.size = W4.heap.size by rw [hw4]; rfl)
    rw [← hw4]
    clear hw4 HG4 HS4
    go_upto_region 12 with (first
      | (go_at_call 8; (with_reducible refine (laws_toStringS.calls k A0 c0 l0 a _ (Kd.C_below (Kd.C_below HR0.out HB2.out) HE5.out) HC0.out B2.out).mono ?_); rintro e w5 ⟨va, rfl, ha, hb5⟩; obtain ⟨Ay, cy, rfl⟩ := Kd.R_slice ha; have HY5 := Aside0.mk (Kd.R_reads' ha); have HX5 := Aside0.mk (Kd.R_below HX4.out hb5); have HG6 := Aside0.mk (Kd.S_below HG5.out hb5); have HS6 := Aside0.mk (Kd.S_below HS5.out hb5); have HE6 := Aside0.mk (below_step HE5.out hb5); have HW5 := Aside0.mk hb5.size; clear ha hb5)
      | (go_at_call 11; (with_reducible refine (laws_eqStringS.calls k Ax cx a Ay cy a true _ (Kd.R_reads' HX5.out).2.2 (Kd.R_reads' HX5.out).2.1 HY5.out.2.2 HY5.out.2.1 B6.out).mono ?_); rintro e w8 ⟨rfl, ⟨nd9, rfl⟩⟩))
    go_upto_region 14 with (first
      | (go_at_call 12; (with_reducible refine (laws_markStringS.calls k (fun k => w2.heap.size ≤ k ∧ k < w3.heap.size) (.slice Ax a.length cx) a 1 m1 l1 w2 _ (pw_below_drewN HE6.out nd9) (Kd.R_drewN HX5.out nd9) B7.out).mono ?_); rintro e w6 ⟨rfl, -, hb6, hk6⟩; have HE7 := Aside0.mk hb6; have HG7 := Aside0.mk (lc_keep (Kd.S_drewN HG6.out nd9) hk6 (fun k hp _ hq => by omega)); have HS7 := Aside0.mk (lc_keep (Kd.S_drewN HS6.out nd9) hk6 (fun k hp _ hq => by omega)); have HW6 := Aside0.mk (show w5.heap.size ≤ w6.heap.size from hk6.1); clear hb6 hk6))
    go_upto_region 16 with (first
      | (go_at_call 10; (with_reducible refine (heq _ Ag As cg cs (Kd.S_reads' HG7.out).2.2 (Kd.S_reads' HG7.out).2.1 (Kd.S_reads' HS7.out).2.2 (Kd.S_reads' HS7.out).2.1).mono ?_); rintro e w8 ⟨rfl, ⟨ndA, rfl⟩⟩))
    go_upto_region 18 with (first
      | (go_at_call 13; (with_reducible refine (laws_markIntSS.calls k (fun k => w3.heap.size ≤ k ∧ k < w4.heap.size) (.slice Ag g1.length cg) g1 1 q1 l2 w2 _ (pw_below_drewN HE7.out ndA) (Kd.S_lower (Kd.S_drewN HG7.out ndA) HD3.out.size) B8.out).mono ?_); rintro e w9 ⟨rfl, hg9, hb9, hk9⟩; have HE9 := Aside0.mk hb9; have HG9 := Aside0.mk hg9; have HS9 := Aside0.mk (lc_keep (Kd.S_drewN HS7.out ndA) hk9 (fun k hp _ hq => by have := HD3.out.size; omega)); clear hg9 hb9 hk9))
    have el2 : l2.length = g1.length := (Kd.S_reads' HG9.out).1.symm
    have hheld := fun (W : World) (hS : Kd.S (Kd.slice 3 (Kd.int .i64)) 32 W w2.heap.size (fun k => w3.heap.size ≤ k ∧ k < w4.heap.size) (.slice Ag g1.length cg) l2) => laws_heldIntSS.calls k Ag cg l2 1 q1 W (Kd.S_reads' hS).2.2 (by have := (Kd.S_reads' hS).2.1; omega) B9.out
    rw [el2] at hheld
    have EL2 := Aside0.mk el2
    clear el2
    go_upto_region 20 with (first
      | (go_at_call 14; (with_reducible refine (hheld _ HG9.out).mono ?_); rintro e w8 ⟨rfl, ⟨ndB, rfl⟩⟩))
    go_upto_region 25 with (first
      | (go_at_call 8; (with_reducible refine (laws_toStringS.calls k A0 c0 l0 a _ (Kd.C_drewN (Kd.C_below (Kd.C_below HR0.out HB2.out) HE9.out) ndB) HC0.out B2.out).mono ?_); rintro e wA ⟨va, rfl, ha, hbA⟩; obtain ⟨Az, cz, rfl⟩ := Kd.R_slice ha; have HZA := Aside0.mk (Kd.R_reads' ha); have HGA := Aside0.mk (Kd.S_below (Kd.S_drewN HG9.out ndB) hbA); have HSA := Aside0.mk (Kd.S_below (Kd.S_drewN HS9.out ndB) hbA); have HEA := Aside0.mk (below_step (pw_below_drewN HE9.out ndB) hbA); clear ha hbA)
      | (go_at_call 9; (with_reducible refine (impl_LetterCounts.calls k Az cz a g1 g2 _ HZA.out.2.2 HZA.out.2.1 B4.out).mono ?_); rintro e wB ⟨vg, rfl, hs, hbB⟩; obtain ⟨Ah, ch, rfl⟩ := Kd.S_slice hs; have HHB := Aside0.mk (Kd.S_reads' hs); have HGB := Aside0.mk (Kd.S_below HGA.out hbB); have HSB := Aside0.mk (Kd.S_below HSA.out hbB); have HEB := Aside0.mk (below_step HEA.out hbB); clear hs hbB))
    go_upto_region 27 with (first
      | (go_at_call 10; (with_reducible refine (heq _ Ah As ch cs HHB.out.2.2 HHB.out.2.1 (Kd.S_reads' HSB.out).2.2 (Kd.S_reads' HSB.out).2.1).mono ?_); rintro e w8 ⟨rfl, ⟨ndC, rfl⟩⟩))
    go_wp2_with (first
      | (go_at_call 14; (with_reducible refine (hheld _ (Kd.S_drewN HGB.out ndC)).mono ?_); rintro e w8 ⟨rfl, ⟨ndD, rfl⟩⟩))
    go_ret
    exact ⟨rfl, below_step HB2.out (pw_below_drewN HEB.out _)⟩

end Go.Proofs.YtfjadaaahkomnaaDoor.XFnExactLetterCounts
