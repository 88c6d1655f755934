/- CountWithCounts of the program and of the reference answer alike for all arguments, and leave them as they were: no condition. -/
import Derived.Test.YtfinmeglakcmbaaXFnExactCountWithCountsx2
namespace Go.Proofs.Ytfinmeglakcmbaa.Pure
set_option linter.unusedSimpArgs false
set_option linter.unusedVariables false
open Go.RowKit Go.Proofs.Ytfinmeglakcmbaa.XFnExactCountWithCounts Go.Proofs.YtfinmeglakcmbaaW.PrintWords Go.Proofs.YtfinmeglakcmbaaW.PrintLast Go.Proofs.YtfinmeglakcmbaaW.PrintMore

theorem w1 {i : Int} (h0 : 0 ≤ i) (h : i < 9223372036854775807) : wrap64 (i + 1) = i + 1 := by unfold wrap64; omega
theorem w64 {i : Int} (h0 : -9223372036854775808 ≤ i) (h : i < 9223372036854775808) : wrap64 i = i := by unfold wrap64; omega
theorem rd_nat (l : List Int) (i : Nat) (h : i < l.length) : rd l (i : Int) = l[i] := by
  unfold rd; simp [List.getD_eq_getElem?_getD, h]
theorem Ev.pos {α : Type} {c : Prop} [Decidable c] {g g' : Nat → Option α} {r : α} (h : c) (k : Ev g r) : Ev (fun n => if c then g n else g' n) r :=
  Ev.congr (fun n => if_pos h) k
theorem Ev.neg {α : Type} {c : Prop} [Decidable c] {g g' : Nat → Option α} {r : α} (h : ¬ c) (k : Ev g' r) : Ev (fun n => if c then g n else g' n) r :=
  Ev.congr (fun n => if_neg h) k
theorem Ev.cases {α : Type} {c : Prop} [Decidable c] {g g' : Nat → Option α} {r : α} (h : c → Ev g r) (k : ¬ c → Ev g' r) : Ev (fun n => if c then g n else g' n) r := by
  by_cases e : c
  · exact Ev.pos e (h e)
  · exact Ev.neg e (k e)
/-- a call whose answer is known at every number of rounds -/
theorem Ev.known {α β : Type} {g : Nat → Option α} {f : Nat → α → Option β} {a : α} {r : β} (h : ∀ n, g n = some a) (k : Ev (fun n => f n a) r) : Ev (fun n => (g n).bind (f n)) r :=
  Ev.bind ⟨0, fun n _ => h n⟩ k
/-- one bind of two, joined with what follows -/
theorem Ev.pure {α : Type} {r q : α} (h : r = q) : Ev (fun _ => some r) q := h ▸ Ev.now r
theorem Ev.succ {α : Type} {g : Nat → Option α} {r : α} (h : Ev (fun k => g (k + 1)) r) : Ev g r := Ev.step (f := fun k => g (k + 1)) (fun _ => rfl) h

theorem toIntS_l0 (l : List Int) (hl : l.length ≤ 1048576) : ∀ (d i : Nat) (xs : List Int), i + d = l.length → xs.length = l.length → xs.take i = l.take i → Ev (fun k => laws_toIntS.l0 k l xs (i : Int)) l
  | 0, i, xs, hd, hx, ht => by
    refine Ev.step (f := fun _ => some xs) (fun k => ?_) (Ev.pure ?_)
    · simp only [laws_toIntS.l0]; rw [if_neg (by omega)]
    · rw [List.take_of_length_le (by omega), List.take_of_length_le (by omega)] at ht; exact ht
  | d + 1, i, xs, hd, hx, ht => by
    refine Ev.step (f := fun k => laws_toIntS.l0 k l (xs.set i (rd l i)) ((i + 1 : Nat) : Int)) (fun k => ?_) (toIntS_l0 l hl d (i + 1) _ (by omega) (by simp [hx]) ?_)
    · simp only [laws_toIntS.l0]; rw [if_pos (by omega), if_pos (by omega), if_pos (by omega), w1 (by omega) (by omega)]; simp
    · have h1 : i < l.length := by omega
      have h2 : i < (xs.set i (rd l i)).length := by simp; omega
      have e := rd_nat l i h1
      rw [List.take_succ_eq_append_getElem h2, List.take_succ_eq_append_getElem h1, List.take_set, List.set_eq_of_length_le (by simp; omega), ht]
      simp [e]
theorem toIntS_ev (l : List Int) (hl : l.length ≤ 1048576) : Ev (fun k => laws_toIntS.f k l) l := by
  unfold laws_toIntS.f
  refine Ev.pos (by omega) (Ev.pos (by omega) ?_)
  have h := toIntS_l0 l hl l.length 0 (List.replicate l.length 0) (by omega) (by simp) (by simp)
  simpa using h
theorem eqIntS_l0 (l : List Int) (hl : l.length ≤ 1048576) : ∀ (d i : Nat), i + d = l.length → Ev (fun k => laws_eqIntS.l0 k l l (i : Int)) true
  | 0, i, hd => Ev.step (f := fun _ => some true) (fun k => by simp only [laws_eqIntS.l0]; rw [if_neg (by omega)]) (Ev.now _)
  | d + 1, i, hd => by
    refine Ev.step (f := fun k => laws_eqIntS.l0 k l l ((i + 1 : Nat) : Int)) (fun k => ?_) (eqIntS_l0 l hl d (i + 1) (by omega))
    simp only [laws_eqIntS.l0]; rw [if_pos (by omega), if_pos (by omega), if_pos (by omega), if_pos trivial, w1 (by omega) (by omega)]; simp
theorem eqIntS_ev (l : List Int) (hl : l.length ≤ 1048576) : Ev (fun k => laws_eqIntS.f k l l) true := by
  unfold laws_eqIntS.f
  exact Ev.pos rfl (by simpa using eqIntS_l0 l hl l.length 0 (by omega))

theorem spec_in (a b c : Int) : spec_l1In.f a b c = some (decide (b ≤ a ∧ a ≤ c)) := by
  unfold spec_l1In.f
  by_cases h : a ≥ b
  · rw [if_pos h]; simp [h]
  · rw [if_neg h]; simp; omega
theorem spec_all_l0 (a b : Int) (l : List Int) (hl : l.length ≤ 1048576) : ∀ (d i : Nat), i + d = l.length → Ev (fun k => spec_l1All.l0 k a b l (l.length : Int) (i : Int)) ((l.drop i).all fun x => decide (a ≤ x ∧ x ≤ b))
  | 0, i, hd => Ev.step (f := fun _ => some true) (fun k => by simp only [spec_l1All.l0]; rw [if_neg (by omega)]) (Ev.pure (by rw [List.drop_of_length_le (by omega)]; rfl))
  | d + 1, i, hd => by
    have h1 : i < l.length := by omega
    have ih := spec_all_l0 a b l hl d (i + 1) (by omega)
    rw [List.drop_eq_getElem_cons h1, List.all_cons]
    refine Ev.step (f := fun k => if (decide (a ≤ l[i] ∧ l[i] ≤ b)) = true then spec_l1All.l0 k a b l (l.length : Int) ((i + 1 : Nat) : Int) else some false) (fun k => ?_) ?_
    · simp only [spec_l1All.l0, spec_in]; rw [if_pos (by omega), if_pos (by omega), if_pos (by omega), w1 (by omega) (by omega), rd_nat l i h1]; simp
    · refine Ev.cases (fun h => ?_) (fun h => ?_)
      · rw [h, Bool.true_and]; exact ih
      · rw [Bool.eq_false_iff.mpr h, Bool.false_and]; exact Ev.now _
theorem spec_all (l : List Int) (a b : Int) (hl : l.length ≤ 1048576) : Ev (fun k => spec_l1All.f k l a b) (l.all fun x => decide (a ≤ x ∧ x ≤ b)) := by
  have h := spec_all_l0 a b l hl l.length 0 (by omega)
  simpa [spec_l1All.f] using h

theorem cw_eq : ∀ k, (∀ a b c d e, impl_CountWithCounts.l0 k a b c d e = spec_CountWithCounts.l0 k a b c d e) ∧ (∀ a b c d e f g, impl_CountWithCounts.l1 k a b c d e f g = spec_CountWithCounts.l1 k a b c d e f g)
  | 0 => ⟨fun _ _ _ _ _ => rfl, fun _ _ _ _ _ _ _ => rfl⟩
  | k + 1 => ⟨fun _ _ _ _ _ => by simp only [impl_CountWithCounts.l0, spec_CountWithCounts.l0, (cw_eq k).2], fun _ _ _ _ _ _ _ => by simp only [impl_CountWithCounts.l1, spec_CountWithCounts.l1, (cw_eq k).1, (cw_eq k).2]⟩
theorem cw_inner (l : List Int) (n i : Int) (hn : 0 ≤ n) (hn2 : n ≤ 12) (h : ∀ s p, ∃ r, Ev (fun k => spec_CountWithCounts.l0 k s p l (l.length : Int) (wrap64 (i + 1))) r) : ∀ (d : Nat) (x s p : Int), x + d = n + 1 → 1 ≤ x → ∃ r, Ev (fun k => spec_CountWithCounts.l1 k s p n x l (l.length : Int) i) r
  | 0, x, s, p, hd, hx => by
    obtain ⟨r, hr⟩ := h s p
    refine ⟨r, Ev.succ ?_⟩
    simp only [spec_CountWithCounts.l1]
    exact Ev.neg (by omega) hr
  | d + 1, x, s, p, hd, hx => by
    obtain ⟨r, hr⟩ := cw_inner l n i hn hn2 h d (x + 1) (wrap64 (Int.tdiv (wrap64 (s * (wrap64 (p + 1)))) x)) (wrap64 (p + 1)) (by omega) (by omega)
    refine ⟨r, Ev.succ ?_⟩
    simp only [spec_CountWithCounts.l1, w1 (show 0 ≤ x by omega) (show x < 9223372036854775807 by omega)]
    exact Ev.pos (by omega) (Ev.neg (by omega) hr)
theorem cw_outer (l : List Int) (hl : l.length = 3) (hb : ∀ x ∈ l, 0 ≤ x ∧ x ≤ 12) : ∀ (d i : Nat) (s p : Int), i + d = l.length → ∃ r, Ev (fun k => spec_CountWithCounts.l0 k s p l (l.length : Int) (i : Int)) r
  | 0, i, s, p, hd => ⟨(s, true), by
      refine Ev.succ ?_
      simp only [spec_CountWithCounts.l0]
      exact Ev.neg (by omega) (Ev.now _)⟩
  | d + 1, i, s, p, hd => by
    have h1 : i < l.length := by omega
    have hm := hb l[i] (List.getElem_mem h1)
    obtain ⟨r, hr⟩ := cw_inner l (rd l i) i (by rw [rd_nat l i h1]; exact hm.1) (by rw [rd_nat l i h1]; exact hm.2) (fun s p => by
      rw [w1 (by omega) (by omega)]; exact cw_outer l hl hb d (i + 1) s p (by omega)) (rd l i).toNat 1 s p (by rw [rd_nat l i h1]; omega) (by omega)
    refine ⟨r, Ev.succ ?_⟩
    simp only [spec_CountWithCounts.l0]
    exact Ev.pos (by omega) (Ev.pos (by omega) (Ev.pos (by omega) hr))
theorem min3 (a b c : Int) : Ev (fun k => slices_Min_int_int.f k [a, b, c]) (mn (mn a b) c) := by
  refine ⟨3, fun k hk => ?_⟩
  obtain ⟨k, rfl⟩ : ∃ m, k = m + 3 := ⟨k - 3, by omega⟩
  simp [slices_Min_int_int.f, slices_Min_int_int.l0, rd, wrap64]
theorem max3 (a b c : Int) : Ev (fun k => slices_Max_int_int.f k [a, b, c]) (mx (mx a b) c) := by
  refine ⟨3, fun k hk => ?_⟩
  obtain ⟨k, rfl⟩ : ∃ m, k = m + 3 := ⟨k - 3, by omega⟩
  simp [slices_Max_int_int.f, slices_Max_int_int.l0, rd, wrap64]
theorem sum3 (a b c : Int) : Ev (fun k => impl_sumWeights.f k [a, b, c]) (wrap64 (wrap64 (wrap64 (0 + a) + b) + c)) := by
  refine ⟨4, fun k hk => ?_⟩
  obtain ⟨k, rfl⟩ : ∃ m, k = m + 4 := ⟨k - 4, by omega⟩
  have e1 : wrap64 (0 + 1) = 1 := by unfold wrap64; omega
  have e2 : wrap64 (1 + 1) = 2 := by unfold wrap64; omega
  have e3 : wrap64 (2 + 1) = 3 := by unfold wrap64; omega
  simp only [impl_sumWeights.f, impl_sumWeights.l0, List.length_cons, List.length_nil, e1, e2, e3]
  simp [rd]
theorem areCounts_same (l : List Int) (hl : l.length ≤ 1048576) : ∃ b, Ev (fun k => spec_leCounts.f k l) b ∧ Ev (fun k => impl_areCounts.f k l) b ∧ (b = true → l.length = 3 ∧ ∀ x ∈ l, 0 ≤ x ∧ x ≤ 12) := by
  unfold spec_leCounts.f impl_areCounts.f
  by_cases h3 : l.length = 3
  · match l, h3 with
    | [a, b, c], h3 =>
      have hs := spec_all [a, b, c] 0 12 (by simp)
      by_cases hb : (0 ≤ a ∧ a ≤ 12) ∧ (0 ≤ b ∧ b ≤ 12) ∧ (0 ≤ c ∧ c ≤ 12)
      · have hs' : ([a, b, c].all fun x => decide (0 ≤ x ∧ x ≤ 12)) = true := by simp; omega
        rw [hs'] at hs
        refine ⟨decide (a + b + c ≤ 12), Ev.pos (by simp) (Ev.bind hs (Ev.pos rfl (Ev.pos (by simp) (Ev.pos (by simp) (Ev.pos (by simp) (Ev.pure ?_)))))), Ev.pos (by simp) (Ev.bind (min3 a b c) (Ev.pos ?_ (Ev.bind (max3 a b c) (Ev.pos ?_ (Ev.bind (sum3 a b c) (Ev.pure ?_)))))), fun _ => ⟨rfl, by simp; omega⟩⟩
        · simp only [rd, Int.toNat_zero, List.getD_cons_zero, Int.toNat_one, List.getD_cons_succ, show (2 : Int).toNat = 2 from rfl]
          rw [w64 (i := a + b) (by omega) (by omega), w64 (by omega) (by omega)]
        · unfold mn; split <;> split <;> omega
        · unfold mx; split <;> split <;> omega
        · rw [w64 (i := 0 + a) (by omega) (by omega), w64 (i := 0 + a + b) (by omega) (by omega), w64 (by omega) (by omega), Int.zero_add]
      · have hs' : ([a, b, c].all fun x => decide (0 ≤ x ∧ x ≤ 12)) = false := by
          rw [Bool.eq_false_iff]; intro h; simp at h; omega
        rw [hs'] at hs
        refine ⟨false, Ev.pos (by simp) (Ev.bind hs (Ev.neg (by simp) (Ev.now _))), Ev.pos (by simp) (Ev.bind (min3 a b c) (Ev.cases (fun hm => Ev.bind (max3 a b c) (Ev.neg ?_ (Ev.now _))) (fun _ => Ev.now _))), fun h => by cases h⟩
        revert hm; unfold mn mx; split <;> split <;> split <;> split <;> omega
  · exact ⟨false, Ev.neg (by omega) (Ev.now _), Ev.neg (by omega) (Ev.now _), fun h => by cases h⟩
theorem cw_same (l : List Int) (hl : l.length ≤ 1048576) : ∃ r, Ev (fun k => spec_CountWithCounts.f k l) r ∧ Ev (fun k => impl_CountWithCounts.f k l) r := by
  unfold spec_CountWithCounts.f impl_CountWithCounts.f
  obtain ⟨b, h1, h2, hb⟩ := areCounts_same l hl
  cases b with
  | false => exact ⟨(0, false), Ev.bind h1 (Ev.neg (by simp) (Ev.now _)), Ev.bind h2 (Ev.neg (by simp) (Ev.now _))⟩
  | true =>
    obtain ⟨h3, hx⟩ := hb rfl
    obtain ⟨r, hr⟩ := cw_outer l h3 hx l.length 0 1 0 (by omega)
    exact ⟨r, Ev.bind h1 (Ev.pos rfl hr), Ev.bind h2 (Ev.pos rfl (Ev.congr (fun k => (cw_eq k).1 _ _ _ _ _) hr))⟩
theorem FnExactCountWithCounts : laws_FnExactCountWithCounts.Pure := by
  intro l _ _ _
  refine Ev.rounds ?_
  unfold laws_FnExactCountWithCounts.f
  refine Ev.cases (fun _ => Ev.now _) (fun hl => ?_)
  have hl' : l.length ≤ 1048576 := by omega
  obtain ⟨r, h1, h2⟩ := cw_same l hl'
  refine Ev.bind (toIntS_ev l hl') (Ev.bind h1 (Ev.bind (toIntS_ev l hl') (Ev.bind h2 (Ev.pos rfl ?_))))
  refine Ev.succ ?_
  simp only [laws_FnExactCountWithCounts.j0]
  refine Ev.neg (by simp) ?_
  exact Ev.bind (toIntS_ev l hl') (Ev.bind (eqIntS_ev l hl') (Ev.pos rfl (Ev.now _)))
end Go.Proofs.Ytfinmeglakcmbaa.Pure
