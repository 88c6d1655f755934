/- SplitCost of the program and of the reference answer alike for all arguments, and leave them as they were: no condition. -/
import Derived.Test.YtfinmeglakcmbaaXFnExactSplitCostx5
namespace Go.Proofs.Ytfinmeglakcmbaa.Pure
set_option linter.unusedSimpArgs false
set_option linter.unusedVariables false
open Go.RowKit Go.Proofs.Ytfinmeglakcmbaa.XFnExactSplitCost Go.Proofs.YtfinmeglakcmbaaW.PrintWords Go.Proofs.YtfinmeglakcmbaaW.PrintLast Go.Proofs.YtfinmeglakcmbaaW.PrintMore

theorem w1 {i : Int} (h0 : 0 ≤ i) (h : i < 9223372036854775807) : wrap64 (i + 1) = i + 1 := by unfold wrap64; omega
theorem w64 {i : Int} (h0 : -9223372036854775808 ≤ i) (h : i < 9223372036854775808) : wrap64 i = i := by unfold wrap64; omega
theorem rd_nat (l : List Int) (i : Nat) (h : i < l.length) : rd l (i : Int) = l[i] := by
  unfold rd; simp [List.getD_eq_getElem?_getD, h]
theorem Ev.pos {α : Type} {c : Prop} [Decidable c] {g g' : Nat → Option α} {r : α} (h : c) (k : Ev g r) : Ev (fun n => if c then g n else g' n) r :=
  Ev.congr (fun n => if_pos h) k
theorem Ev.neg {α : Type} {c : Prop} [Decidable c] {g g' : Nat → Option α} {r : α} (h : ¬ c) (k : Ev g' r) : Ev (fun n => if c then g n else g' n) r :=
  Ev.congr (fun n => if_neg h) k
theorem Ev.cases {α : Type} {c : Prop} [Decidable c] {g g' : Nat → Option α} {r : α} (h : c → Ev g r) (k : ¬ c → Ev g' r) : Ev (fun n => if c then g n else g' n) r := by
  by_cases e : c
  · exact Ev.pos e (h e)
  · exact Ev.neg e (k e)
/-- a call whose answer is known at every number of rounds -/
theorem Ev.known {α β : Type} {g : Nat → Option α} {f : Nat → α → Option β} {a : α} {r : β} (h : ∀ n, g n = some a) (k : Ev (fun n => f n a) r) : Ev (fun n => (g n).bind (f n)) r :=
  Ev.bind ⟨0, fun n _ => h n⟩ k
/-- one bind of two, joined with what follows -/
theorem Ev.pure {α : Type} {r q : α} (h : r = q) : Ev (fun _ => some r) q := h ▸ Ev.now r
theorem Ev.succ {α : Type} {g : Nat → Option α} {r : α} (h : Ev (fun k => g (k + 1)) r) : Ev g r := Ev.step (f := fun k => g (k + 1)) (fun _ => rfl) h

theorem toIntS_l0 (l : List Int) (hl : l.length ≤ 1048576) : ∀ (d i : Nat) (xs : List Int), i + d = l.length → xs.length = l.length → xs.take i = l.take i → Ev (fun k => laws_toIntS.l0 k l xs (i : Int)) l
  | 0, i, xs, hd, hx, ht => by
    refine Ev.step (f := fun _ => some xs) (fun k => ?_) (Ev.pure ?_)
    · simp only [laws_toIntS.l0]; rw [if_neg (by omega)]
    · rw [List.take_of_length_le (by omega), List.take_of_length_le (by omega)] at ht; exact ht
  | d + 1, i, xs, hd, hx, ht => by
    refine Ev.step (f := fun k => laws_toIntS.l0 k l (xs.set i (rd l i)) ((i + 1 : Nat) : Int)) (fun k => ?_) (toIntS_l0 l hl d (i + 1) _ (by omega) (by simp [hx]) ?_)
    · simp only [laws_toIntS.l0]; rw [if_pos (by omega), if_pos (by omega), if_pos (by omega), w1 (by omega) (by omega)]; simp
    · have h1 : i < l.length := by omega
      have h2 : i < (xs.set i (rd l i)).length := by simp; omega
      have e := rd_nat l i h1
      rw [List.take_succ_eq_append_getElem h2, List.take_succ_eq_append_getElem h1, List.take_set, List.set_eq_of_length_le (by simp; omega), ht]
      simp [e]
theorem toIntS_ev (l : List Int) (hl : l.length ≤ 1048576) : Ev (fun k => laws_toIntS.f k l) l := by
  unfold laws_toIntS.f
  refine Ev.pos (by omega) (Ev.pos (by omega) ?_)
  have h := toIntS_l0 l hl l.length 0 (List.replicate l.length 0) (by omega) (by simp) (by simp)
  simpa using h
theorem eqIntS_l0 (l : List Int) (hl : l.length ≤ 1048576) : ∀ (d i : Nat), i + d = l.length → Ev (fun k => laws_eqIntS.l0 k l l (i : Int)) true
  | 0, i, hd => Ev.step (f := fun _ => some true) (fun k => by simp only [laws_eqIntS.l0]; rw [if_neg (by omega)]) (Ev.now _)
  | d + 1, i, hd => by
    refine Ev.step (f := fun k => laws_eqIntS.l0 k l l ((i + 1 : Nat) : Int)) (fun k => ?_) (eqIntS_l0 l hl d (i + 1) (by omega))
    simp only [laws_eqIntS.l0]; rw [if_pos (by omega), if_pos (by omega), if_pos (by omega), if_pos trivial, w1 (by omega) (by omega)]; simp
theorem eqIntS_ev (l : List Int) (hl : l.length ≤ 1048576) : Ev (fun k => laws_eqIntS.f k l l) true := by
  unfold laws_eqIntS.f
  exact Ev.pos rfl (by simpa using eqIntS_l0 l hl l.length 0 (by omega))

theorem spec_in (a b c : Int) : spec_l1In.f a b c = some (decide (b ≤ a ∧ a ≤ c)) := by
  unfold spec_l1In.f
  by_cases h : a ≥ b
  · rw [if_pos h]; simp [h]
  · rw [if_neg h]; simp; omega
theorem spec_all_l0 (a b : Int) (l : List Int) (hl : l.length ≤ 1048576) : ∀ (d i : Nat), i + d = l.length → Ev (fun k => spec_l1All.l0 k a b l (l.length : Int) (i : Int)) ((l.drop i).all fun x => decide (a ≤ x ∧ x ≤ b))
  | 0, i, hd => Ev.step (f := fun _ => some true) (fun k => by simp only [spec_l1All.l0]; rw [if_neg (by omega)]) (Ev.pure (by rw [List.drop_of_length_le (by omega)]; rfl))
  | d + 1, i, hd => by
    have h1 : i < l.length := by omega
    have ih := spec_all_l0 a b l hl d (i + 1) (by omega)
    rw [List.drop_eq_getElem_cons h1, List.all_cons]
    refine Ev.step (f := fun k => if (decide (a ≤ l[i] ∧ l[i] ≤ b)) = true then spec_l1All.l0 k a b l (l.length : Int) ((i + 1 : Nat) : Int) else some false) (fun k => ?_) ?_
    · simp only [spec_l1All.l0, spec_in]; rw [if_pos (by omega), if_pos (by omega), if_pos (by omega), w1 (by omega) (by omega), rd_nat l i h1]; simp
    · refine Ev.cases (fun h => ?_) (fun h => ?_)
      · rw [h, Bool.true_and]; exact ih
      · rw [Bool.eq_false_iff.mpr h, Bool.false_and]; exact Ev.now _
theorem spec_all (l : List Int) (a b : Int) (hl : l.length ≤ 1048576) : Ev (fun k => spec_l1All.f k l a b) (l.all fun x => decide (a ≤ x ∧ x ≤ b)) := by
  have h := spec_all_l0 a b l hl l.length 0 (by omega)
  simpa [spec_l1All.f] using h

theorem impl_in_eq (a b c : Int) : impl_in.f a b c = some (decide (b ≤ a ∧ a ≤ c)) := by
  unfold impl_in.f
  by_cases h : b ≤ a
  · rw [if_pos h]; simp [h]
  · rw [if_neg h]; simp [h]

theorem impl_areWeights__1_l0 (l : List Int) (hl : l.length ≤ 1048576) : ∀ (d i : Nat), i + d = l.length → ∃ r, Ev (fun k => slices_IndexFunc_int_int__at_impl_areWeights__1.l0 k l (l.length : Int) (i : Int)) r ∧ decide (r ≥ 0) = (l.drop i).any fun x => !decide (1 ≤ x ∧ x ≤ 100)
  | 0, i, hd => ⟨-1, Ev.step (f := fun _ => some (-1)) (fun k => by simp only [slices_IndexFunc_int_int__at_impl_areWeights__1.l0]; rw [if_neg (by omega)]) (Ev.now _), by rw [List.drop_of_length_le (by omega)]; rfl⟩
  | d + 1, i, hd => by
    have h1 : i < l.length := by omega
    obtain ⟨r, ih, hr⟩ := impl_areWeights__1_l0 l hl d (i + 1) (by omega)
    have hs : ∀ k, slices_IndexFunc_int_int__at_impl_areWeights__1.l0 (k + 1) l (l.length : Int) (i : Int) = if (!decide (1 ≤ l[i] ∧ l[i] ≤ 100)) = true then some (i : Int) else slices_IndexFunc_int_int__at_impl_areWeights__1.l0 k l (l.length : Int) ((i + 1 : Nat) : Int) := by
      intro k
      simp only [slices_IndexFunc_int_int__at_impl_areWeights__1.l0, impl_areWeights__1.f, impl_in_eq]; rw [if_pos (by omega), if_pos (by omega), if_pos (by omega), w1 (by omega) (by omega), rd_nat l i h1]; simp
    rw [List.drop_eq_getElem_cons h1, List.any_cons]
    by_cases h : (!decide (1 ≤ l[i] ∧ l[i] ≤ 100)) = true
    · exact ⟨i, Ev.step hs (Ev.pos h (Ev.now _)), by rw [h]; simp⟩
    · exact ⟨r, Ev.step hs (Ev.neg h ih), by rw [hr, Bool.eq_false_iff.mpr h, Bool.false_or]⟩
theorem impl_areWeights__1_contains (l : List Int) (hl : l.length ≤ 1048576) : Ev (fun k => slices_ContainsFunc_int_int__at_impl_areWeights__1.f k l) (l.any fun x => !decide (1 ≤ x ∧ x ≤ 100)) := by
  obtain ⟨r, h, hr⟩ := impl_areWeights__1_l0 l hl l.length 0 (by omega)
  unfold slices_ContainsFunc_int_int__at_impl_areWeights__1.f slices_IndexFunc_int_int__at_impl_areWeights__1.f
  refine Ev.bind (by simpa using h) (Ev.pure ?_)
  simpa using hr
theorem impl_areWeights_ev (l : List Int) (hl : l.length ≤ 1048576) : Ev (fun k => impl_areWeights.f k l) (decide (1 ≤ (l.length : Int) ∧ (l.length : Int) ≤ 12) && l.all fun x => decide (1 ≤ x ∧ x ≤ 100)) := by
  unfold impl_areWeights.f
  refine Ev.known (fun n => impl_in_eq _ _ _) (Ev.cases (fun h => ?_) (fun h => ?_))
  · refine Ev.bind (impl_areWeights__1_contains l hl) (Ev.pure ?_)
    rw [h, Bool.true_and, List.any_eq_not_all_not, Bool.not_not]; simp
  · refine Ev.pure ?_
    rw [Bool.eq_false_iff.mpr h, Bool.false_and]

theorem beWeights_ev (l : List Int) (hl : l.length ≤ 1048576) : Ev (fun k => spec_beWeights.f k l) (decide (1 ≤ (l.length : Int) ∧ (l.length : Int) ≤ 12) && l.all fun x => decide (1 ≤ x ∧ x ≤ 100)) := by
  unfold spec_beWeights.f
  refine Ev.known (fun n => spec_in _ _ _) (Ev.cases (fun h => ?_) (fun h => ?_))
  · exact Ev.bind (spec_all l _ _ hl) (Ev.pure (by rw [h, Bool.true_and]))
  · exact Ev.pure (by rw [Bool.eq_false_iff.mpr h, Bool.false_and])

/-- sums, as the machine adds -/
def wsum (s : Int) : List Int → Int
  | [] => s
  | x :: l => wsum (wrap64 (s + x)) l
theorem sumWeights_l0 (l : List Int) (hl : l.length ≤ 1048576) : ∀ (d i : Nat) (s : Int), i + d = l.length → Ev (fun k => impl_sumWeights.l0 k s l (l.length : Int) (i : Int)) (wsum s (l.drop i))
  | 0, i, s, hd => by
    refine Ev.succ ?_
    simp only [impl_sumWeights.l0]
    exact Ev.neg (by omega) (Ev.pure (by rw [List.drop_of_length_le (by omega)]; rfl))
  | d + 1, i, s, hd => by
    have h1 : i < l.length := by omega
    have ih := sumWeights_l0 l hl d (i + 1) (wrap64 (s + l[i])) (by omega)
    rw [List.drop_eq_getElem_cons h1]
    refine Ev.succ ?_
    simp only [impl_sumWeights.l0, rd_nat l i h1, w1 (show 0 ≤ (i : Int) by omega) (show (i : Int) < 9223372036854775807 by omega)]
    exact Ev.pos (by omega) (Ev.pos (by omega) (Ev.pos (by omega) ih))
theorem sumWeights_ev (l : List Int) (hl : l.length ≤ 1048576) : Ev (fun k => impl_sumWeights.f k l) (wsum 0 l) := by
  have h := sumWeights_l0 l hl l.length 0 0 (by omega)
  simpa [impl_sumWeights.f] using h

theorem take_set_succ {α : Type} (l : List α) (i : Nat) (v : α) (h : i < l.length) : (l.set i v).take (i + 1) = l.take i ++ [v] := by
  rw [List.take_succ_eq_append_getElem (by simpa using h), List.take_set, List.set_eq_of_length_le (by simp; omega)]; simp
/-- the reference's table and the program's hold the same costs -/
def Tab (n : Nat) (M B : List (List Int)) : Prop :=
  M.length = n ∧ B.length = n ∧ ∀ i : Nat, i < n → (rd_L1 M (i : Int)).length = n ∧ (rd_L1 B (i : Int)).length = n + 1 ∧ ∀ j : Nat, j < n → rd (rd_L1 M (i : Int)) (j : Int) = rd (rd_L1 B (i : Int)) ((j + 1 : Nat) : Int)
theorem rdL_set (M : List (List Int)) (i j : Nat) (v : List Int) (h : i < M.length) : rd_L1 (M.set i v) (j : Int) = if i = j then v else rd_L1 M (j : Int) := by
  unfold rd_L1
  simp only [Int.toNat_natCast, List.getD_eq_getElem?_getD, List.getElem?_set]
  by_cases e : i = j
  · subst e; simp [h]
  · simp [e]
theorem rd_set (l : List Int) (i j : Nat) (v : Int) (h : i < l.length) : rd (l.set i v) (j : Int) = if i = j then v else rd l (j : Int) := by
  unfold rd
  simp only [Int.toNat_natCast, List.getD_eq_getElem?_getD, List.getElem?_set]
  by_cases e : i = j
  · subst e; simp [h]
  · simp [e]
theorem Tab.put {n : Nat} {M B : List (List Int)} (h : Tab n M B) (i j : Nat) (hi : i < n) (hj : j < n) (v : Int) : Tab n (M.set i ((rd_L1 M (i : Int)).set j v)) (B.set i ((rd_L1 B (i : Int)).set (j + 1) v)) := by
  obtain ⟨h1, h2, h3⟩ := h
  refine ⟨by simpa using h1, by simpa using h2, fun i' hi' => ?_⟩
  rw [rdL_set M i i' _ (by omega), rdL_set B i i' _ (by omega)]
  by_cases e : i = i'
  · obtain ⟨a, b, c⟩ := h3 i hi
    rw [if_pos e, if_pos e]
    refine ⟨by simpa using a, by simpa using b, fun j' hj' => ?_⟩
    rw [rd_set _ j j' _ (by omega), rd_set _ (j + 1) (j' + 1) _ (by omega)]
    by_cases e2 : j = j'
    · rw [if_pos e2, if_pos (by omega)]
    · rw [if_neg e2, if_neg (by omega)]; exact c j' hj'
  · rw [if_neg e, if_neg e]; exact h3 i' hi'
theorem Tab.start (n : Nat) : Tab n (List.replicate n (List.replicate n 0)) (List.replicate n (List.replicate (n + 1) 0)) := by
  refine ⟨by simp, by simp, fun i hi => ?_⟩
  have a : rd_L1 (List.replicate n (List.replicate n (0 : Int))) (i : Int) = List.replicate n 0 := by unfold rd_L1; simp [List.getD_eq_getElem?_getD, hi]
  have b : rd_L1 (List.replicate n (List.replicate (n + 1) (0 : Int))) (i : Int) = List.replicate (n + 1) 0 := by unfold rd_L1; simp [List.getD_eq_getElem?_getD, hi]
  rw [a, b]
  refine ⟨by simp, by simp, fun j hj => ?_⟩
  unfold rd
  simp only [Int.toNat_natCast, List.getD_eq_getElem?_getD]
  rw [List.getElem?_replicate, List.getElem?_replicate, if_pos hj, if_pos (by omega)]
theorem fill_spec (w : List Int) (n : Nat) (hn : n ≤ 12) (r : Int) (h : Ev (fun k => spec_beOrdered.l1 k w (n : Int) (List.replicate n (List.replicate n 0)) 2) r) : ∀ (d i : Nat) (M : List (List Int)), i + d = n → M.length = n → M.take i = List.replicate i (List.replicate n 0) → Ev (fun k => spec_beOrdered.l0 k w (n : Int) M (n : Int) (i : Int)) r
  | 0, i, M, hd, hm, ht => by
    refine Ev.succ ?_
    simp only [spec_beOrdered.l0]
    refine Ev.neg (by omega) ?_
    rw [List.take_of_length_le (by omega)] at ht
    rw [ht, show i = n by omega]; exact h
  | d + 1, i, M, hd, hm, ht => by
    have ih := fill_spec w n hn r h d (i + 1) (M.set i (List.replicate n 0)) (by omega) (by simpa using hm) (by rw [take_set_succ M i _ (by omega), ht, ← List.replicate_succ'])
    refine Ev.succ ?_
    simp only [spec_beOrdered.l0, w1 (show 0 ≤ (i : Int) by omega) (show (i : Int) < 9223372036854775807 by omega), Int.toNat_natCast]
    exact Ev.pos (by omega) (Ev.pos (by omega) (Ev.pos (by omega) (Ev.pos (by omega) (Ev.pos (by omega) ih))))
theorem fill_impl (w : List Int) (n : Nat) (hn : n ≤ 12) (r : Int) (h : Ev (fun k => impl_joined.l1 k w (n : Int) (List.replicate n (List.replicate (n + 1) 0)) 2) r) : ∀ (d i : Nat) (M : List (List Int)), i + d = n → M.length = n → M.take i = List.replicate i (List.replicate (n + 1) 0) → Ev (fun k => impl_joined.l0 k w (n : Int) M (n : Int) (i : Int)) r
  | 0, i, M, hd, hm, ht => by
    refine Ev.succ ?_
    simp only [impl_joined.l0]
    refine Ev.neg (by omega) ?_
    rw [List.take_of_length_le (by omega)] at ht
    rw [ht, show i = n by omega]; exact h
  | d + 1, i, M, hd, hm, ht => by
    have ih := fill_impl w n hn r h d (i + 1) (M.set i (List.replicate (n + 1) 0)) (by omega) (by simpa using hm) (by rw [take_set_succ M i _ (by omega), ht, ← List.replicate_succ'])
    refine Ev.succ ?_
    simp only [impl_joined.l0, w1 (show 0 ≤ (i : Int) by omega) (show (i : Int) < 9223372036854775807 by omega), w1 (show 0 ≤ (n : Int) by omega) (show (n : Int) < 9223372036854775807 by omega), Int.toNat_natCast, show ((n : Int) + 1).toNat = n + 1 by omega]
    exact Ev.pos (by omega) (Ev.pos (by omega) (Ev.pos (by omega) (Ev.pos (by omega) (Ev.pos (by omega) ih))))
theorem sim_inner (w : List Int) (n size i : Nat) (hn : n ≤ 12) (hw : w.length = n) (hs1 : 2 ≤ size) (hi : i + size ≤ n) (s : Int)
    (hs : Ev (fun k => impl_sumWeights.f k ((w.take (i + size)).drop i)) s)
    (next : ∀ M B, Tab n M B → ∃ r, Ev (fun k => spec_beOrdered.l2 k w (n : Int) M (size : Int) ((i + 1 : Nat) : Int)) r ∧ Ev (fun k => impl_joined.l2 k w (n : Int) B (size : Int) ((i + 1 : Nat) : Int)) r) :
    ∀ (e u : Nat) (best : Int) (M B : List (List Int)), u + 1 + e = i + size → i ≤ u → Tab n M B → ∃ r, Ev (fun k => spec_beOrdered.l4 k w (n : Int) M (size : Int) (i : Int) s best (u : Int)) r ∧ Ev (fun k => impl_joined.l3 k w (n : Int) B (size : Int) (i : Int) best ((u + 1 : Nat) : Int)) r
  | 0, u, best, M, B, hd, hu, T => by
    obtain ⟨r, h1, h2⟩ := next _ _ (T.put i u (by omega) (by omega) (wrap64 (s + best)))
    obtain ⟨t1, t2, t3⟩ := T
    obtain ⟨a, b, _⟩ := t3 i (by omega)
    have e1 : Aside0 (wrap64 ((i : Int) + (size : Int)) = ((u + 1 : Nat) : Int)) := ⟨by rw [w64 (by omega) (by omega)]; omega⟩
    have e2 : Aside0 (wrap64 (((u + 1 : Nat) : Int) - 1) = (u : Int)) := ⟨by rw [w64 (by omega) (by omega)]; omega⟩
    have e3 : Aside0 (wrap64 ((u : Int) + 1) = ((u + 1 : Nat) : Int)) := ⟨by rw [w64 (by omega) (by omega)]; omega⟩
    have e4 : Aside0 (wrap64 ((i : Int) + 1) = ((i + 1 : Nat) : Int)) := ⟨by rw [w64 (by omega) (by omega)]; omega⟩
    refine ⟨r, Ev.succ ?_, Ev.succ ?_⟩
    · simp only [spec_beOrdered.l4, e1.out, e2.out, e3.out, e4.out, Int.toNat_natCast]
      exact Ev.neg (by omega) (Ev.pos (by omega) (Ev.pos (by omega) (Ev.pos (by omega) (Ev.pos (by omega) h1))))
    · simp only [impl_joined.l3, e1.out, e4.out, Int.toNat_natCast]
      refine Ev.neg (by omega) (Ev.pos (by omega) (Ev.pos (by omega) (Ev.pos (by omega) (Ev.pos (by omega) (Ev.bind (a := s) (by rw [show u + 1 = i + size from hd]; exact hs) (Ev.pos (by omega) (Ev.pos (by omega) ?_)))))))
      rw [Int.add_comm best s]; exact h2
  | e + 1, u, best, M, B, hd, hu, T => by
    have T' := T
    obtain ⟨t1, t2, t3⟩ := T
    obtain ⟨a, b, c⟩ := t3 i (by omega)
    obtain ⟨a', b', c'⟩ := t3 (u + 1) (by omega)
    have e1 : Aside0 (wrap64 ((i : Int) + (size : Int)) = ((i + size : Nat) : Int)) := ⟨by rw [w64 (by omega) (by omega)]; omega⟩
    have e2 : Aside0 (wrap64 (((i + size : Nat) : Int) - 1) = ((i + size - 1 : Nat) : Int)) := ⟨by rw [w64 (by omega) (by omega)]; omega⟩
    have e3 : Aside0 (wrap64 ((u : Int) + 1) = ((u + 1 : Nat) : Int)) := ⟨by rw [w64 (by omega) (by omega)]; omega⟩
    have e5 : Aside0 (wrap64 (((u + 1 : Nat) : Int) + 1) = ((u + 1 + 1 : Nat) : Int)) := ⟨by rw [w64 (by omega) (by omega)]; omega⟩
    have c1 := c u (by omega)
    have c2 := c' (i + size - 1) (by omega)
    rw [show i + size - 1 + 1 = i + size by omega] at c2
    have ih := fun best => sim_inner w n size i hn hw hs1 hi s hs next e (u + 1) best M B (by omega) (by omega) T'
    obtain ⟨v, hv0⟩ : ∃ v, wrap64 (rd (rd_L1 M (i : Int)) (u : Int) + rd (rd_L1 M ((u + 1 : Nat) : Int)) ((i + size - 1 : Nat) : Int)) = v := ⟨_, rfl⟩
    have hv := Aside0.mk hv0
    clear hv0
    have hv2 : Aside0 (wrap64 (rd (rd_L1 B (i : Int)) ((u + 1 : Nat) : Int) + rd (rd_L1 B ((u + 1 : Nat) : Int)) ((i + size : Nat) : Int)) = v) := ⟨by rw [← c1, ← c2]; exact hv.out⟩
    obtain ⟨r, h1, h2⟩ := ih (if best < 0 then v else if v < best then v else best)
    refine ⟨r, Ev.succ ?_, Ev.succ ?_⟩
    · simp only [spec_beOrdered.l4, e1.out, e2.out, e3.out, hv.out]
      refine Ev.pos (by omega) (Ev.pos (by omega) (Ev.pos (by omega) (Ev.pos (by omega) (Ev.pos (by omega) (Ev.pos (by omega) (Ev.pos (by omega) (Ev.pos (by omega) (Ev.pos (by omega) ?_))))))))
      by_cases g1 : best < 0
      · rw [if_pos g1] at h1; exact Ev.pos g1 h1
      · rw [if_neg g1] at h1
        refine Ev.neg g1 ?_
        by_cases g2 : v < best
        · rw [if_pos g2] at h1; exact Ev.pos g2 h1
        · rw [if_neg g2] at h1; exact Ev.neg g2 h1
    · simp only [impl_joined.l3, e1.out, e5.out, hv2.out]
      refine Ev.pos (by omega) (Ev.pos (by omega) (Ev.pos (by omega) (Ev.pos (by omega) (Ev.pos (by omega) (Ev.pos (by omega) (Ev.pos (by omega) (Ev.pos (by omega) ?_)))))))
      by_cases g1 : best < 0
      · rw [if_pos g1] at h2; exact Ev.pos g1 h2
      · rw [if_neg g1] at h2
        refine Ev.neg g1 ?_
        by_cases g2 : v < best
        · rw [if_pos g2] at h2; exact Ev.pos g2 h2
        · rw [if_neg g2] at h2; exact Ev.neg g2 h2
theorem drop_take_cons (w : List Int) (i m : Nat) (h : i < m) (hm : m ≤ w.length) : (w.take m).drop i = w[i]'(by omega) :: (w.take m).drop (i + 1) := by
  rw [List.drop_eq_getElem_cons (by simp; omega)]; simp
theorem sim_sum (w : List Int) (n size i : Nat) (hn : n ≤ 12) (hw : w.length = n) (hi : i + size ≤ n) (M : List (List Int)) (r : Int) : ∀ (e u : Nat) (s : Int), u + e = i + size → i ≤ u →
    Ev (fun k => spec_beOrdered.l4 k w (n : Int) M (size : Int) (i : Int) (wsum s ((w.take (i + size)).drop u)) (-1) (i : Int)) r → Ev (fun k => spec_beOrdered.l3 k w (n : Int) M (size : Int) (i : Int) s (-1) (u : Int)) r
  | 0, u, s, hd, hu, h => by
    have e1 : Aside0 (wrap64 ((i : Int) + (size : Int)) = ((i + size : Nat) : Int)) := ⟨by rw [w64 (by omega) (by omega)]; omega⟩
    refine Ev.succ ?_
    simp only [spec_beOrdered.l3, e1.out]
    refine Ev.neg (by omega) ?_
    rw [List.drop_of_length_le (by simp; omega)] at h
    exact h
  | e + 1, u, s, hd, hu, h => by
    have e1 : Aside0 (wrap64 ((i : Int) + (size : Int)) = ((i + size : Nat) : Int)) := ⟨by rw [w64 (by omega) (by omega)]; omega⟩
    have h1 : u < w.length := by omega
    rw [drop_take_cons w u (i + size) (by omega) (by omega)] at h
    have ih := sim_sum w n size i hn hw hi M r e (u + 1) (wrap64 (s + w[u])) (by omega) (by omega) h
    refine Ev.succ ?_
    simp only [spec_beOrdered.l3, e1.out, rd_nat w u h1, w1 (show 0 ≤ (u : Int) by omega) (show (u : Int) < 9223372036854775807 by omega)]
    exact Ev.pos (by omega) (Ev.pos (by omega) (Ev.pos (by omega) ih))
theorem sim_mid (w : List Int) (n size : Nat) (hn : n ≤ 12) (hw : w.length = n) (hs1 : 2 ≤ size) (hs2 : size ≤ n)
    (next : ∀ M B, Tab n M B → ∃ r, Ev (fun k => spec_beOrdered.l1 k w (n : Int) M ((size + 1 : Nat) : Int)) r ∧ Ev (fun k => impl_joined.l1 k w (n : Int) B ((size + 1 : Nat) : Int)) r) :
    ∀ (d i : Nat) (M B : List (List Int)), i + size + d = n + 1 → Tab n M B → ∃ r, Ev (fun k => spec_beOrdered.l2 k w (n : Int) M (size : Int) (i : Int)) r ∧ Ev (fun k => impl_joined.l2 k w (n : Int) B (size : Int) (i : Int)) r
  | 0, i, M, B, hd, T => by
    obtain ⟨r, h1, h2⟩ := next M B T
    have e1 : Aside0 (wrap64 ((i : Int) + (size : Int)) = ((i + size : Nat) : Int)) := ⟨by rw [w64 (by omega) (by omega)]; omega⟩
    refine ⟨r, Ev.succ ?_, Ev.succ ?_⟩
    · simp only [spec_beOrdered.l2, e1.out, w1 (show 0 ≤ (size : Int) by omega) (show (size : Int) < 9223372036854775807 by omega)]
      exact Ev.neg (by omega) h1
    · simp only [impl_joined.l2, e1.out, w1 (show 0 ≤ (size : Int) by omega) (show (size : Int) < 9223372036854775807 by omega)]
      exact Ev.neg (by omega) h2
  | d + 1, i, M, B, hd, T => by
    have e1 : Aside0 (wrap64 ((i : Int) + (size : Int)) = ((i + size : Nat) : Int)) := ⟨by rw [w64 (by omega) (by omega)]; omega⟩
    have hs := sumWeights_ev ((w.take (i + size)).drop i) (by simp; omega)
    obtain ⟨r, h1, h2⟩ := sim_inner w n size i hn hw hs1 (by omega) _ hs (fun M B T => sim_mid w n size hn hw hs1 hs2 next d (i + 1) M B (by omega) T) (size - 1) i (-1) M B (by omega) (by omega) T
    refine ⟨r, Ev.succ ?_, Ev.succ ?_⟩
    · simp only [spec_beOrdered.l2, e1.out]
      exact Ev.pos (by omega) (sim_sum w n size i hn hw (by omega) M r size i 0 (by omega) (by omega) h1)
    · simp only [impl_joined.l2, e1.out, w1 (show 0 ≤ (i : Int) by omega) (show (i : Int) < 9223372036854775807 by omega)]
      exact Ev.pos (by omega) h2
theorem sim_outer (w : List Int) (n : Nat) (hn1 : 1 ≤ n) (hn : n ≤ 12) (hw : w.length = n) : ∀ (d size : Nat) (M B : List (List Int)), size + d = max (n + 1) 2 → 2 ≤ size → Tab n M B →
    ∃ r, Ev (fun k => spec_beOrdered.l1 k w (n : Int) M (size : Int)) r ∧ Ev (fun k => impl_joined.l1 k w (n : Int) B (size : Int)) r
  | 0, size, M, B, hd, hs, T => by
    obtain ⟨t1, t2, t3⟩ := T
    obtain ⟨a, b, c⟩ := t3 0 (by omega)
    have c1 := c (n - 1) (by omega)
    rw [show n - 1 + 1 = n by omega] at c1
    rw [show ((0 : Nat) : Int) = 0 from rfl] at a b c1
    have e1 : Aside0 (wrap64 ((n : Int) - 1) = ((n - 1 : Nat) : Int)) := ⟨by rw [w64 (by omega) (by omega)]; omega⟩
    refine ⟨rd (rd_L1 M 0) ((n - 1 : Nat) : Int), Ev.succ ?_, Ev.succ ?_⟩
    · simp only [spec_beOrdered.l1, e1.out]
      exact Ev.neg (by omega) (Ev.pos (by omega) (Ev.pos (by omega) (Ev.pos (by omega) (Ev.now _))))
    · simp only [impl_joined.l1]
      exact Ev.neg (by omega) (Ev.pos (by omega) (Ev.pos (by omega) (Ev.pos (by omega) (Ev.pure c1.symm))))
  | d + 1, size, M, B, hd, hs, T => by
    obtain ⟨r, h1, h2⟩ := sim_mid w n size hn hw hs (by omega) (fun M B T => sim_outer w n hn1 hn hw d (size + 1) M B (by omega) (by omega) T) (n + 1 - size) 0 M B (by omega) T
    refine ⟨r, Ev.succ ?_, Ev.succ ?_⟩
    · simp only [spec_beOrdered.l1]; exact Ev.pos (by omega) h1
    · simp only [impl_joined.l1]; exact Ev.pos (by omega) h2
theorem joined_same (w : List Int) (h1 : 1 ≤ w.length) (h2 : w.length ≤ 12) : ∃ r, Ev (fun k => spec_beOrdered.f k w) r ∧ Ev (fun k => impl_joined.f k w) r := by
  obtain ⟨r, a, b⟩ := sim_outer w w.length h1 h2 rfl (w.length - 1) 2 _ _ (by omega) (by omega) (Tab.start w.length)
  have fa := fill_spec w w.length h2 r a w.length 0 (List.replicate w.length []) (by omega) (by simp) (by simp)
  have fb := fill_impl w w.length h2 r b w.length 0 (List.replicate w.length []) (by omega) (by simp) (by simp)
  refine ⟨r, ?_, ?_⟩
  · unfold spec_beOrdered.f
    refine Ev.pos (by omega) (Ev.pos (by omega) ?_)
    simpa using fa
  · unfold impl_joined.f
    refine Ev.pos (by omega) (Ev.pos (by omega) ?_)
    simpa using fb

theorem split_l0 (w : List Int) (hw : w.length ≤ 12) (c : Int) (r : Int × Bool) : ∀ (d i : Nat) (s : Int), i + d = w.length →
    Ev (fun k => spec_SplitCost.l0 k w c (wsum s (w.drop i)) w (w.length : Int) (w.length : Int)) r → Ev (fun k => spec_SplitCost.l0 k w c s w (w.length : Int) (i : Int)) r
  | 0, i, s, hd, h => by
    rw [List.drop_of_length_le (by omega)] at h
    rw [show i = w.length by omega]; exact h
  | d + 1, i, s, hd, h => by
    have h1 : i < w.length := by omega
    rw [List.drop_eq_getElem_cons h1] at h
    have ih := split_l0 w hw c r d (i + 1) (wrap64 (s + w[i])) (by omega) h
    refine Ev.succ ?_
    simp only [spec_SplitCost.l0, rd_nat w i h1, w1 (show 0 ≤ (i : Int) by omega) (show (i : Int) < 9223372036854775807 by omega)]
    exact Ev.pos (by omega) (Ev.pos (by omega) (Ev.pos (by omega) ih))
theorem sc_same (w : List Int) (c : Int) (hw : w.length ≤ 1048576) : ∃ r, Ev (fun k => spec_SplitCost.f k w c) r ∧ Ev (fun k => impl_SplitCost.f k w c) r := by
  unfold spec_SplitCost.f impl_SplitCost.f
  have a1 := beWeights_ev w hw
  have a2 := impl_areWeights_ev w hw
  generalize hA : (decide (1 ≤ (w.length : Int) ∧ (w.length : Int) ≤ 12) && w.all fun x => decide (1 ≤ x ∧ x ≤ 100)) = A at a1 a2
  have no1 : Ev (fun k => spec_SplitCost.j0 k w c true) (0, false) := by
    refine Ev.succ ?_
    simp only [spec_SplitCost.j0]
    exact Ev.pos (by simp) (Ev.now _)
  have no2 : Ev (fun k => impl_SplitCost.j0 k w c true) (0, false) := by
    refine Ev.succ ?_
    simp only [impl_SplitCost.j0]
    exact Ev.pos (by simp) (Ev.now _)
  cases A with
  | false => exact ⟨(0, false), Ev.bind a1 (Ev.neg (by simp) no1), Ev.bind a2 (Ev.neg (by simp) no2)⟩
  | true =>
    have hn : 1 ≤ w.length ∧ w.length ≤ 12 := by simp only [Bool.and_eq_true, decide_eq_true_eq] at hA; omega
    have e1 : wrap64 ((w.length : Int) - 1) = (w.length : Int) - 1 := w64 (by omega) (by omega)
    by_cases hc : 1 ≤ c ∧ c ≤ (w.length : Int) - 1
    · have hd : decide (1 ≤ c ∧ c ≤ wrap64 ((w.length : Int) - 1)) = true := by rw [e1]; exact decide_eq_true hc
      obtain ⟨c, rfl⟩ : ∃ m : Nat, c = (m : Int) := ⟨c.toNat, by omega⟩
      obtain ⟨x, x1, x2⟩ := joined_same (w.take c) (by simp; omega) (by simp; omega)
      obtain ⟨y, y1, y2⟩ := joined_same (w.drop c) (by simp; omega) (by simp; omega)
      have hs := sumWeights_ev w hw
      refine ⟨(wrap64 ((wrap64 (wsum 0 w + x)) + y), true), Ev.bind a1 (Ev.pos rfl (Ev.known (fun k => spec_in _ _ _) ?_)), Ev.bind a2 (Ev.pos rfl (Ev.known (fun k => impl_in_eq _ _ _) ?_))⟩
      · rw [hd]
        refine Ev.succ ?_
        simp only [spec_SplitCost.j0]
        refine Ev.neg (by simp) (split_l0 w hn.2 c _ w.length 0 0 (by omega) ?_)
        refine Ev.succ ?_
        simp only [spec_SplitCost.l0, Int.toNat_natCast, List.drop_zero]
        exact Ev.neg (by omega) (Ev.pos (by omega) (Ev.pos (by omega) (Ev.bind x1 (Ev.bind y1 (Ev.now _)))))
      · rw [hd]
        refine Ev.succ ?_
        simp only [impl_SplitCost.j0, Int.toNat_natCast]
        refine Ev.neg (by simp) (Ev.bind hs (Ev.pos (by omega) (Ev.pos (by omega) (Ev.bind x2 ?_))))
        first
          | exact Ev.bind y2 (Ev.now _)
          | exact Ev.pos (by omega) (Ev.bind y2 (Ev.now _))
          | exact Ev.pos (by omega) (Ev.pos (by omega) (Ev.bind y2 (Ev.now _)))
    · have hd : decide (1 ≤ c ∧ c ≤ wrap64 ((w.length : Int) - 1)) = false := by rw [e1]; exact decide_eq_false hc
      refine ⟨(0, false), Ev.bind a1 (Ev.pos rfl (Ev.known (fun k => spec_in _ _ _) ?_)), Ev.bind a2 (Ev.pos rfl (Ev.known (fun k => impl_in_eq _ _ _) ?_))⟩
      · rw [hd]; exact no1
      · rw [hd]; exact no2
theorem FnExactSplitCost : laws_FnExactSplitCost.Pure := by
  intro l c _ _ _ _
  refine Ev.rounds ?_
  unfold laws_FnExactSplitCost.f
  refine Ev.cases (fun _ => Ev.now _) (fun hl => ?_)
  have hl' : l.length ≤ 1048576 := by omega
  obtain ⟨r, h1, h2⟩ := sc_same l c hl'
  refine Ev.bind (toIntS_ev l hl') (Ev.bind h1 (Ev.bind (toIntS_ev l hl') (Ev.bind h2 (Ev.pos rfl ?_))))
  refine Ev.succ ?_
  simp only [laws_FnExactSplitCost.j0]
  refine Ev.neg (by simp) ?_
  exact Ev.bind (toIntS_ev l hl') (Ev.bind (eqIntS_ev l hl') (Ev.pos rfl (Ev.now _)))
end Go.Proofs.Ytfinmeglakcmbaa.Pure
