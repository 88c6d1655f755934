/- OrderedLengths of the program and of the reference answer alike for all arguments, and leave them as they were: no condition. -/
import Derived.Test.YtklakacicmghiaaXFnExactOrderedLengthsx8
namespace Go.Proofs.Ytklakacicmghiaa.Pure
set_option linter.unusedSimpArgs false
set_option linter.unusedVariables false
open Go.RowKit Go.Proofs.Ytklakacicmghiaa.Hand Go.Proofs.Ytklakacicmghiaa.XFnExactOrderedLengths Go.Proofs.YtklakacicmghiaaW.PrintWords Go.Proofs.YtklakacicmghiaaW.PrintLast Go.Proofs.YtklakacicmghiaaW.PrintMore

theorem w1 {i : Int} (h0 : 0 ≤ i) (h : i < 9223372036854775807) : wrap64 (i + 1) = i + 1 := by unfold wrap64; omega
theorem w64 {i : Int} (h0 : -9223372036854775808 ≤ i) (h : i < 9223372036854775808) : wrap64 i = i := by unfold wrap64; omega
theorem rd_nat (l : List Int) (i : Nat) (h : i < l.length) : rd l (i : Int) = l[i] := by
  unfold rd; simp [List.getD_eq_getElem?_getD, h]
theorem Ev.pos {α : Type} {c : Prop} [Decidable c] {g g' : Nat → Option α} {r : α} (h : c) (k : Ev g r) : Ev (fun n => if c then g n else g' n) r :=
  Ev.congr (fun n => if_pos h) k
theorem Ev.neg {α : Type} {c : Prop} [Decidable c] {g g' : Nat → Option α} {r : α} (h : ¬ c) (k : Ev g' r) : Ev (fun n => if c then g n else g' n) r :=
  Ev.congr (fun n => if_neg h) k
theorem Ev.cases {α : Type} {c : Prop} [Decidable c] {g g' : Nat → Option α} {r : α} (h : c → Ev g r) (k : ¬ c → Ev g' r) : Ev (fun n => if c then g n else g' n) r := by
  by_cases e : c
  · exact Ev.pos e (h e)
  · exact Ev.neg e (k e)
/-- a call whose answer is known at every number of rounds -/
theorem Ev.known {α β : Type} {g : Nat → Option α} {f : Nat → α → Option β} {a : α} {r : β} (h : ∀ n, g n = some a) (k : Ev (fun n => f n a) r) : Ev (fun n => (g n).bind (f n)) r :=
  Ev.bind ⟨0, fun n _ => h n⟩ k
/-- one bind of two, joined with what follows -/
theorem Ev.pure {α : Type} {r q : α} (h : r = q) : Ev (fun _ => some r) q := h ▸ Ev.now r
theorem Ev.succ {α : Type} {g : Nat → Option α} {r : α} (h : Ev (fun k => g (k + 1)) r) : Ev g r := Ev.step (f := fun k => g (k + 1)) (fun _ => rfl) h

theorem toIntS_l0 (l : List Int) (hl : l.length ≤ 1048576) : ∀ (d i : Nat) (xs : List Int), i + d = l.length → xs.length = l.length → xs.take i = l.take i → Ev (fun k => laws_toIntS.l0 k l xs (i : Int)) l
  | 0, i, xs, hd, hx, ht => by
    refine Ev.step (f := fun _ => some xs) (fun k => ?_) (Ev.pure ?_)
    · simp only [laws_toIntS.l0]; rw [if_neg (by omega)]
    · rw [List.take_of_length_le (by omega), List.take_of_length_le (by omega)] at ht; exact ht
  | d + 1, i, xs, hd, hx, ht => by
    refine Ev.step (f := fun k => laws_toIntS.l0 k l (xs.set i (rd l i)) ((i + 1 : Nat) : Int)) (fun k => ?_) (toIntS_l0 l hl d (i + 1) _ (by omega) (by simp [hx]) ?_)
    · simp only [laws_toIntS.l0]; rw [if_pos (by omega), if_pos (by omega), if_pos (by omega), w1 (by omega) (by omega)]; simp
    · have h1 : i < l.length := by omega
      have h2 : i < (xs.set i (rd l i)).length := by simp; omega
      have e := rd_nat l i h1
      rw [List.take_succ_eq_append_getElem h2, List.take_succ_eq_append_getElem h1, List.take_set, List.set_eq_of_length_le (by simp; omega), ht]
      simp [e]
theorem toIntS_ev (l : List Int) (hl : l.length ≤ 1048576) : Ev (fun k => laws_toIntS.f k l) l := by
  unfold laws_toIntS.f
  refine Ev.pos (by omega) (Ev.pos (by omega) ?_)
  have h := toIntS_l0 l hl l.length 0 (List.replicate l.length 0) (by omega) (by simp) (by simp)
  simpa using h
theorem eqIntS_l0 (l : List Int) (hl : l.length ≤ 1048576) : ∀ (d i : Nat), i + d = l.length → Ev (fun k => laws_eqIntS.l0 k l l (i : Int)) true
  | 0, i, hd => Ev.step (f := fun _ => some true) (fun k => by simp only [laws_eqIntS.l0]; rw [if_neg (by omega)]) (Ev.now _)
  | d + 1, i, hd => by
    refine Ev.step (f := fun k => laws_eqIntS.l0 k l l ((i + 1 : Nat) : Int)) (fun k => ?_) (eqIntS_l0 l hl d (i + 1) (by omega))
    simp only [laws_eqIntS.l0]; rw [if_pos (by omega), if_pos (by omega), if_pos (by omega), if_pos trivial, w1 (by omega) (by omega)]; simp
theorem eqIntS_ev (l : List Int) (hl : l.length ≤ 1048576) : Ev (fun k => laws_eqIntS.f k l l) true := by
  unfold laws_eqIntS.f
  exact Ev.pos rfl (by simpa using eqIntS_l0 l hl l.length 0 (by omega))


/-- n numbers, all different -/
def imarked (n : Nat) : List Int := (List.range n).map fun j => ((j + 1 : Nat) : Int)
theorem imarked_length (n : Nat) : (imarked n).length = n := by simp [imarked]
theorem markI_l0 (n : Nat) (hn : n ≤ 1048576) : ∀ (d i : Nat) (xs : List Int), i + d = n → xs.length = n → xs.take i = (imarked n).take i → Ev (fun k => laws_markIntS.l0 k xs ((i + 1 : Nat) : Int) (i : Int)) (((n + 1 : Nat) : Int), imarked n)
  | 0, i, xs, hd, hx, ht => by
    refine Ev.succ ?_
    simp only [laws_markIntS.l0]
    refine Ev.neg (by omega) (Ev.pure ?_)
    have := imarked_length n
    rw [List.take_of_length_le (by omega), List.take_of_length_le (by omega)] at ht
    rw [ht, show i = n by omega]
  | d + 1, i, xs, hd, hx, ht => by
    have hlen := imarked_length n
    have h1 : i < (imarked n).length := by omega
    have ih := markI_l0 n hn d (i + 1) (xs.set i ((i + 1 : Nat) : Int)) (by omega) (by simp [hx]) (by
      have h2 : i < (xs.set i ((i + 1 : Nat) : Int)).length := by simp; omega
      rw [List.take_succ_eq_append_getElem h2, List.take_succ_eq_append_getElem h1, List.take_set, List.set_eq_of_length_le (by simp; omega), ht]
      simp [imarked])
    refine Ev.succ ?_
    simp only [laws_markIntS.l0, Int.toNat_natCast, w1 (show 0 ≤ (i : Int) by omega) (show (i : Int) < 9223372036854775807 by omega), w1 (show 0 ≤ ((i + 1 : Nat) : Int) by omega) (show ((i + 1 : Nat) : Int) < 9223372036854775807 by omega)]
    exact Ev.pos (by omega) (Ev.pos (by omega) ih)
theorem markI2_ev (xs : List Int) (hn : xs.length ≤ 1048576) : Ev (fun k => laws_markIntS.f k xs 1) (((xs.length + 1 : Nat) : Int), imarked xs.length) :=
  markI_l0 xs.length hn xs.length 0 xs (by omega) rfl rfl
theorem heldI_l0 (n : Nat) (hn : n ≤ 1048576) : ∀ (d i : Nat), i + d = n → Ev (fun k => laws_heldIntS.l0 k (imarked n) ((i + 1 : Nat) : Int) (i : Int)) ((n + 1 : Nat) : Int)
  | 0, i, hd => by
    have hlen := imarked_length n
    refine Ev.succ ?_
    simp only [laws_heldIntS.l0]
    exact Ev.neg (by omega) (Ev.pure (by rw [show i = n by omega]))
  | d + 1, i, hd => by
    have hlen := imarked_length n
    have h1 : i < (imarked n).length := by omega
    have ih := heldI_l0 n hn d (i + 1) (by omega)
    refine Ev.succ ?_
    simp only [laws_heldIntS.l0, rd_nat _ i h1, w1 (show 0 ≤ (i : Int) by omega) (show (i : Int) < 9223372036854775807 by omega), w1 (show 0 ≤ ((i + 1 : Nat) : Int) by omega) (show ((i + 1 : Nat) : Int) < 9223372036854775807 by omega)]
    exact Ev.pos (by omega) (Ev.pos (by omega) (Ev.pos (by simp [imarked]) ih))
theorem heldI_ev (n : Nat) (hn : n ≤ 1048576) : Ev (fun k => laws_heldIntS.f k (imarked n) 1) ((n + 1 : Nat) : Int) :=
  heldI_l0 n hn n 0 (by omega)

theorem spec_in (a b c : Int) : spec_l1In.f a b c = some (decide (b ≤ a ∧ a ≤ c)) := by
  unfold spec_l1In.f
  by_cases h : a ≥ b
  · rw [if_pos h]; simp [h]
  · rw [if_neg h]; simp; omega

theorem spec_all_l0 (a b : Int) (l : List Int) (hl : l.length ≤ 1048576) : ∀ (d i : Nat), i + d = l.length → Ev (fun k => spec_l1All.l0 k a b l (l.length : Int) (i : Int)) ((l.drop i).all fun x => decide (a ≤ x ∧ x ≤ b))
  | 0, i, hd => Ev.step (f := fun _ => some true) (fun k => by simp only [spec_l1All.l0]; rw [if_neg (by omega)]) (Ev.pure (by rw [List.drop_of_length_le (by omega)]; rfl))
  | d + 1, i, hd => by
    have h1 : i < l.length := by omega
    have ih := spec_all_l0 a b l hl d (i + 1) (by omega)
    rw [List.drop_eq_getElem_cons h1, List.all_cons]
    refine Ev.step (f := fun k => if (decide (a ≤ l[i] ∧ l[i] ≤ b)) = true then spec_l1All.l0 k a b l (l.length : Int) ((i + 1 : Nat) : Int) else some false) (fun k => ?_) ?_
    · simp only [spec_l1All.l0, spec_in]; rw [if_pos (by omega), if_pos (by omega), if_pos (by omega), w1 (by omega) (by omega), rd_nat l i h1]; simp
    · refine Ev.cases (fun h => ?_) (fun h => ?_)
      · rw [h, Bool.true_and]; exact ih
      · rw [Bool.eq_false_iff.mpr h, Bool.false_and]; exact Ev.now _
theorem spec_all (l : List Int) (a b : Int) (hl : l.length ≤ 1048576) : Ev (fun k => spec_l1All.f k l a b) (l.all fun x => decide (a ≤ x ∧ x ≤ b)) := by
  have h := spec_all_l0 a b l hl l.length 0 (by omega)
  simpa [spec_l1All.f] using h

theorem impl_in_eq (a b c : Int) : impl_in.f a b c = some (decide (b ≤ a ∧ a ≤ c)) := by
  unfold impl_in.f
  by_cases h : b ≤ a
  · rw [if_pos h]; simp [h]
  · rw [if_neg h]; simp [h]

theorem impl_areWeights__1_l0 (l : List Int) (hl : l.length ≤ 1048576) : ∀ (d i : Nat), i + d = l.length → ∃ r, Ev (fun k => slices_IndexFunc_int_int__at_impl_areWeights__1.l0 k l (l.length : Int) (i : Int)) r ∧ decide (r ≥ 0) = (l.drop i).any fun x => !decide (1 ≤ x ∧ x ≤ 100)
  | 0, i, hd => ⟨-1, Ev.step (f := fun _ => some (-1)) (fun k => by simp only [slices_IndexFunc_int_int__at_impl_areWeights__1.l0]; rw [if_neg (by omega)]) (Ev.now _), by rw [List.drop_of_length_le (by omega)]; rfl⟩
  | d + 1, i, hd => by
    have h1 : i < l.length := by omega
    obtain ⟨r, ih, hr⟩ := impl_areWeights__1_l0 l hl d (i + 1) (by omega)
    have hs : ∀ k, slices_IndexFunc_int_int__at_impl_areWeights__1.l0 (k + 1) l (l.length : Int) (i : Int) = if (!decide (1 ≤ l[i] ∧ l[i] ≤ 100)) = true then some (i : Int) else slices_IndexFunc_int_int__at_impl_areWeights__1.l0 k l (l.length : Int) ((i + 1 : Nat) : Int) := by
      intro k
      simp only [slices_IndexFunc_int_int__at_impl_areWeights__1.l0, impl_areWeights__1.f, impl_in_eq]; rw [if_pos (by omega), if_pos (by omega), if_pos (by omega), w1 (by omega) (by omega), rd_nat l i h1]; simp
    rw [List.drop_eq_getElem_cons h1, List.any_cons]
    by_cases h : (!decide (1 ≤ l[i] ∧ l[i] ≤ 100)) = true
    · exact ⟨i, Ev.step hs (Ev.pos h (Ev.now _)), by rw [h]; simp⟩
    · exact ⟨r, Ev.step hs (Ev.neg h ih), by rw [hr, Bool.eq_false_iff.mpr h, Bool.false_or]⟩
theorem impl_areWeights__1_contains (l : List Int) (hl : l.length ≤ 1048576) : Ev (fun k => slices_ContainsFunc_int_int__at_impl_areWeights__1.f k l) (l.any fun x => !decide (1 ≤ x ∧ x ≤ 100)) := by
  obtain ⟨r, h, hr⟩ := impl_areWeights__1_l0 l hl l.length 0 (by omega)
  unfold slices_ContainsFunc_int_int__at_impl_areWeights__1.f slices_IndexFunc_int_int__at_impl_areWeights__1.f
  refine Ev.bind (by simpa using h) (Ev.pure ?_)
  simpa using hr
theorem impl_areWeights_ev (l : List Int) (hl : l.length ≤ 1048576) : Ev (fun k => impl_areWeights.f k l) (decide (1 ≤ (l.length : Int) ∧ (l.length : Int) ≤ 12) && l.all fun x => decide (1 ≤ x ∧ x ≤ 100)) := by
  unfold impl_areWeights.f
  refine Ev.known (fun n => impl_in_eq _ _ _) (Ev.cases (fun h => ?_) (fun h => ?_))
  · refine Ev.bind (impl_areWeights__1_contains l hl) (Ev.pure ?_)
    rw [h, Bool.true_and, List.any_eq_not_all_not, Bool.not_not]; simp
  · refine Ev.pure ?_
    rw [Bool.eq_false_iff.mpr h, Bool.false_and]

theorem beWeights_ev (l : List Int) (hl : l.length ≤ 1048576) : Ev (fun k => spec_beWeights.f k l) (decide (1 ≤ (l.length : Int) ∧ (l.length : Int) ≤ 12) && l.all fun x => decide (1 ≤ x ∧ x ≤ 100)) := by
  unfold spec_beWeights.f
  refine Ev.known (fun n => spec_in _ _ _) (Ev.cases (fun h => ?_) (fun h => ?_))
  · exact Ev.bind (spec_all l _ _ hl) (Ev.pure (by rw [h, Bool.true_and]))
  · exact Ev.pure (by rw [Bool.eq_false_iff.mpr h, Bool.false_and])

/-- sums, as the machine adds -/
def wsum (s : Int) : List Int → Int
  | [] => s
  | x :: l => wsum (wrap64 (s + x)) l
theorem sumWeights_l0 (l : List Int) (hl : l.length ≤ 1048576) : ∀ (d i : Nat) (s : Int), i + d = l.length → Ev (fun k => impl_sumWeights.l0 k s l (l.length : Int) (i : Int)) (wsum s (l.drop i))
  | 0, i, s, hd => by
    refine Ev.succ ?_
    simp only [impl_sumWeights.l0]
    exact Ev.neg (by omega) (Ev.pure (by rw [List.drop_of_length_le (by omega)]; rfl))
  | d + 1, i, s, hd => by
    have h1 : i < l.length := by omega
    have ih := sumWeights_l0 l hl d (i + 1) (wrap64 (s + l[i])) (by omega)
    rw [List.drop_eq_getElem_cons h1]
    refine Ev.succ ?_
    simp only [impl_sumWeights.l0, rd_nat l i h1, w1 (show 0 ≤ (i : Int) by omega) (show (i : Int) < 9223372036854775807 by omega)]
    exact Ev.pos (by omega) (Ev.pos (by omega) (Ev.pos (by omega) ih))
theorem sumWeights_ev (l : List Int) (hl : l.length ≤ 1048576) : Ev (fun k => impl_sumWeights.f k l) (wsum 0 l) := by
  have h := sumWeights_l0 l hl l.length 0 0 (by omega)
  simpa [impl_sumWeights.f] using h

theorem take_set_succ {α : Type} (l : List α) (i : Nat) (v : α) (h : i < l.length) : (l.set i v).take (i + 1) = l.take i ++ [v] := by
  rw [List.take_succ_eq_append_getElem (by simpa using h), List.take_set, List.set_eq_of_length_le (by simp; omega)]; simp
/-- the reference's table and the program's hold the same costs -/
def Tab (n : Nat) (M B : List (List Int)) : Prop :=
  M.length = n ∧ B.length = n ∧ ∀ i : Nat, i < n → (rd_L1 M (i : Int)).length = n ∧ (rd_L1 B (i : Int)).length = n + 1 ∧ ∀ j : Nat, j < n → rd (rd_L1 M (i : Int)) (j : Int) = rd (rd_L1 B (i : Int)) ((j + 1 : Nat) : Int)
theorem rdL_set (M : List (List Int)) (i j : Nat) (v : List Int) (h : i < M.length) : rd_L1 (M.set i v) (j : Int) = if i = j then v else rd_L1 M (j : Int) := by
  unfold rd_L1
  simp only [Int.toNat_natCast, List.getD_eq_getElem?_getD, List.getElem?_set]
  by_cases e : i = j
  · subst e; simp [h]
  · simp [e]
theorem rd_set (l : List Int) (i j : Nat) (v : Int) (h : i < l.length) : rd (l.set i v) (j : Int) = if i = j then v else rd l (j : Int) := by
  unfold rd
  simp only [Int.toNat_natCast, List.getD_eq_getElem?_getD, List.getElem?_set]
  by_cases e : i = j
  · subst e; simp [h]
  · simp [e]
theorem Tab.put {n : Nat} {M B : List (List Int)} (h : Tab n M B) (i j : Nat) (hi : i < n) (hj : j < n) (v : Int) : Tab n (M.set i ((rd_L1 M (i : Int)).set j v)) (B.set i ((rd_L1 B (i : Int)).set (j + 1) v)) := by
  obtain ⟨h1, h2, h3⟩ := h
  refine ⟨by simpa using h1, by simpa using h2, fun i' hi' => ?_⟩
  rw [rdL_set M i i' _ (by omega), rdL_set B i i' _ (by omega)]
  by_cases e : i = i'
  · obtain ⟨a, b, c⟩ := h3 i hi
    rw [if_pos e, if_pos e]
    refine ⟨by simpa using a, by simpa using b, fun j' hj' => ?_⟩
    rw [rd_set _ j j' _ (by omega), rd_set _ (j + 1) (j' + 1) _ (by omega)]
    by_cases e2 : j = j'
    · rw [if_pos e2, if_pos (by omega)]
    · rw [if_neg e2, if_neg (by omega)]; exact c j' hj'
  · rw [if_neg e, if_neg e]; exact h3 i' hi'
theorem Tab.start (n : Nat) : Tab n (List.replicate n (List.replicate n 0)) (List.replicate n (List.replicate (n + 1) 0)) := by
  refine ⟨by simp, by simp, fun i hi => ?_⟩
  have a : rd_L1 (List.replicate n (List.replicate n (0 : Int))) (i : Int) = List.replicate n 0 := by unfold rd_L1; simp [List.getD_eq_getElem?_getD, hi]
  have b : rd_L1 (List.replicate n (List.replicate (n + 1) (0 : Int))) (i : Int) = List.replicate (n + 1) 0 := by unfold rd_L1; simp [List.getD_eq_getElem?_getD, hi]
  rw [a, b]
  refine ⟨by simp, by simp, fun j hj => ?_⟩
  unfold rd
  simp only [Int.toNat_natCast, List.getD_eq_getElem?_getD]
  rw [List.getElem?_replicate, List.getElem?_replicate, if_pos hj, if_pos (by omega)]
theorem fill_spec (w : List Int) (n : Nat) (hn : n ≤ 12) (r : Int) (h : Ev (fun k => spec_beOrdered.l1 k w (n : Int) (List.replicate n (List.replicate n 0)) 2) r) : ∀ (d i : Nat) (M : List (List Int)), i + d = n → M.length = n → M.take i = List.replicate i (List.replicate n 0) → Ev (fun k => spec_beOrdered.l0 k w (n : Int) M (n : Int) (i : Int)) r
  | 0, i, M, hd, hm, ht => by
    refine Ev.succ ?_
    simp only [spec_beOrdered.l0]
    refine Ev.neg (by omega) ?_
    rw [List.take_of_length_le (by omega)] at ht
    rw [ht, show i = n by omega]; exact h
  | d + 1, i, M, hd, hm, ht => by
    have ih := fill_spec w n hn r h d (i + 1) (M.set i (List.replicate n 0)) (by omega) (by simpa using hm) (by rw [take_set_succ M i _ (by omega), ht, ← List.replicate_succ'])
    refine Ev.succ ?_
    simp only [spec_beOrdered.l0, w1 (show 0 ≤ (i : Int) by omega) (show (i : Int) < 9223372036854775807 by omega), Int.toNat_natCast]
    exact Ev.pos (by omega) (Ev.pos (by omega) (Ev.pos (by omega) (Ev.pos (by omega) (Ev.pos (by omega) ih))))
theorem fill_impl (w : List Int) (n : Nat) (hn : n ≤ 12) (r : Int) (h : Ev (fun k => impl_joined.l1 k w (n : Int) (List.replicate n (List.replicate (n + 1) 0)) 2) r) : ∀ (d i : Nat) (M : List (List Int)), i + d = n → M.length = n → M.take i = List.replicate i (List.replicate (n + 1) 0) → Ev (fun k => impl_joined.l0 k w (n : Int) M (n : Int) (i : Int)) r
  | 0, i, M, hd, hm, ht => by
    refine Ev.succ ?_
    simp only [impl_joined.l0]
    refine Ev.neg (by omega) ?_
    rw [List.take_of_length_le (by omega)] at ht
    rw [ht, show i = n by omega]; exact h
  | d + 1, i, M, hd, hm, ht => by
    have ih := fill_impl w n hn r h d (i + 1) (M.set i (List.replicate (n + 1) 0)) (by omega) (by simpa using hm) (by rw [take_set_succ M i _ (by omega), ht, ← List.replicate_succ'])
    refine Ev.succ ?_
    simp only [impl_joined.l0, w1 (show 0 ≤ (i : Int) by omega) (show (i : Int) < 9223372036854775807 by omega), w1 (show 0 ≤ (n : Int) by omega) (show (n : Int) < 9223372036854775807 by omega), Int.toNat_natCast, show ((n : Int) + 1).toNat = n + 1 by omega]
    exact Ev.pos (by omega) (Ev.pos (by omega) (Ev.pos (by omega) (Ev.pos (by omega) (Ev.pos (by omega) ih))))
theorem sim_inner (w : List Int) (n size i : Nat) (hn : n ≤ 12) (hw : w.length = n) (hs1 : 2 ≤ size) (hi : i + size ≤ n) (s : Int)
    (hs : Ev (fun k => impl_sumWeights.f k ((w.take (i + size)).drop i)) s)
    (next : ∀ M B, Tab n M B → ∃ r, Ev (fun k => spec_beOrdered.l2 k w (n : Int) M (size : Int) ((i + 1 : Nat) : Int)) r ∧ Ev (fun k => impl_joined.l2 k w (n : Int) B (size : Int) ((i + 1 : Nat) : Int)) r) :
    ∀ (e u : Nat) (best : Int) (M B : List (List Int)), u + 1 + e = i + size → i ≤ u → Tab n M B → ∃ r, Ev (fun k => spec_beOrdered.l4 k w (n : Int) M (size : Int) (i : Int) s best (u : Int)) r ∧ Ev (fun k => impl_joined.l3 k w (n : Int) B (size : Int) (i : Int) best ((u + 1 : Nat) : Int)) r
  | 0, u, best, M, B, hd, hu, T => by
    obtain ⟨r, h1, h2⟩ := next _ _ (T.put i u (by omega) (by omega) (wrap64 (s + best)))
    obtain ⟨t1, t2, t3⟩ := T
    obtain ⟨a, b, _⟩ := t3 i (by omega)
    have e1 : Aside0 (wrap64 ((i : Int) + (size : Int)) = ((u + 1 : Nat) : Int)) := ⟨by rw [w64 (by omega) (by omega)]; omega⟩
    have e2 : Aside0 (wrap64 (((u + 1 : Nat) : Int) - 1) = (u : Int)) := ⟨by rw [w64 (by omega) (by omega)]; omega⟩
    have e3 : Aside0 (wrap64 ((u : Int) + 1) = ((u + 1 : Nat) : Int)) := ⟨by rw [w64 (by omega) (by omega)]; omega⟩
    have e4 : Aside0 (wrap64 ((i : Int) + 1) = ((i + 1 : Nat) : Int)) := ⟨by rw [w64 (by omega) (by omega)]; omega⟩
    refine ⟨r, Ev.succ ?_, Ev.succ ?_⟩
    · simp only [spec_beOrdered.l4, e1.out, e2.out, e3.out, e4.out, Int.toNat_natCast]
      exact Ev.neg (by omega) (Ev.pos (by omega) (Ev.pos (by omega) (Ev.pos (by omega) (Ev.pos (by omega) h1))))
    · simp only [impl_joined.l3, e1.out, e4.out, Int.toNat_natCast]
      refine Ev.neg (by omega) (Ev.pos (by omega) (Ev.pos (by omega) (Ev.pos (by omega) (Ev.pos (by omega) (Ev.bind (a := s) (by rw [show u + 1 = i + size from hd]; exact hs) (Ev.pos (by omega) (Ev.pos (by omega) ?_)))))))
      rw [Int.add_comm best s]; exact h2
  | e + 1, u, best, M, B, hd, hu, T => by
    have T' := T
    obtain ⟨t1, t2, t3⟩ := T
    obtain ⟨a, b, c⟩ := t3 i (by omega)
    obtain ⟨a', b', c'⟩ := t3 (u + 1) (by omega)
    have e1 : Aside0 (wrap64 ((i : Int) + (size : Int)) = ((i + size : Nat) : Int)) := ⟨by rw [w64 (by omega) (by omega)]; omega⟩
    have e2 : Aside0 (wrap64 (((i + size : Nat) : Int) - 1) = ((i + size - 1 : Nat) : Int)) := ⟨by rw [w64 (by omega) (by omega)]; omega⟩
    have e3 : Aside0 (wrap64 ((u : Int) + 1) = ((u + 1 : Nat) : Int)) := ⟨by rw [w64 (by omega) (by omega)]; omega⟩
    have e5 : Aside0 (wrap64 (((u + 1 : Nat) : Int) + 1) = ((u + 1 + 1 : Nat) : Int)) := ⟨by rw [w64 (by omega) (by omega)]; omega⟩
    have c1 := c u (by omega)
    have c2 := c' (i + size - 1) (by omega)
    rw [show i + size - 1 + 1 = i + size by omega] at c2
    have ih := fun best => sim_inner w n size i hn hw hs1 hi s hs next e (u + 1) best M B (by omega) (by omega) T'
    obtain ⟨v, hv0⟩ : ∃ v, wrap64 (rd (rd_L1 M (i : Int)) (u : Int) + rd (rd_L1 M ((u + 1 : Nat) : Int)) ((i + size - 1 : Nat) : Int)) = v := ⟨_, rfl⟩
    have hv := Aside0.mk hv0
    clear hv0
    have hv2 : Aside0 (wrap64 (rd (rd_L1 B (i : Int)) ((u + 1 : Nat) : Int) + rd (rd_L1 B ((u + 1 : Nat) : Int)) ((i + size : Nat) : Int)) = v) := ⟨by rw [← c1, ← c2]; exact hv.out⟩
    obtain ⟨r, h1, h2⟩ := ih (if best < 0 then v else if v < best then v else best)
    refine ⟨r, Ev.succ ?_, Ev.succ ?_⟩
    · simp only [spec_beOrdered.l4, e1.out, e2.out, e3.out, hv.out]
      refine Ev.pos (by omega) (Ev.pos (by omega) (Ev.pos (by omega) (Ev.pos (by omega) (Ev.pos (by omega) (Ev.pos (by omega) (Ev.pos (by omega) (Ev.pos (by omega) (Ev.pos (by omega) ?_))))))))
      by_cases g1 : best < 0
      · rw [if_pos g1] at h1; exact Ev.pos g1 h1
      · rw [if_neg g1] at h1
        refine Ev.neg g1 ?_
        by_cases g2 : v < best
        · rw [if_pos g2] at h1; exact Ev.pos g2 h1
        · rw [if_neg g2] at h1; exact Ev.neg g2 h1
    · simp only [impl_joined.l3, e1.out, e5.out, hv2.out]
      refine Ev.pos (by omega) (Ev.pos (by omega) (Ev.pos (by omega) (Ev.pos (by omega) (Ev.pos (by omega) (Ev.pos (by omega) (Ev.pos (by omega) (Ev.pos (by omega) ?_)))))))
      by_cases g1 : best < 0
      · rw [if_pos g1] at h2; exact Ev.pos g1 h2
      · rw [if_neg g1] at h2
        refine Ev.neg g1 ?_
        by_cases g2 : v < best
        · rw [if_pos g2] at h2; exact Ev.pos g2 h2
        · rw [if_neg g2] at h2; exact Ev.neg g2 h2
theorem drop_take_cons (w : List Int) (i m : Nat) (h : i < m) (hm : m ≤ w.length) : (w.take m).drop i = w[i]'(by omega) :: (w.take m).drop (i + 1) := by
  rw [List.drop_eq_getElem_cons (by simp; omega)]; simp
theorem sim_sum (w : List Int) (n size i : Nat) (hn : n ≤ 12) (hw : w.length = n) (hi : i + size ≤ n) (M : List (List Int)) (r : Int) : ∀ (e u : Nat) (s : Int), u + e = i + size → i ≤ u →
    Ev (fun k => spec_beOrdered.l4 k w (n : Int) M (size : Int) (i : Int) (wsum s ((w.take (i + size)).drop u)) (-1) (i : Int)) r → Ev (fun k => spec_beOrdered.l3 k w (n : Int) M (size : Int) (i : Int) s (-1) (u : Int)) r
  | 0, u, s, hd, hu, h => by
    have e1 : Aside0 (wrap64 ((i : Int) + (size : Int)) = ((i + size : Nat) : Int)) := ⟨by rw [w64 (by omega) (by omega)]; omega⟩
    refine Ev.succ ?_
    simp only [spec_beOrdered.l3, e1.out]
    refine Ev.neg (by omega) ?_
    rw [List.drop_of_length_le (by simp; omega)] at h
    exact h
  | e + 1, u, s, hd, hu, h => by
    have e1 : Aside0 (wrap64 ((i : Int) + (size : Int)) = ((i + size : Nat) : Int)) := ⟨by rw [w64 (by omega) (by omega)]; omega⟩
    have h1 : u < w.length := by omega
    rw [drop_take_cons w u (i + size) (by omega) (by omega)] at h
    have ih := sim_sum w n size i hn hw hi M r e (u + 1) (wrap64 (s + w[u])) (by omega) (by omega) h
    refine Ev.succ ?_
    simp only [spec_beOrdered.l3, e1.out, rd_nat w u h1, w1 (show 0 ≤ (u : Int) by omega) (show (u : Int) < 9223372036854775807 by omega)]
    exact Ev.pos (by omega) (Ev.pos (by omega) (Ev.pos (by omega) ih))
theorem sim_mid (w : List Int) (n size : Nat) (hn : n ≤ 12) (hw : w.length = n) (hs1 : 2 ≤ size) (hs2 : size ≤ n)
    (next : ∀ M B, Tab n M B → ∃ r, Ev (fun k => spec_beOrdered.l1 k w (n : Int) M ((size + 1 : Nat) : Int)) r ∧ Ev (fun k => impl_joined.l1 k w (n : Int) B ((size + 1 : Nat) : Int)) r) :
    ∀ (d i : Nat) (M B : List (List Int)), i + size + d = n + 1 → Tab n M B → ∃ r, Ev (fun k => spec_beOrdered.l2 k w (n : Int) M (size : Int) (i : Int)) r ∧ Ev (fun k => impl_joined.l2 k w (n : Int) B (size : Int) (i : Int)) r
  | 0, i, M, B, hd, T => by
    obtain ⟨r, h1, h2⟩ := next M B T
    have e1 : Aside0 (wrap64 ((i : Int) + (size : Int)) = ((i + size : Nat) : Int)) := ⟨by rw [w64 (by omega) (by omega)]; omega⟩
    refine ⟨r, Ev.succ ?_, Ev.succ ?_⟩
    · simp only [spec_beOrdered.l2, e1.out, w1 (show 0 ≤ (size : Int) by omega) (show (size : Int) < 9223372036854775807 by omega)]
      exact Ev.neg (by omega) h1
    · simp only [impl_joined.l2, e1.out, w1 (show 0 ≤ (size : Int) by omega) (show (size : Int) < 9223372036854775807 by omega)]
      exact Ev.neg (by omega) h2
  | d + 1, i, M, B, hd, T => by
    have e1 : Aside0 (wrap64 ((i : Int) + (size : Int)) = ((i + size : Nat) : Int)) := ⟨by rw [w64 (by omega) (by omega)]; omega⟩
    have hs := sumWeights_ev ((w.take (i + size)).drop i) (by simp; omega)
    obtain ⟨r, h1, h2⟩ := sim_inner w n size i hn hw hs1 (by omega) _ hs (fun M B T => sim_mid w n size hn hw hs1 hs2 next d (i + 1) M B (by omega) T) (size - 1) i (-1) M B (by omega) (by omega) T
    refine ⟨r, Ev.succ ?_, Ev.succ ?_⟩
    · simp only [spec_beOrdered.l2, e1.out]
      exact Ev.pos (by omega) (sim_sum w n size i hn hw (by omega) M r size i 0 (by omega) (by omega) h1)
    · simp only [impl_joined.l2, e1.out, w1 (show 0 ≤ (i : Int) by omega) (show (i : Int) < 9223372036854775807 by omega)]
      exact Ev.pos (by omega) h2
theorem sim_outer (w : List Int) (n : Nat) (hn1 : 1 ≤ n) (hn : n ≤ 12) (hw : w.length = n) : ∀ (d size : Nat) (M B : List (List Int)), size + d = max (n + 1) 2 → 2 ≤ size → Tab n M B →
    ∃ r, Ev (fun k => spec_beOrdered.l1 k w (n : Int) M (size : Int)) r ∧ Ev (fun k => impl_joined.l1 k w (n : Int) B (size : Int)) r
  | 0, size, M, B, hd, hs, T => by
    obtain ⟨t1, t2, t3⟩ := T
    obtain ⟨a, b, c⟩ := t3 0 (by omega)
    have c1 := c (n - 1) (by omega)
    rw [show n - 1 + 1 = n by omega] at c1
    rw [show ((0 : Nat) : Int) = 0 from rfl] at a b c1
    have e1 : Aside0 (wrap64 ((n : Int) - 1) = ((n - 1 : Nat) : Int)) := ⟨by rw [w64 (by omega) (by omega)]; omega⟩
    refine ⟨rd (rd_L1 M 0) ((n - 1 : Nat) : Int), Ev.succ ?_, Ev.succ ?_⟩
    · simp only [spec_beOrdered.l1, e1.out]
      exact Ev.neg (by omega) (Ev.pos (by omega) (Ev.pos (by omega) (Ev.pos (by omega) (Ev.now _))))
    · simp only [impl_joined.l1]
      exact Ev.neg (by omega) (Ev.pos (by omega) (Ev.pos (by omega) (Ev.pos (by omega) (Ev.pure c1.symm))))
  | d + 1, size, M, B, hd, hs, T => by
    obtain ⟨r, h1, h2⟩ := sim_mid w n size hn hw hs (by omega) (fun M B T => sim_outer w n hn1 hn hw d (size + 1) M B (by omega) (by omega) T) (n + 1 - size) 0 M B (by omega) T
    refine ⟨r, Ev.succ ?_, Ev.succ ?_⟩
    · simp only [spec_beOrdered.l1]; exact Ev.pos (by omega) h1
    · simp only [impl_joined.l1]; exact Ev.pos (by omega) h2
theorem joined_same (w : List Int) (h1 : 1 ≤ w.length) (h2 : w.length ≤ 12) : ∃ r, Ev (fun k => spec_beOrdered.f k w) r ∧ Ev (fun k => impl_joined.f k w) r := by
  obtain ⟨r, a, b⟩ := sim_outer w w.length h1 h2 rfl (w.length - 1) 2 _ _ (by omega) (by omega) (Tab.start w.length)
  have fa := fill_spec w w.length h2 r a w.length 0 (List.replicate w.length []) (by omega) (by simp) (by simp)
  have fb := fill_impl w w.length h2 r b w.length 0 (List.replicate w.length []) (by omega) (by simp) (by simp)
  refine ⟨r, ?_, ?_⟩
  · unfold spec_beOrdered.f
    refine Ev.pos (by omega) (Ev.pos (by omega) ?_)
    simpa using fa
  · unfold impl_joined.f
    refine Ev.pos (by omega) (Ev.pos (by omega) ?_)
    simpa using fb

theorem krPower_l0 (b m : Nat) (hb : 1 ≤ b) (hp : b ^ m < 4611686018427387904) (hm : m ≤ 1048576) : ∀ (d i : Nat), i + d = m → Ev (fun k => spec_krPower.l0 k (b : Int) (d : Int) ((b ^ i : Nat) : Int)) ((b ^ m : Nat) : Int)
  | 0, i, hd => by
    refine Ev.succ ?_
    simp only [spec_krPower.l0]
    exact Ev.neg (by omega) (Ev.pure (by rw [show i = m by omega]))
  | d + 1, i, hd => by
    have ih := krPower_l0 b m hb hp hm d (i + 1) (by omega)
    have h1 : b ^ (i + 1) ≤ b ^ m := Nat.pow_le_pow_right hb (by omega)
    have e : Aside0 (wrap64 (((b ^ i : Nat) : Int) * (b : Int)) = ((b ^ (i + 1) : Nat) : Int)) := ⟨by
      rw [← Int.natCast_mul, show b ^ i * b = b ^ (i + 1) from rfl]; exact w64 (by omega) (by omega)⟩
    have e2 : Aside0 (wrap64 (((d + 1 : Nat) : Int) - 1) = (d : Int)) := ⟨by rw [w64 (by omega) (by omega)]; omega⟩
    refine Ev.succ ?_
    simp only [spec_krPower.l0, e.out, e2.out]
    exact Ev.pos (by omega) ih
theorem krPower_ev (b m : Nat) (hb : 1 ≤ b) (hp : b ^ m < 4611686018427387904) (hm : m ≤ 1048576) : Ev (fun k => spec_krPower.f k (b : Int) (m : Int)) ((b ^ m : Nat) : Int) := by
  have h := krPower_l0 b m hb hp hm m 0 (by omega)
  simpa [spec_krPower.f] using h

/-- the letters of a number with base m, l of them, the last one the least -/
def digs (m : Nat) : Nat → Nat → List UInt8
  | 0, _ => []
  | l + 1, n => digs m l (n / m) ++ [UInt8.ofNat (97 + n % m)]
theorem digs_length (m : Nat) : ∀ l n, (digs m l n).length = l
  | 0, _ => rfl
  | l + 1, n => by rw [digs, List.length_append, digs_length m l]; rfl
theorem ba_append (a b : Array UInt8) : (⟨a⟩ : ByteArray) ++ (⟨b⟩ : ByteArray) = ⟨a ++ b⟩ := by
  apply ByteArray.ext
  rw [ByteArray.data_append]
theorem letter_cut (r : Nat) (h : r < 3) : (⟨#[97, 98, 99]⟩ : ByteArray).extract r (r + 1) = ⟨#[UInt8.ofNat (97 + r)]⟩ := by
  match r, h with
  | 0, _ => decide
  | 1, _ => decide
  | 2, _ => decide

theorem krText_l0 (m : Nat) (hm : 2 ≤ m) (hm3 : m ≤ 3) (l : Nat) (hl : l ≤ 60) : ∀ (d i n : Nat) (acc : List UInt8), i + d = l → acc.length = i → n < 4611686018427387904 → Ev (fun k => spec_krText.l0 k (n : Int) (l : Int) (m : Int) (⟨acc.toArray⟩ : ByteArray) (i : Int)) ((⟨(digs m d n ++ acc).toArray⟩ : ByteArray))
  | 0, i, n, acc, hd, ha, hn => by
    refine Ev.succ ?_
    simp only [spec_krText.l0]
    exact Ev.neg (by omega) (Ev.pure (by simp [digs]))
  | d + 1, i, n, acc, hd, ha, hn => by
    have h2 : n / m ≤ n := Nat.div_le_self _ _
    have hr : n % m < m := Nat.mod_lt _ (by omega)
    have ih := krText_l0 m hm hm3 l hl d (i + 1) (n / m) (UInt8.ofNat (97 + n % m) :: acc) (by omega) (by simp; omega) (by omega)
    have e1 : Int.tmod (n : Int) (m : Int) = ((n % m : Nat) : Int) := (Int.ofNat_tmod n m).symm
    have e2 : Aside0 (wrap64 (Int.tdiv (n : Int) (m : Int)) = ((n / m : Nat) : Int)) := ⟨by
      rw [← Int.ofNat_tdiv]; generalize n / m = q at h2 ⊢; exact w64 (by omega) (by omega)⟩
    have e3 : Aside0 (wrap64 (((n % m : Nat) : Int) + 1) = ((n % m + 1 : Nat) : Int)) := ⟨by rw [w64 (by omega) (by omega)]; omega⟩
    have e4 : (⟨#[97, 98, 99]⟩ : ByteArray).extract (n % m) (n % m + 1) = ⟨#[UInt8.ofNat (97 + n % m)]⟩ := letter_cut _ (by omega)
    have e5 : (⟨#[UInt8.ofNat (97 + n % m)]⟩ : ByteArray) ++ (⟨acc.toArray⟩ : ByteArray) = ⟨(UInt8.ofNat (97 + n % m) :: acc).toArray⟩ := by rw [ba_append]; simp
    refine Ev.succ ?_
    simp only [spec_krText.l0, e1, e2.out, e3.out, Int.toNat_natCast, e4, e5, w1 (show 0 ≤ (i : Int) by omega) (show (i : Int) < 9223372036854775807 by omega)]
    refine Ev.pos (by omega) (Ev.neg (by omega) (Ev.pos (by omega) (Ev.pos (by omega) (Ev.pos (by omega) (Ev.pos ?_ ?_)))))
    · simp [ByteArray.size]; omega
    · rw [digs, List.append_assoc]; exact ih
theorem krText_ev (n l m : Nat) (hm : 2 ≤ m) (hm3 : m ≤ 3) (hl : l ≤ 60) (hn : n < 4611686018427387904) : Ev (fun k => spec_krText.f k (n : Int) (l : Int) (m : Int)) (⟨(digs m l n).toArray⟩ : ByteArray) := by
  have h := krText_l0 m hm hm3 l hl l 0 n [] (by omega) rfl hn
  simpa [spec_krText.f] using h

/-- where the next word of each length stands among those of its length, if all can be -/
def place (b n l : Nat) : Nat := if b ≤ l then n * 2 ^ (l - b) else (n + 2 ^ (b - l) - 1) / 2 ^ (b - l)
def go : Nat → Nat → List Int → Option (List Nat)
  | _, _, [] => some []
  | b, n, x :: xs => if place b n x.toNat ≥ 2 ^ x.toNat then none else (go x.toNat (place b n x.toNat + 1) xs).map (place b n x.toNat :: ·)
theorem go_length : ∀ (xs : List Int) (b n : Nat) (ats : List Nat), go b n xs = some ats → ats.length = xs.length
  | [], _, _, ats, h => by simp only [go, Option.some.injEq] at h; rw [← h]; rfl
  | x :: xs, b, n, ats, h => by
    simp only [go] at h
    split at h
    · cases h
    · obtain ⟨z, hz, rfl⟩ := Option.map_eq_some_iff.mp h
      simp [go_length xs _ _ z hz]
theorem pow2_le {l : Nat} (h : l ≤ 11) : 1 ≤ 2 ^ l ∧ 2 ^ l ≤ 2048 :=
  ⟨Nat.one_le_two_pow, by have := Nat.pow_le_pow_right (show 1 ≤ 2 by omega) h; simpa using this⟩
theorem place_le (b n l : Nat) (hb : b ≤ 11) (hl : l ≤ 11) (hn : n ≤ 2 ^ b) : place b n l ≤ 2048 ∧ n ≤ 2048 := by
  have h1 := pow2_le hb
  have h2 := pow2_le hl
  unfold place
  split
  · rename_i h
    have : n * 2 ^ (l - b) ≤ 2 ^ b * 2 ^ (l - b) := Nat.mul_le_mul_right _ hn
    rw [← Nat.pow_add, show b + (l - b) = l by omega] at this
    omega
  · have h3 := pow2_le (show b - l ≤ 11 by omega)
    have h4 : (n + 2 ^ (b - l) - 1) / 2 ^ (b - l) ≤ n := by
      rw [Nat.div_le_iff_le_mul_add_pred (by omega)]
      have : n * 1 ≤ 2 ^ (b - l) * n := by rw [Nat.mul_comm]; exact Nat.mul_le_mul_right _ h3.1
      omega
    omega
/-- the program's way to reckon the place: by words of the greatest length -/
theorem place_impl (b n l : Nat) (hb : b ≤ 11) (hl : l ≤ 11) : (n * 2 ^ (11 - b) + 2 ^ (11 - l) - 1) / 2 ^ (11 - l) = place b n l := by
  have hp : 0 < 2 ^ (11 - l) := Nat.two_pow_pos _
  unfold place
  split
  · rename_i h
    have e : 2 ^ (11 - b) = 2 ^ (l - b) * 2 ^ (11 - l) := by rw [← Nat.pow_add]; congr 1; omega
    rw [e, ← Nat.mul_assoc, Nat.add_sub_assoc (by omega), Nat.mul_comm _ (2 ^ (11 - l)), Nat.mul_add_div hp, Nat.div_eq_of_lt (by omega), Nat.add_zero]
  · rename_i h
    have e : 2 ^ (11 - l) = 2 ^ (11 - b) * 2 ^ (b - l) := by rw [← Nat.pow_add]; congr 1; omega
    have hc : 0 < 2 ^ (11 - b) := Nat.two_pow_pos _
    have hs : 0 < 2 ^ (b - l) := Nat.two_pow_pos _
    rw [e, ← Nat.div_div_eq_div_mul]
    congr 1
    have : n * 2 ^ (11 - b) + 2 ^ (11 - b) * 2 ^ (b - l) - 1 = 2 ^ (11 - b) * (n + 2 ^ (b - l) - 1) + (2 ^ (11 - b) - 1) := by
      generalize 2 ^ (11 - b) = c at *
      generalize 2 ^ (b - l) = s at *
      obtain ⟨s, rfl⟩ : ∃ m, s = m + 1 := ⟨s - 1, by omega⟩
      rw [show n + (s + 1) - 1 = n + s by omega, Nat.mul_add, Nat.mul_add, Nat.mul_one, Nat.mul_comm n c]
      omega
    rw [this, Nat.mul_add_div hc, Nat.div_eq_of_lt (by omega), Nat.add_zero]
theorem place_fits (b n l : Nat) (hl : l ≤ 11) : (place b n l + 1) * 2 ^ (11 - l) > 2 ^ 11 ↔ place b n l ≥ 2 ^ l := by
  have e : 2 ^ 11 = 2 ^ l * 2 ^ (11 - l) := by rw [← Nat.pow_add]; congr 1; omega
  rw [e]
  constructor
  · intro h; have := Nat.lt_of_mul_lt_mul_right h; omega
  · intro h; exact Nat.mul_lt_mul_of_pos_right (by omega) (Nat.two_pow_pos _)

/-- the words of places and lengths -/
def wordsOf : List Nat → List Int → List ByteArray
  | p :: ps, x :: xs => (⟨(digs 2 x.toNat p).toArray⟩ : ByteArray) :: wordsOf ps xs
  | _, _ => []
theorem wordsOf_length : ∀ (ps : List Nat) (xs : List Int), ps.length = xs.length → (wordsOf ps xs).length = xs.length
  | [], [], _ => rfl
  | p :: ps, x :: xs, h => by simp only [wordsOf, List.length_cons]; rw [wordsOf_length ps xs (by simpa using h)]
def textsOf (acc : List ByteArray) (b n : Nat) (xs : List Int) : List ByteArray := match go b n xs with
  | none => []
  | some ps => acc ++ wordsOf ps xs
theorem beTexts_j1 (L : List Int) (i : Nat) (x : Nat) (hx : x ≤ 11) (acc : List ByteArray) (at_ : Nat) (ha : acc.length ≤ 12) (hat : at_ ≤ 2048) (r : List ByteArray)
    (h : at_ < 2 ^ x → Ev (fun k => spec_beTexts.l0 k (acc ++ [(⟨(digs 2 x at_).toArray⟩ : ByteArray)]) ((at_ + 1 : Nat) : Int) (x : Int) L (L.length : Int) (wrap64 ((i : Int) + 1))) r) (h' : ¬ at_ < 2 ^ x → r = []) :
    Ev (fun k => spec_beTexts.j1 k acc (at_ : Int) (x : Int) L (L.length : Int) (i : Int)) r := by
  have hp := pow2_le hx
  have e : Aside0 (wrap64 ((at_ : Int) + 1) = ((at_ + 1 : Nat) : Int)) := ⟨by rw [w64 (by omega) (by omega)]; omega⟩
  refine Ev.succ ?_
  simp only [spec_beTexts.j1, e.out]
  refine Ev.bind (krPower_ev 2 x (by omega) (by omega) (by omega)) ?_
  by_cases hlt : at_ < 2 ^ x
  · exact Ev.neg (by omega) (Ev.bind (krText_ev at_ x 2 (by omega) (by omega) (by omega) (by omega)) (Ev.pos (by omega) (h hlt)))
  · exact Ev.pos (by omega) (Ev.pure (h' hlt).symm)
theorem beTexts_l0 (L : List Int) (hL : L.length ≤ 12) (hb : ∀ x ∈ L, 1 ≤ x ∧ x ≤ 11) : ∀ (d i : Nat) (acc : List ByteArray) (b n : Nat), i + d = L.length → acc.length ≤ i → b ≤ 11 → n ≤ 2 ^ b →
    Ev (fun k => spec_beTexts.l0 k acc (n : Int) (b : Int) L (L.length : Int) (i : Int)) (textsOf acc b n (L.drop i))
  | 0, i, acc, b, n, hd, ha, hbb, hn => by
    refine Ev.succ ?_
    simp only [spec_beTexts.l0]
    exact Ev.neg (by omega) (Ev.pure (by rw [List.drop_of_length_le (by omega)]; simp [textsOf, go, wordsOf]))
  | d + 1, i, acc, b, n, hd, ha, hbb, hn => by
    have h1 : i < L.length := by omega
    have hm := hb L[i] (List.getElem_mem h1)
    obtain ⟨x, hx⟩ : ∃ x : Nat, L[i] = (x : Int) := ⟨L[i].toNat, by omega⟩
    have hx11 : x ≤ 11 := by omega
    have hpl := place_le b n x hbb hx11 hn
    have hj := beTexts_j1 L i x hx11 acc (place b n x) (by omega) hpl.1 (textsOf acc b n (L.drop i)) (fun hlt => by
      have ih := beTexts_l0 L hL hb d (i + 1) (acc ++ [(⟨(digs 2 x (place b n x)).toArray⟩ : ByteArray)]) x (place b n x + 1) (by omega) (by simp; omega) hx11 (by omega)
      rw [w1 (by omega) (by omega)]
      have e : textsOf acc b n (L.drop i) = textsOf (acc ++ [(⟨(digs 2 x (place b n x)).toArray⟩ : ByteArray)]) x (place b n x + 1) (L.drop (i + 1)) := by
        rw [List.drop_eq_getElem_cons h1, hx]
        simp only [textsOf, go, Int.toNat_natCast]
        rw [if_neg (by omega)]
        cases go x (place b n x + 1) (List.drop (i + 1) L) <;> simp [wordsOf]
      rw [e]; exact ih) (fun hge => by
        rw [List.drop_eq_getElem_cons h1, hx]
        simp only [textsOf, go, Int.toNat_natCast]
        rw [if_pos (by omega)])
    refine Ev.succ ?_
    simp only [spec_beTexts.l0, rd_nat L i h1, hx]
    refine Ev.pos (by omega) (Ev.pos (by omega) (Ev.pos (by omega) (Ev.cases (fun hge => ?_) (fun hlt => ?_))))
    · have e1 : wrap64 ((x : Int) - (b : Int)) = ((x - b : Nat) : Int) := by rw [w64 (by omega) (by omega)]; omega
      have hp := pow2_le (show x - b ≤ 11 by omega)
      rw [e1]
      refine Ev.bind (krPower_ev 2 (x - b) (by omega) (by omega) (by omega)) ?_
      have e2 : Aside0 (wrap64 ((n : Int) * ((2 ^ (x - b) : Nat) : Int)) = (place b n x : Int)) := ⟨by
        have : place b n x = n * 2 ^ (x - b) := by unfold place; rw [if_pos (by omega)]
        rw [← Int.natCast_mul, ← this]; exact w64 (by omega) (by omega)⟩
      rw [e2.out]; exact hj
    · have e1 : wrap64 ((b : Int) - (x : Int)) = ((b - x : Nat) : Int) := by rw [w64 (by omega) (by omega)]; omega
      have hp := pow2_le (show b - x ≤ 11 by omega)
      rw [e1]
      refine Ev.bind (krPower_ev 2 (b - x) (by omega) (by omega) (by omega)) ?_
      have e2 : Aside0 (wrap64 (Int.tdiv (wrap64 ((wrap64 ((n : Int) + ((2 ^ (b - x) : Nat) : Int))) - 1)) ((2 ^ (b - x) : Nat) : Int)) = (place b n x : Int)) := ⟨by
        have : place b n x = (n + 2 ^ (b - x) - 1) / 2 ^ (b - x) := by unfold place; rw [if_neg (by omega)]
        generalize 2 ^ (b - x) = s at *
        rw [w64 (i := (n : Int) + (s : Int)) (by omega) (by omega), w64 (i := (n : Int) + (s : Int) - 1) (by omega) (by omega), show (n : Int) + (s : Int) - 1 = ((n + s - 1 : Nat) : Int) by omega, ← Int.ofNat_tdiv, ← this]
        exact w64 (by omega) (by omega)⟩
      rw [e2.out]; exact Ev.neg (by omega) hj
theorem beTexts_ev (L : List Int) (hL : L.length ≤ 12) (hb : ∀ x ∈ L, 1 ≤ x ∧ x ≤ 11) : Ev (fun k => spec_beTexts.f k L) (textsOf [] 0 0 L) := by
  have h := beTexts_l0 L hL hb L.length 0 [] 0 0 (by omega) (by simp) (by omega) (by omega)
  simpa [spec_beTexts.f] using h

theorem power_l0 (b m : Nat) (hb : 1 ≤ b) (hp : b ^ m < 4611686018427387904) (hm : m ≤ 1048576) : ∀ (d i : Nat), i + d = m → Ev (fun k => impl_power.l0 k (b : Int) ((b ^ i : Nat) : Int) (m : Int) (i : Int)) ((b ^ m : Nat) : Int)
  | 0, i, hd => by
    refine Ev.succ ?_
    simp only [impl_power.l0]
    exact Ev.neg (by omega) (Ev.pure (by rw [show i = m by omega]))
  | d + 1, i, hd => by
    have ih := power_l0 b m hb hp hm d (i + 1) (by omega)
    have h1 : b ^ (i + 1) ≤ b ^ m := Nat.pow_le_pow_right hb (by omega)
    have e : Aside0 (wrap64 (((b ^ i : Nat) : Int) * (b : Int)) = ((b ^ (i + 1) : Nat) : Int)) := ⟨by
      rw [← Int.natCast_mul, show b ^ i * b = b ^ (i + 1) from rfl]; exact w64 (by omega) (by omega)⟩
    refine Ev.succ ?_
    simp only [impl_power.l0, e.out, w1 (show 0 ≤ (i : Int) by omega) (show (i : Int) < 9223372036854775807 by omega)]
    exact Ev.pos (by omega) ih
theorem power_ev (b m : Nat) (hb : 1 ≤ b) (hp : b ^ m < 4611686018427387904) (hm : m ≤ 1048576) : Ev (fun k => impl_power.f k (b : Int) (m : Int)) ((b ^ m : Nat) : Int) := by
  have h := power_l0 b m hb hp hm m 0 (by omega)
  simpa [impl_power.f] using h

def placesOf (acc : List Int) (b n : Nat) (xs : List Int) : List Int × Bool := match go b n xs with
  | none => ([], false)
  | some ps => (acc ++ ps.map (fun p : Nat => (p : Int)), true)
theorem orderedWords_l0 (L : List Int) (hL : L.length ≤ 12) (hb : ∀ x ∈ L, 1 ≤ x ∧ x ≤ 11) : ∀ (d i : Nat) (acc : List Int) (b n : Nat), i + d = L.length → acc.length ≤ i → b ≤ 11 → n ≤ 2 ^ b →
    Ev (fun k => impl_orderedWords.l0 k acc ((n * 2 ^ (11 - b) : Nat) : Int) L (L.length : Int) (i : Int)) (placesOf acc b n (L.drop i))
  | 0, i, acc, b, n, hd, ha, hbb, hn => by
    refine Ev.succ ?_
    simp only [impl_orderedWords.l0]
    exact Ev.neg (by omega) (Ev.pure (by rw [List.drop_of_length_le (by omega)]; simp [placesOf, go]))
  | d + 1, i, acc, b, n, hd, ha, hbb, hn => by
    have h1 : i < L.length := by omega
    have hm := hb L[i] (List.getElem_mem h1)
    obtain ⟨x, hx⟩ : ∃ x : Nat, L[i] = (x : Int) := ⟨L[i].toNat, by omega⟩
    have hx11 : x ≤ 11 := by omega
    have hpl := place_le b n x hbb hx11 hn
    have hpi := place_impl b n x hbb hx11
    have hpf := place_fits b n x hx11
    have hp := pow2_le (show 11 - x ≤ 11 by omega)
    have hq := pow2_le (show 11 - b ≤ 11 by omega)
    have hnq : n * 2 ^ (11 - b) ≤ 2048 := by
      have := Nat.mul_le_mul_right (2 ^ (11 - b)) hn
      rw [← Nat.pow_add, show b + (11 - b) = 11 by omega] at this
      exact this
    have e1 : Aside0 (wrap64 (11 - (x : Int)) = ((11 - x : Nat) : Int)) := ⟨by rw [w64 (by omega) (by omega)]; omega⟩
    have e2 : Aside0 (wrap64 (Int.tdiv (wrap64 ((wrap64 (((n * 2 ^ (11 - b) : Nat) : Int) + ((2 ^ (11 - x) : Nat) : Int))) - 1)) ((2 ^ (11 - x) : Nat) : Int)) = (place b n x : Int)) := ⟨by
      rw [w64 (i := ((n * 2 ^ (11 - b) : Nat) : Int) + ((2 ^ (11 - x) : Nat) : Int)) (by omega) (by omega), w64 (i := ((n * 2 ^ (11 - b) : Nat) : Int) + ((2 ^ (11 - x) : Nat) : Int) - 1) (by omega) (by omega),
        show ((n * 2 ^ (11 - b) : Nat) : Int) + ((2 ^ (11 - x) : Nat) : Int) - 1 = ((n * 2 ^ (11 - b) + 2 ^ (11 - x) - 1 : Nat) : Int) by omega, ← Int.ofNat_tdiv, hpi]
      exact w64 (by omega) (by omega)⟩
    have e3 : Aside0 (wrap64 ((wrap64 ((place b n x : Int) + 1)) * ((2 ^ (11 - x) : Nat) : Int)) = (((place b n x + 1) * 2 ^ (11 - x) : Nat) : Int)) := ⟨by
      have hle : (place b n x + 1) * 2 ^ (11 - x) ≤ 2049 * 2048 := Nat.mul_le_mul (by omega) hp.2
      rw [w64 (i := (place b n x : Int) + 1) (by omega) (by omega), show (place b n x : Int) + 1 = ((place b n x + 1 : Nat) : Int) by omega, ← Int.natCast_mul]
      exact w64 (by omega) (by omega)⟩
    refine Ev.succ ?_
    simp only [impl_orderedWords.l0, rd_nat L i h1, hx, e1.out]
    refine Ev.pos (by omega) (Ev.pos (by omega) (Ev.pos (by omega) (Ev.bind (power_ev 2 (11 - x) (by omega) (by omega) (by omega)) (Ev.neg (by omega) (Ev.bind (power_ev 2 11 (by omega) (by omega) (by omega)) ?_)))))
    simp only [e2.out, e3.out, w1 (show 0 ≤ (i : Int) by omega) (show (i : Int) < 9223372036854775807 by omega)]
    rw [List.drop_eq_getElem_cons h1, hx]
    simp only [placesOf, go, Int.toNat_natCast]
    by_cases hge : place b n x ≥ 2 ^ x
    · rw [if_pos hge]
      exact Ev.pos (by have := hpf.mpr hge; omega) (Ev.now _)
    · rw [if_neg hge]
      refine Ev.neg (by intro h; exact hge (hpf.mp (by omega))) (Ev.pos (by omega) ?_)
      have ih := orderedWords_l0 L hL hb d (i + 1) (acc ++ [(place b n x : Int)]) x (place b n x + 1) (by omega) (by simp; omega) hx11 (by omega)
      have e : (match Option.map (fun z => place b n x :: z) (go x (place b n x + 1) (List.drop (i + 1) L)) with | none => ([], false) | some ps => (acc ++ ps.map (fun p : Nat => (p : Int)), true)) = placesOf (acc ++ [(place b n x : Int)]) x (place b n x + 1) (List.drop (i + 1) L) := by
        unfold placesOf
        cases go x (place b n x + 1) (List.drop (i + 1) L) <;> simp
      rw [e]; exact ih
theorem orderedWords_ev (L : List Int) (hL : L.length ≤ 12) (hb : ∀ x ∈ L, 1 ≤ x ∧ x ≤ 11) : Ev (fun k => impl_orderedWords.f k L) (placesOf [] 0 0 L) := by
  have h := orderedWords_l0 L hL hb L.length 0 [] 0 0 (by omega) (by simp) (by omega) (by omega)
  simpa [impl_orderedWords.f] using h

theorem l1Own_ev (l : List Int) (h : l.length ≤ 1048576) : spec_l1Own.f l = some l := by
  unfold spec_l1Own.f
  rw [Option.bind_some, if_pos (by simp; omega)]
  simp
theorem Ev.unique {α : Type} {f : Nat → Option α} {a b : α} (h1 : Ev f a) (h2 : Ev f b) : a = b := by
  obtain ⟨n, h1⟩ := h1
  obtain ⟨m, h2⟩ := h2
  have a1 := h1 (max n m) (by omega)
  have a2 := h2 (max n m) (by omega)
  rw [a1] at a2
  exact Option.some.inj a2
/-- depths of the ends of a tree, from left to right -/
inductive Tr : Nat → List Nat → Prop where
  | leaf (h : Nat) : Tr h [0]
  | node {h : Nat} {a b : List Nat} : Tr h a → Tr h b → Tr (h + 1) (a.map (· + 1) ++ b.map (· + 1))
theorem Tr.up {h : Nat} {a : List Nat} (t : Tr h a) : ∀ h', h ≤ h' → Tr h' a := by
  induction t with
  | leaf h => intro h' _; exact .leaf h'
  | node t1 t2 i1 i2 =>
    intro h' hh
    obtain ⟨m, rfl⟩ : ∃ m, h' = m + 1 := ⟨h' - 1, by omega⟩
    exact .node (i1 m (by omega)) (i2 m (by omega))
theorem Tr.le {h : Nat} {a : List Nat} (t : Tr h a) : ∀ x ∈ a, x ≤ h := by
  induction t with
  | leaf h => intro x hx; simp at hx; omega
  | node t1 t2 i1 i2 =>
    intro x hx
    rcases List.mem_append.1 hx with hx | hx
    · obtain ⟨y, hy, rfl⟩ := List.mem_map.1 hx
      have := i1 y hy; omega
    · obtain ⟨y, hy, rfl⟩ := List.mem_map.1 hx
      have := i2 y hy; omega
theorem Tr.ne {h : Nat} {a : List Nat} (t : Tr h a) : a ≠ [] := by
  induction t with
  | leaf h => simp
  | node t1 t2 i1 i2 => simp [i1]
/-- the ends of a tree below a place take up the whole place -/
theorem Tr.fits {h : Nat} {a : List Nat} (t : Tr h a) : ∀ (d m b n : Nat) (rest : List Int), d + h ≤ 11 → m < 2 ^ d → b ≤ 11 → n * 2 ^ (11 - b) = m * 2 ^ (11 - d) →
    ∃ b' n', b' ≤ 11 ∧ n' * 2 ^ (11 - b') = (m + 1) * 2 ^ (11 - d) ∧ ((go b' n' rest).isSome = true → (go b n (a.map (fun x : Nat => ((d + x : Nat) : Int)) ++ rest)).isSome = true) := by
  induction t with
  | leaf h =>
    intro d m b n rest hd hm hb hn
    refine ⟨d, m + 1, by omega, rfl, fun hs => ?_⟩
    have hp : place b n d = m := by
      rw [← place_impl b n d hb (by omega), hn]
      have h1 : 0 < 2 ^ (11 - d) := Nat.two_pow_pos _
      rw [Nat.add_sub_assoc (by omega), Nat.mul_comm, Nat.mul_add_div h1, Nat.div_eq_of_lt (by omega), Nat.add_zero]
    simp only [List.map_cons, List.map_nil, List.cons_append, List.nil_append, Nat.add_zero, go, Int.toNat_natCast, hp]
    rw [if_neg (by omega), Option.isSome_map]
    exact hs
  | @node h a c t1 t2 i1 i2 =>
    intro d m b n rest hd hm hb hn
    have e : 2 ^ (11 - d) = 2 * 2 ^ (11 - (d + 1)) := by
      rw [← Nat.pow_succ']; congr 1; omega
    have e2 : 2 ^ (d + 1) = 2 * 2 ^ d := by rw [Nat.pow_succ']
    rw [e] at hn ⊢
    obtain ⟨b1, n1, p1, p2, p3⟩ := i1 (d + 1) (2 * m) b n (c.map (fun x : Nat => ((d + 1 + x : Nat) : Int)) ++ rest) (by omega) (by omega) hb (by rw [hn, ← Nat.mul_assoc, Nat.mul_comm m 2])
    obtain ⟨b2, n2, q1, q2, q3⟩ := i2 (d + 1) (2 * m + 1) b1 n1 rest (by omega) (by omega) p1 p2
    refine ⟨b2, n2, q1, ?_, fun hs => ?_⟩
    · rw [q2, show 2 * m + 1 + 1 = (m + 1) * 2 by omega, Nat.mul_assoc]
    · have h1 := p3 (q3 hs)
      have e3 : ∀ l : List Nat, (l.map (· + 1)).map (fun x : Nat => ((d + x : Nat) : Int)) = l.map (fun x : Nat => ((d + 1 + x : Nat) : Int)) := fun l => by
        rw [List.map_map]
        refine List.map_congr_left fun x _ => ?_
        show ((d + (x + 1) : Nat) : Int) = ((d + 1 + x : Nat) : Int)
        congr 1; omega
      rw [List.map_append, e3, e3, List.append_assoc]
      exact h1
/-- whether lengths can be put in order -/
def can (L : List Int) : Bool := (go 0 0 L).isSome
theorem go_prefix : ∀ (xs ys : List Int) (b n : Nat), (go b n (xs ++ ys)).isSome = true → (go b n xs).isSome = true
  | [], _, _, _, _ => rfl
  | x :: xs, ys, b, n, h => by
    simp only [List.cons_append, go] at h ⊢
    split at h
    · simp at h
    · rename_i hh
      rw [if_neg hh, Option.isSome_map]
      rw [Option.isSome_map] at h
      exact go_prefix xs ys _ _ h
theorem can_prefix (xs ys : List Int) (h : can (xs ++ ys) = true) : can xs = true := go_prefix xs ys 0 0 h
theorem placesOf_can (L : List Int) : (placesOf [] 0 0 L).2 = can L := by
  unfold placesOf can
  cases go 0 0 L <;> rfl
theorem beCan_ev (L : List Int) (hL : L.length ≤ 12) (hb : ∀ x ∈ L, 1 ≤ x ∧ x ≤ 11) : Ev (fun k => spec_beCan.f k L) (can L) := by
  unfold spec_beCan.f
  refine Ev.bind (beTexts_ev L hL hb) (Ev.pure ?_)
  unfold textsOf can
  cases hg : go 0 0 L with
  | none =>
    cases L with
    | nil => simp [go] at hg
    | cons x xs => simp; omega
  | some ps => simp [wordsOf_length ps L (go_length L 0 0 ps hg)]
/-- the cost of lengths -/
def dot : List Int → List Int → Int
  | w :: ws, x :: xs => w * x + dot ws xs
  | _, _ => 0
/-- the first lengths that go on some, at a cost that is due -/
def srch (ws : List Int) (due : Int) : Nat → List Int → Int → Option (List Int)
  | 0, done, cost => if can done = true ∧ cost = due then some done else none
  | m + 1, done, cost => ([1, 2, 3, 4, 5, 6, 7, 8, 9, 10, 11] : List Int).findSome? fun l => if cost + rd ws done.length * l ≤ due ∧ can (done ++ [l]) = true then srch ws due m (done ++ [l]) (cost + rd ws done.length * l) else none
theorem srch_length (ws : List Int) (due : Int) : ∀ (m : Nat) (done : List Int) (cost : Int) (x : List Int), srch ws due m done cost = some x → x.length = done.length + m
  | 0, done, cost, x, h => by
    simp only [srch] at h
    split at h
    · obtain rfl := Option.some.inj h; rfl
    · cases h
  | m + 1, done, cost, x, h => by
    simp only [srch] at h
    obtain ⟨l, hl, h1⟩ := List.exists_of_findSome?_eq_some h
    split at h1
    · have := srch_length ws due m _ _ x h1
      simp at this; omega
    · cases h1
theorem dot_nonneg : ∀ (ws xs : List Int), (∀ w ∈ ws, 1 ≤ w) → (∀ x ∈ xs, 1 ≤ x) → 0 ≤ dot ws xs
  | [], _, _, _ => by simp [dot]
  | _ :: _, [], _, _ => by simp [dot]
  | w :: ws, x :: xs, h1, h2 => by
    have a := h1 w (by simp)
    have b := h2 x (by simp)
    have c := dot_nonneg ws xs (fun w hw => h1 w (by simp [hw])) (fun x hx => h2 x (by simp [hx]))
    have d : 0 ≤ w * x := Int.mul_nonneg (by omega) (by omega)
    simp only [dot]; omega
theorem srch_some (ws : List Int) (due : Int) (hw : ∀ w ∈ ws, 1 ≤ w) : ∀ (rest done : List Int) (cost : Int), done.length + rest.length = ws.length → (∀ x ∈ rest, 1 ≤ x ∧ x ≤ 11) → can (done ++ rest) = true → cost + dot (ws.drop done.length) rest = due → ∃ x, srch ws due rest.length done cost = some x
  | [], done, cost, hl, hr, hc, hd => by
    refine ⟨done, ?_⟩
    simp only [List.length_nil, srch]
    rw [if_pos]
    refine ⟨by simpa using hc, ?_⟩
    cases hq : ws.drop done.length <;> rw [hq] at hd <;> simpa [dot] using hd
  | l :: rest, done, cost, hl, hr, hc, hd => by
    rw [List.length_cons] at hl
    have hlt : done.length < ws.length := by omega
    have hl1 := hr l (by simp)
    rw [List.drop_eq_getElem_cons hlt] at hd
    simp only [dot] at hd
    have hge := dot_nonneg (ws.drop (done.length + 1)) rest (fun w h => hw w (List.mem_of_mem_drop h)) (fun x h => (hr x (by simp [h])).1)
    have hc' : can ((done ++ [l]) ++ rest) = true := by simpa using hc
    obtain ⟨x, hx⟩ := srch_some ws due hw rest (done ++ [l]) (cost + ws[done.length] * l) (by simp; omega) (fun x h => hr x (by simp [h])) hc' (by simp; omega)
    have hsome : (srch ws due (rest.length + 1) done cost).isSome = true := by
      simp only [srch]
      rw [List.findSome?_isSome_iff]
      refine ⟨l, ?_, ?_⟩
      · have : l = 1 ∨ l = 2 ∨ l = 3 ∨ l = 4 ∨ l = 5 ∨ l = 6 ∨ l = 7 ∨ l = 8 ∨ l = 9 ∨ l = 10 ∨ l = 11 := by omega
        simp only [List.mem_cons, List.not_mem_nil, or_false]; exact this
      · rw [rd_nat ws done.length hlt, if_pos ⟨by omega, can_prefix _ _ hc'⟩, hx]; rfl
    exact Option.isSome_iff_exists.1 hsome
theorem can_ev (L : List Int) (hL : L.length ≤ 12) (hb : ∀ x ∈ L, 1 ≤ x ∧ x ≤ 11) : ∃ b : List Int × Bool, Ev (fun k => impl_orderedWords.f k L) b ∧ b.2 = can L := ⟨_, orderedWords_ev L hL hb, placesOf_can L⟩
/-- the rest of the lengths that are tried -/
def from_ (l : Nat) : List Int := (([1, 2, 3, 4, 5, 6, 7, 8, 9, 10, 11] : List Int)).drop (l - 1)
theorem from_cons (l : Nat) (h1 : 1 ≤ l) (h2 : l ≤ 11) : from_ l = (l : Int) :: from_ (l + 1) := by
  have : l = 1 ∨ l = 2 ∨ l = 3 ∨ l = 4 ∨ l = 5 ∨ l = 6 ∨ l = 7 ∨ l = 8 ∨ l = 9 ∨ l = 10 ∨ l = 11 := by omega
  rcases this with rfl | rfl | rfl | rfl | rfl | rfl | rfl | rfl | rfl | rfl | rfl <;> rfl
theorem from_mem (l : Nat) (h1 : 1 ≤ l) (x : Int) (hx : x ∈ from_ l) : (l : Int) ≤ x ∧ x ≤ 11 := by
  by_cases h : l ≤ 11
  · rw [from_cons l h1 h] at hx
    rcases List.mem_cons.1 hx with e | e
    · omega
    · have := from_mem (l + 1) (by omega) x e; omega
  · unfold from_ at hx
    rw [List.drop_of_length_le (by simp; omega)] at hx
    cases hx
termination_by 12 - l
/-- how the search stands -/
structure SInv (ws : List Int) (due : Int) (m : Nat) (done : List Int) (cost : Int) : Prop where
  few : ws.length ≤ 6
  w1 : ∀ w ∈ ws, 1 ≤ w ∧ w ≤ 100
  len : done.length + m = ws.length
  in_ : ∀ x ∈ done, 1 ≤ x ∧ x ≤ 11
  c0 : 0 ≤ cost
  c1 : cost ≤ due
  d1 : due ≤ 1000000
theorem SInv.next {ws : List Int} {due : Int} {m : Nat} {done : List Int} {cost : Int} (h : SInv ws due (m + 1) done cost) (l : Nat) (h1 : 1 ≤ l) (h2 : l ≤ 11) (hc : cost + rd ws done.length * (l : Int) ≤ due) : SInv ws due m (done ++ [(l : Int)]) (cost + rd ws done.length * (l : Int)) := by
  have hlt : done.length < ws.length := by have := h.len; omega
  have hw := h.w1 _ (List.getElem_mem hlt)
  rw [rd_nat ws done.length hlt] at hc ⊢
  have hp : 0 ≤ ws[done.length] * (l : Int) := Int.mul_nonneg (by omega) (by omega)
  refine ⟨h.few, h.w1, by have := h.len; simp; omega, fun x hx => ?_, by have := h.c0; omega, hc, h.d1⟩
  rcases List.mem_append.1 hx with hx | hx
  · exact h.in_ x hx
  · rw [List.mem_singleton] at hx; omega
theorem SInv.prod {ws : List Int} {due : Int} {m : Nat} {done : List Int} {cost : Int} (h : SInv ws due (m + 1) done cost) (l : Nat) (h1 : 1 ≤ l) (h2 : l ≤ 11) : 1 ≤ rd ws done.length ∧ rd ws done.length * (l : Int) ≤ 1100 ∧ 0 ≤ rd ws done.length * (l : Int) := by
  have hlt : done.length < ws.length := by have := h.len; omega
  have hw := h.w1 _ (List.getElem_mem hlt)
  rw [rd_nat ws done.length hlt]
  have hp : 0 ≤ ws[done.length] * (l : Int) := Int.mul_nonneg (by omega) (by omega)
  have hq : ws[done.length] * (l : Int) ≤ 100 * 11 := Int.mul_le_mul hw.2 (by omega) (by omega) (by omega)
  exact ⟨hw.1, by omega, hp⟩
/-- the program's search -/
theorem find_ev (ws : List Int) (due : Int) : ∀ (m : Nat) (done : List Int) (cost : Int), SInv ws due m done cost → Ev (fun k => impl_OrderedLengths.find k ws due done cost) (srch ws due m done cost)
  | 0, done, cost, h => by
    obtain ⟨b, hb, hb2⟩ := can_ev done (by have := h.len; have := h.few; omega) h.in_
    refine Ev.succ ?_
    simp only [impl_OrderedLengths.find]
    refine Ev.pos (by have := h.len; omega) (Ev.bind hb (Ev.pure ?_))
    simp only [srch]
    rw [hb2]
  | m + 1, done, cost, h => by
    have hlen := h.len
    have hfew := h.few
    have loop : ∀ (e l : Nat), l + e = 12 → 1 ≤ l → Ev (fun k => impl_OrderedLengths.loop k ws due done cost l) ((from_ l).findSome? fun l => if cost + rd ws done.length * l ≤ due ∧ can (done ++ [l]) = true then srch ws due m (done ++ [l]) (cost + rd ws done.length * l) else none) := by
      intro e
      induction e with
      | zero =>
        intro l he h1
        refine Ev.succ ?_
        simp only [impl_OrderedLengths.loop]
        refine Ev.neg (by omega) (Ev.pure ?_)
        unfold from_
        rw [List.drop_of_length_le (by simp; omega)]; rfl
      | succ e ih =>
        intro l he h1
        have hp := h.prod l h1 (by omega)
        have hc0 := h.c0
        have hc1 := h.c1
        have hd1 := h.d1
        have e1 : Aside0 (wrap64 (rd ws (done.length : Int) * (l : Int)) = rd ws (done.length : Int) * (l : Int)) := ⟨w64 (by omega) (by omega)⟩
        have e2 : Aside0 (wrap64 (cost + rd ws (done.length : Int) * (l : Int)) = cost + rd ws (done.length : Int) * (l : Int)) := ⟨w64 (by omega) (by omega)⟩
        refine Ev.succ ?_
        simp only [impl_OrderedLengths.loop, e1.out, e2.out]
        refine Ev.pos (by omega) (Ev.cases (fun hc => ?_) (fun hc => ?_))
        · rw [from_cons l h1 (by omega), List.findSome?_cons]
          obtain ⟨b, hb, hb2⟩ := can_ev (done ++ [(l : Int)]) (by simp; omega) (h.next l h1 (by omega) hc).in_
          refine Ev.bind hb (Ev.cases (fun ht => ?_) (fun ht => ?_))
          · rw [hb2] at ht
            rw [if_pos ⟨hc, ht⟩]
            have hr := find_ev ws due m (done ++ [(l : Int)]) (cost + rd ws (done.length : Int) * (l : Int)) (h.next l h1 (by omega) hc)
            cases hs : srch ws due m (done ++ [(l : Int)]) (cost + rd ws (done.length : Int) * (l : Int)) with
            | none => rw [hs] at hr; exact Ev.bind hr (ih (l + 1) (by omega) (by omega))
            | some x => rw [hs] at hr; exact Ev.bind hr (Ev.now _)
          · rw [hb2] at ht
            rw [if_neg (fun hh => ht hh.2)]
            exact ih (l + 1) (by omega) (by omega)
        · refine Ev.pure ?_
          symm
          rw [List.findSome?_eq_none_iff]
          intro x hx
          have hm := from_mem l h1 x hx
          have hle : rd ws (done.length : Int) * (l : Int) ≤ rd ws (done.length : Int) * x := Int.mul_le_mul_of_nonneg_left hm.1 (by omega)
          rw [if_neg (fun hh => hc (by omega))]
    refine Ev.succ ?_
    simp only [impl_OrderedLengths.find]
    exact Ev.neg (by omega) (Ev.pos (by omega) (loop 11 1 (by omega) (by omega)))
/-- the reference's search -/
theorem first_ev (ws : List Int) (due : Int) (hn : 0 < ws.length) (hfew : ws.length ≤ 6) (hw : ∀ w ∈ ws, 1 ≤ w ∧ w ≤ 100) (hd1 : due ≤ 1000000) : ∀ (m : Nat) (done : List Int) (cost : Int), done.length + m = ws.length → (∀ x ∈ done, 1 ≤ x ∧ x ≤ 11) → 0 ≤ cost → cost ≤ 100000000 →
    Ev (fun k => spec_beFirstOrdered.f k ws done (due - cost)) ((if cost ≤ due ∧ can done = true then srch ws due m done cost else none).getD [])
  | m, done, cost, hlen, hin, hc0, hcm => by
    have no : Ev (fun k => spec_beFirstOrdered.j0 k ws done (due - cost) true) [] := Ev.succ (by simp only [spec_beFirstOrdered.j0]; exact Ev.pos (by simp) (Ev.now _))
    refine Ev.succ ?_
    simp only [spec_beFirstOrdered.f]
    refine Ev.cases (fun hneg => ?_) (fun hneg => ?_)
    · rw [if_neg (fun h => by omega)]; exact no
    · have main : can done = true → Ev (fun k => spec_beFirstOrdered.j0 k ws done (due - cost) false) ((srch ws due m done cost).getD []) := fun hcan => by
        refine Ev.succ ?_
        simp only [spec_beFirstOrdered.j0]
        refine Ev.neg (by simp) ?_
        cases m with
        | zero =>
          refine Ev.pos (by omega) ?_
          simp only [srch]
          refine Ev.cases (fun h0 => ?_) (fun h0 => ?_)
          · rw [if_pos ⟨hcan, by omega⟩]
            exact Ev.known (fun _ => l1Own_ev _ (by omega)) (Ev.now _)
          · rw [if_neg (fun h => h0 (by omega))]
            exact Ev.now _
        | succ m =>
          refine Ev.neg (by omega) ?_
          have hlt : done.length < ws.length := by omega
          have hsi : SInv ws due (m + 1) done cost := ⟨hfew, hw, hlen, hin, hc0, by omega, hd1⟩
          have loop : ∀ (e l : Nat), l + e = 12 → 1 ≤ l → Ev (fun k => spec_beFirstOrdered.l0 k ws done (due - cost) (l : Int)) (((from_ l).findSome? fun l => if cost + rd ws done.length * l ≤ due ∧ can (done ++ [l]) = true then srch ws due m (done ++ [l]) (cost + rd ws done.length * l) else none).getD []) := by
            intro e
            induction e with
            | zero =>
              intro l he h1
              refine Ev.succ ?_
              simp only [spec_beFirstOrdered.l0]
              refine Ev.neg (by omega) (Ev.pure ?_)
              unfold from_
              rw [List.drop_of_length_le (by simp; omega)]; rfl
            | succ e ih =>
              intro l he h1
              have hp := hsi.prod l h1 (by omega)
              have e0 : (l : Int) * rd ws (done.length : Int) = rd ws (done.length : Int) * (l : Int) := Int.mul_comm _ _
              have e1 : Aside0 (wrap64 ((l : Int) * rd ws (done.length : Int)) = rd ws (done.length : Int) * (l : Int)) := ⟨by rw [e0]; exact w64 (by omega) (by omega)⟩
              have e2 : Aside0 (wrap64 (due - cost - rd ws (done.length : Int) * (l : Int)) = due - (cost + rd ws (done.length : Int) * (l : Int))) := ⟨by rw [w64 (by omega) (by omega)]; omega⟩
              have hin' : ∀ x ∈ done ++ [(l : Int)], 1 ≤ x ∧ x ≤ 11 := fun x hx => by
                rcases List.mem_append.1 hx with hx | hx
                · exact hin x hx
                · rw [List.mem_singleton] at hx; omega
              have hr := first_ev ws due hn hfew hw hd1 m (done ++ [(l : Int)]) (cost + rd ws (done.length : Int) * (l : Int)) (by simp; omega) hin' (by omega) (by omega)
              have ih' := ih (l + 1) (by omega) (by omega)
              rw [from_cons l h1 (by omega), List.findSome?_cons]
              refine Ev.succ ?_
              simp only [spec_beFirstOrdered.l0, e1.out, e2.out, w1 (show 0 ≤ (l : Int) by omega) (show (l : Int) < 9223372036854775807 by omega)]
              refine Ev.pos (by omega) (Ev.known (fun _ => l1Own_ev _ (by omega)) (Ev.known (fun _ => rfl) (Ev.pos (by simp; omega) (Ev.pos (by omega) (Ev.pos (by omega) (Ev.bind hr ?_))))))
              cases hs : (if cost + rd ws (done.length : Int) * (l : Int) ≤ due ∧ can (done ++ [(l : Int)]) = true then srch ws due m (done ++ [(l : Int)]) (cost + rd ws (done.length : Int) * (l : Int)) else none) with
              | none =>
                refine Ev.neg (by simp) ?_
                exact ih'
              | some x =>
                have hx : x.length = (done ++ [(l : Int)]).length + m := by
                  split at hs
                  · exact srch_length ws due m _ _ x hs
                  · cases hs
                exact Ev.pos (by simp at hx ⊢; omega) (Ev.now _)
          exact loop 11 1 (by omega) (by omega)
      refine Ev.cases (fun hpos => ?_) (fun hpos => ?_)
      · have hc := beCan_ev done (by omega) hin
        refine Ev.bind hc ?_
        cases hcan : can done with
        | false => rw [if_neg (fun h => by simp at h)]; exact no
        | true => rw [if_pos ⟨by omega, rfl⟩]; exact main hcan
      · have hnil : done = [] := List.eq_nil_of_length_eq_zero (by omega)
        have hcan : can done = true := by rw [hnil]; rfl
        rw [if_pos ⟨by omega, hcan⟩]
        exact main hcan

/-- a cost that some tree over a stretch has -/
def Sg (w : List Int) (i j : Nat) (v : Int) : Prop := ∃ D : List Nat, Tr (j - i - 1) D ∧ D.length = j - i ∧ v = dot (w.drop i) (D.map fun x : Nat => (x : Int)) ∧ 0 ≤ v ∧ v ≤ 100000
theorem dot_take : ∀ (ws xs ys : List Int), dot ws (xs ++ ys) = dot ws xs + dot (ws.drop xs.length) ys
  | [], xs, ys => by cases xs <;> cases ys <;> simp [dot]
  | w :: ws, [], ys => by simp [dot]
  | w :: ws, x :: xs, ys => by
    simp only [List.cons_append, dot, List.length_cons, List.drop_succ_cons]
    rw [dot_take ws xs ys]; omega
theorem dot_up : ∀ (ws : List Int) (D : List Nat), D.length ≤ ws.length → dot ws ((D.map (· + 1)).map fun x : Nat => (x : Int)) = dot ws (D.map fun x : Nat => (x : Int)) + (ws.take D.length).sum
  | [], D, h => by cases D <;> simp [dot] at h ⊢
  | w :: ws, [], h => by simp [dot]
  | w :: ws, d :: D, h => by
    simp only [List.map_cons, dot, List.length_cons, List.take_succ_cons, List.sum_cons]
    rw [dot_up ws D (by simpa using h)]
    have : w * ((d + 1 : Nat) : Int) = w * (d : Int) + w := by rw [Int.natCast_add, Int.mul_add]; simp
    omega
theorem dot_bound : ∀ (ws : List Int) (D : List Nat), (∀ w ∈ ws, 1 ≤ w ∧ w ≤ 100) → (∀ x ∈ D, x ≤ 11) → 0 ≤ dot ws (D.map fun x : Nat => (x : Int)) ∧ dot ws (D.map fun x : Nat => (x : Int)) ≤ 1100 * D.length
  | [], D, _, _ => by cases D <;> simp [dot] <;> omega
  | w :: ws, [], _, _ => by simp [dot]
  | w :: ws, d :: D, h1, h2 => by
    have ih := dot_bound ws D (fun w hw => h1 w (by simp [hw])) (fun x hx => h2 x (by simp [hx]))
    have hw := h1 w (by simp)
    have hd := h2 d (by simp)
    have p0 : 0 ≤ w * (d : Int) := Int.mul_nonneg (by omega) (by omega)
    have p1 : w * (d : Int) ≤ 100 * 11 := Int.mul_le_mul hw.2 (by omega) (by omega) (by omega)
    simp only [List.map_cons, dot, List.length_cons]
    omega
theorem wsum_exact : ∀ (l : List Int) (s : Int), (∀ x ∈ l, 1 ≤ x ∧ x ≤ 100) → 0 ≤ s → s + 100 * l.length ≤ 1000000 → wsum s l = s + l.sum
  | [], s, _, _, _ => by simp [wsum]
  | x :: l, s, h, h0, h1 => by
    have hx := h x (by simp)
    simp only [List.length_cons] at h1
    rw [wsum, w64 (by omega) (by omega), wsum_exact l (s + x) (fun y hy => h y (by simp [hy])) (by omega) (by omega), List.sum_cons]; omega
theorem sum_bound : ∀ (l : List Int), (∀ x ∈ l, 1 ≤ x ∧ x ≤ 100) → 0 ≤ l.sum ∧ l.sum ≤ 100 * l.length
  | [], _ => by simp
  | x :: l, h => by
    have hx := h x (by simp)
    have ih := sum_bound l (fun y hy => h y (by simp [hy]))
    simp only [List.sum_cons, List.length_cons]; omega
/-- two stretches side by side -/
theorem Sg.join {w : List Int} (hw : ∀ x ∈ w, 1 ≤ x ∧ x ≤ 100) (hl : w.length ≤ 6) {i u j : Nat} (h1 : i < u) (h2 : u < j) (hj : j ≤ w.length) {a b : Int} (ha : Sg w i u a) (hb : Sg w u j b) : Sg w i j (a + b + ((w.take j).drop i).sum) := by
  obtain ⟨D1, t1, l1, e1, -, -⟩ := ha
  obtain ⟨D2, t2, l2, e2, -, -⟩ := hb
  have t : Tr (j - i - 1) (D1.map (· + 1) ++ D2.map (· + 1)) := by
    rw [show j - i - 1 = (j - i - 2) + 1 by omega]
    exact .node (t1.up _ (by omega)) (t2.up _ (by omega))
  have hlen : (D1.map (· + 1) ++ D2.map (· + 1)).length = j - i := by simp; omega
  have hv : a + b + ((w.take j).drop i).sum = dot (w.drop i) ((D1.map (· + 1) ++ D2.map (· + 1)).map fun x : Nat => (x : Int)) := by
    rw [List.map_append, dot_take, dot_up _ _ (by simp; omega), List.length_map, List.length_map, List.drop_drop, show i + D1.length = u by omega, dot_up _ _ (by simp; omega), ← e1, ← e2, l1, l2]
    have hs : (w.take j).drop i = (w.drop i).take (u - i) ++ (w.drop u).take (j - u) := by
      rw [List.drop_take, show j - i = (u - i) + (j - u) by omega, List.take_add, List.drop_drop, show i + (u - i) = u by omega]
    rw [hs, List.sum_append]; omega
  have hb := dot_bound (w.drop i) (D1.map (· + 1) ++ D2.map (· + 1)) (fun x hx => hw x (List.mem_of_mem_drop hx)) (fun x hx => by have := t.le x hx; omega)
  refine ⟨_, t, hlen, hv, ?_, ?_⟩
  · rw [hv]; exact hb.1
  · rw [hv]; have := hb.2; omega
/-- what the program's table holds: all stretches that are shorter than size, and those of this size ahead of i -/
def Ach (w : List Int) (B : List (List Int)) (size i : Nat) : Prop :=
  B.length = w.length ∧ ∀ a : Nat, a < w.length → (rd_L1 B (a : Int)).length = w.length + 1 ∧ ∀ b : Nat, a < b → b ≤ w.length → (b < a + size ∨ b = a + size ∧ a < i) → Sg w a b (rd (rd_L1 B (a : Int)) (b : Int))
theorem ach_inner (w : List Int) (hw : ∀ x ∈ w, 1 ≤ x ∧ x ≤ 100) (hn : w.length ≤ 6) (size i : Nat) (hs1 : 2 ≤ size) (hi : i + size ≤ w.length) (G : Int → Prop)
    (next : ∀ B, Ach w B size (i + 1) → ∃ r, Ev (fun k => impl_joined.l2 k w (w.length : Int) B (size : Int) ((i + 1 : Nat) : Int)) r ∧ G r) :
    ∀ (e u : Nat) (best : Int) (B : List (List Int)), u + 1 + e = i + size → i ≤ u → Ach w B size i → ((best = -1 ∧ u = i) ∨ (0 ≤ best ∧ best ≤ 200000 ∧ Sg w i (i + size) (best + ((w.take (i + size)).drop i).sum))) → ∃ r, Ev (fun k => impl_joined.l3 k w (w.length : Int) B (size : Int) (i : Int) best ((u + 1 : Nat) : Int)) r ∧ G r
  | 0, u, best, B, hd, hu, T, hbest => by
    have hb : 0 ≤ best ∧ best ≤ 200000 ∧ Sg w i (i + size) (best + ((w.take (i + size)).drop i).sum) := by
      rcases hbest with ⟨_, h⟩ | h
      · omega
      · exact h
    obtain ⟨b0, b1, b2⟩ := hb
    have hseg : ∀ x ∈ (w.take (i + size)).drop i, 1 ≤ x ∧ x ≤ 100 := fun x hx => hw x (List.mem_of_mem_take (List.mem_of_mem_drop hx))
    have hsl : ((w.take (i + size)).drop i).length = size := by simp; omega
    have hs := sumWeights_ev ((w.take (i + size)).drop i) (by omega)
    rw [wsum_exact _ 0 hseg (by omega) (by omega), Int.zero_add] at hs
    have hsb := sum_bound _ hseg
    obtain ⟨s, hs0⟩ : ∃ s, s = ((w.take (i + size)).drop i).sum := ⟨_, rfl⟩
    rw [← hs0] at hs hsb b2
    have T' := T
    obtain ⟨t2, t3⟩ := T
    obtain ⟨a, c⟩ := t3 i (by omega)
    have e0 : Aside0 (wrap64 (best + s) = best + s) := ⟨w64 (by omega) (by omega)⟩
    obtain ⟨r, h2, hG⟩ := next (B.set i ((rd_L1 B (i : Int)).set (i + size) (best + s))) (by
      refine ⟨by simpa using t2, fun a' ha' => ?_⟩
      rw [rdL_set B i a' _ (by omega)]
      obtain ⟨p, q⟩ := t3 a' ha'
      by_cases e : i = a'
      · subst e
        rw [if_pos rfl]
        refine ⟨by simpa using a, fun b hb1 hb2 hb3 => ?_⟩
        rw [rd_set _ (i + size) b _ (by omega)]
        by_cases e2 : i + size = b
        · rw [if_pos e2, ← e2]; exact b2
        · rw [if_neg e2]; exact c b hb1 hb2 (by omega)
      · rw [if_neg e]
        exact ⟨p, fun b hb1 hb2 hb3 => q b hb1 hb2 (by omega)⟩)
    have e1 : Aside0 (wrap64 ((i : Int) + (size : Int)) = ((u + 1 : Nat) : Int)) := ⟨by rw [w64 (by omega) (by omega)]; omega⟩
    have e4 : Aside0 (wrap64 ((i : Int) + 1) = ((i + 1 : Nat) : Int)) := ⟨by rw [w64 (by omega) (by omega)]; omega⟩
    refine ⟨r, Ev.succ ?_, hG⟩
    simp only [impl_joined.l3, e1.out, e4.out, Int.toNat_natCast]
    refine Ev.neg (by omega) (Ev.pos (by omega) (Ev.pos (by omega) (Ev.pos (by omega) (Ev.pos (by omega) (Ev.bind (a := s) (by rw [show u + 1 = i + size from hd]; exact hs) (Ev.pos (by omega) (Ev.pos (by omega) ?_)))))))
    rw [e0.out, show u + 1 = i + size from hd]; exact h2
  | e + 1, u, best, B, hd, hu, T, hbest => by
    have T' := T
    obtain ⟨t2, t3⟩ := T
    obtain ⟨b, c⟩ := t3 i (by omega)
    obtain ⟨b', c'⟩ := t3 (u + 1) (by omega)
    have s1 := c (u + 1) (by omega) (by omega) (by omega)
    have s2 := c' (i + size) (by omega) hi (by omega)
    have e1 : Aside0 (wrap64 ((i : Int) + (size : Int)) = ((i + size : Nat) : Int)) := ⟨by rw [w64 (by omega) (by omega)]; omega⟩
    have e5 : Aside0 (wrap64 (((u + 1 : Nat) : Int) + 1) = ((u + 1 + 1 : Nat) : Int)) := ⟨by rw [w64 (by omega) (by omega)]; omega⟩
    obtain ⟨v1, hv1⟩ : ∃ v, v = rd (rd_L1 B (i : Int)) ((u + 1 : Nat) : Int) := ⟨_, rfl⟩
    obtain ⟨v2, hv2⟩ : ∃ v, v = rd (rd_L1 B ((u + 1 : Nat) : Int)) ((i + size : Nat) : Int) := ⟨_, rfl⟩
    rw [← hv1] at s1
    rw [← hv2] at s2
    have hJ := Sg.join hw hn (by omega) (by omega) hi s1 s2
    have r1 : 0 ≤ v1 ∧ v1 ≤ 100000 := by obtain ⟨_, _, _, _, p, q⟩ := s1; exact ⟨p, q⟩
    have r2 : 0 ≤ v2 ∧ v2 ≤ 100000 := by obtain ⟨_, _, _, _, p, q⟩ := s2; exact ⟨p, q⟩
    have ev : Aside0 (wrap64 (v1 + v2) = v1 + v2) := ⟨w64 (by omega) (by omega)⟩
    have ih := fun best hb => ach_inner w hw hn size i hs1 hi G next e (u + 1) best B (by omega) (by omega) T' hb
    have good : Sg w i (i + size) (v1 + v2 + ((w.take (i + size)).drop i).sum) := hJ
    by_cases g1 : best < 0
    · obtain ⟨r, h2, hG⟩ := ih (v1 + v2) (Or.inr ⟨by omega, by omega, good⟩)
      refine ⟨r, Ev.succ ?_, hG⟩
      simp only [impl_joined.l3, e1.out, e5.out, ← hv1, ← hv2, ev.out]
      exact Ev.pos (by omega) (Ev.pos (by omega) (Ev.pos (by omega) (Ev.pos (by omega) (Ev.pos (by omega) (Ev.pos (by omega) (Ev.pos (by omega) (Ev.pos (by omega) (Ev.pos g1 h2))))))))
    · by_cases g2 : v1 + v2 < best
      · obtain ⟨r, h2, hG⟩ := ih (v1 + v2) (Or.inr ⟨by omega, by omega, good⟩)
        refine ⟨r, Ev.succ ?_, hG⟩
        simp only [impl_joined.l3, e1.out, e5.out, ← hv1, ← hv2, ev.out]
        exact Ev.pos (by omega) (Ev.pos (by omega) (Ev.pos (by omega) (Ev.pos (by omega) (Ev.pos (by omega) (Ev.pos (by omega) (Ev.pos (by omega) (Ev.pos (by omega) (Ev.neg g1 (Ev.pos g2 h2)))))))))
      · obtain ⟨r, h2, hG⟩ := ih best (by
          rcases hbest with ⟨h, _⟩ | h
          · omega
          · exact Or.inr h)
        refine ⟨r, Ev.succ ?_, hG⟩
        simp only [impl_joined.l3, e1.out, e5.out, ← hv1, ← hv2, ev.out]
        exact Ev.pos (by omega) (Ev.pos (by omega) (Ev.pos (by omega) (Ev.pos (by omega) (Ev.pos (by omega) (Ev.pos (by omega) (Ev.pos (by omega) (Ev.pos (by omega) (Ev.neg g1 (Ev.neg g2 h2)))))))))
theorem ach_mid (w : List Int) (hw : ∀ x ∈ w, 1 ≤ x ∧ x ≤ 100) (hn : w.length ≤ 6) (size : Nat) (hs1 : 2 ≤ size) (hs2 : size ≤ w.length) (G : Int → Prop)
    (next : ∀ B, Ach w B (size + 1) 0 → ∃ r, Ev (fun k => impl_joined.l1 k w (w.length : Int) B ((size + 1 : Nat) : Int)) r ∧ G r) :
    ∀ (d i : Nat) (B : List (List Int)), i + size + d = w.length + 1 → Ach w B size i → ∃ r, Ev (fun k => impl_joined.l2 k w (w.length : Int) B (size : Int) (i : Int)) r ∧ G r
  | 0, i, B, hd, T => by
    obtain ⟨r, h2, hG⟩ := next B ⟨T.1, fun a ha => ⟨(T.2 a ha).1, fun b h1 h2 h3 => (T.2 a ha).2 b h1 h2 (by omega)⟩⟩
    have e1 : Aside0 (wrap64 ((i : Int) + (size : Int)) = ((i + size : Nat) : Int)) := ⟨by rw [w64 (by omega) (by omega)]; omega⟩
    refine ⟨r, Ev.succ ?_, hG⟩
    simp only [impl_joined.l2, e1.out, w1 (show 0 ≤ (size : Int) by omega) (show (size : Int) < 9223372036854775807 by omega)]
    exact Ev.neg (by omega) h2
  | d + 1, i, B, hd, T => by
    have e1 : Aside0 (wrap64 ((i : Int) + (size : Int)) = ((i + size : Nat) : Int)) := ⟨by rw [w64 (by omega) (by omega)]; omega⟩
    obtain ⟨r, h2, hG⟩ := ach_inner w hw hn size i hs1 (by omega) G (fun B T => ach_mid w hw hn size hs1 hs2 G next d (i + 1) B (by omega) T) (size - 1) i (-1) B (by omega) (by omega) T (Or.inl ⟨rfl, rfl⟩)
    refine ⟨r, Ev.succ ?_, hG⟩
    simp only [impl_joined.l2, e1.out, w1 (show 0 ≤ (i : Int) by omega) (show (i : Int) < 9223372036854775807 by omega)]
    exact Ev.pos (by omega) h2
theorem ach_outer (w : List Int) (hw : ∀ x ∈ w, 1 ≤ x ∧ x ≤ 100) (hn1 : 1 ≤ w.length) (hn : w.length ≤ 6) : ∀ (d size : Nat) (B : List (List Int)), size + d = max (w.length + 1) 2 → 2 ≤ size → Ach w B size 0 →
    ∃ r, Ev (fun k => impl_joined.l1 k w (w.length : Int) B (size : Int)) r ∧ Sg w 0 w.length r
  | 0, size, B, hd, hs, T => by
    obtain ⟨t2, t3⟩ := T
    obtain ⟨b, c⟩ := t3 0 (by omega)
    have c1 := c w.length (by omega) (by omega) (by omega)
    rw [show ((0 : Nat) : Int) = 0 from rfl] at b c1
    refine ⟨_, Ev.succ ?_, c1⟩
    simp only [impl_joined.l1]
    exact Ev.neg (by omega) (Ev.pos (by omega) (Ev.pos (by omega) (Ev.pos (by omega) (Ev.now _))))
  | d + 1, size, B, hd, hs, T => by
    obtain ⟨r, h2, hG⟩ := ach_mid w hw hn size hs (by omega) (Sg w 0 w.length) (fun B T => ach_outer w hw hn1 hn d (size + 1) B (by omega) (by omega) T) (w.length + 1 - size) 0 B (by omega) T
    refine ⟨r, Ev.succ ?_, hG⟩
    simp only [impl_joined.l1]; exact Ev.pos (by omega) h2
theorem joined_ach (w : List Int) (hw : ∀ x ∈ w, 1 ≤ x ∧ x ≤ 100) (hn1 : 1 ≤ w.length) (hn : w.length ≤ 6) : ∃ r, Ev (fun k => impl_joined.f k w) r ∧ Sg w 0 w.length r := by
  have T : Ach w (List.replicate w.length (List.replicate (w.length + 1) 0)) 2 0 := by
    refine ⟨by simp, fun a ha => ?_⟩
    have hb : rd_L1 (List.replicate w.length (List.replicate (w.length + 1) (0 : Int))) (a : Int) = List.replicate (w.length + 1) 0 := by unfold rd_L1; simp [List.getD_eq_getElem?_getD, ha]
    rw [hb]
    refine ⟨by simp, fun b h1 h2 h3 => ?_⟩
    obtain rfl : b = a + 1 := by omega
    have hr : rd (List.replicate (w.length + 1) (0 : Int)) ((a + 1 : Nat) : Int) = 0 := by
      unfold rd
      simp only [Int.toNat_natCast, List.getD_eq_getElem?_getD]
      rw [List.getElem?_replicate, if_pos (by omega)]; rfl
    rw [hr]
    refine ⟨[0], .leaf _, by simp, ?_, by omega, by omega⟩
    rw [List.drop_eq_getElem_cons ha, List.map_cons, List.map_nil, dot]
    simp [dot]
  obtain ⟨r, h, hG⟩ := ach_outer w hw hn1 hn (w.length - 1) 2 _ (by omega) (by omega) T
  have fb := fill_impl w w.length (by omega) r h w.length 0 (List.replicate w.length []) (by omega) (by simp) (by simp)
  refine ⟨r, ?_, hG⟩
  unfold impl_joined.f
  refine Ev.pos (by omega) (Ev.pos (by omega) ?_)
  simpa using fb

/-- the cost that is due is that of some lengths in order -/
theorem due_met (w : List Int) (hw : ∀ x ∈ w, 1 ≤ x ∧ x ≤ 100) (hn1 : 1 ≤ w.length) (hn : w.length ≤ 6) : ∃ due, Ev (fun k => impl_orderedCost.f k w) due ∧ 0 ≤ due ∧ due ≤ 1000000 ∧ ∃ x, srch w due w.length [] 0 = some x := by
  unfold impl_orderedCost.f
  by_cases e : w.length = 1
  · have h0 : 0 < w.length := by omega
    have hx := hw _ (List.getElem_mem h0)
    have hr : rd w 0 = w[0] := rd_nat w 0 h0
    refine ⟨rd w 0, Ev.pos (by omega) (Ev.pos (by omega) (Ev.now _)), by omega, by omega, ?_⟩
    have h := srch_some w (rd w 0) (fun x hx => (hw x hx).1) [1] [] 0 (by simp; omega) (by simp) (by decide) (by
      rw [List.length_nil, List.drop_eq_getElem_cons h0, hr]; simp [dot])
    rw [show w.length = ([1] : List Int).length from e]
    exact h
  · obtain ⟨r, h1, D, t, hl, hv, h2, h3⟩ := joined_ach w hw hn1 hn
    refine ⟨r, Ev.neg (by omega) (Ev.bind h1 (Ev.now _)), h2, by omega, ?_⟩
    have hle := t.le
    have h := srch_some w r (fun x hx => (hw x hx).1) (D.map fun x : Nat => (x : Int)) [] 0 (by simp; omega) (fun x hx => by
      obtain ⟨d, hd, rfl⟩ := List.mem_map.1 hx
      have h9 := hle d hd
      have : 1 ≤ d := by
        have hlt : 1 < D.length := by omega
        generalize hh : w.length - 0 - 1 = hgt at t
        cases t with
        | leaf h => simp at hlt
        | node t1 t2 =>
          rcases List.mem_append.1 hd with hd | hd
          · obtain ⟨y, _, rfl⟩ := List.mem_map.1 hd; omega
          · obtain ⟨y, _, rfl⟩ := List.mem_map.1 hd; omega
      omega) (by
        obtain ⟨b', n', -, -, hf⟩ := t.fits 0 0 0 0 [] (by omega) (by simp) (by omega) (by simp)
        have := hf rfl
        rw [List.append_nil] at this
        rw [List.nil_append]
        simpa [can] using this) (by rw [hv]; simp)
    rw [show w.length = (D.map fun x : Nat => (x : Int)).length by simp; omega]
    exact h
theorem ol_same (w : List Int) (hl : w.length ≤ 1048576) : ∃ r, Ev (fun k => spec_OrderedLengths.f k w) r ∧ Ev (fun k => impl_OrderedLengths.f k w) r ∧ r.1.length ≤ 12 := by
  unfold spec_OrderedLengths.f impl_OrderedLengths.f spec_OrderedCost.f impl_isSearched.f
  have a1 := beWeights_ev w hl
  have a2 := impl_areWeights_ev w hl
  generalize hA : (decide (1 ≤ (w.length : Int) ∧ (w.length : Int) ≤ 12) && w.all fun x => decide (1 ≤ x ∧ x ≤ 100)) = A at a1 a2
  cases A with
  | false => exact ⟨([], false), Ev.bind (Ev.bind a1 (Ev.neg (by simp) (Ev.now _))) (Ev.neg (by simp) (Ev.now _)), Ev.bind (Ev.bind a2 (Ev.neg (by simp) (Ev.now _))) (Ev.neg (by simp) (Ev.now _)), by simp⟩
  | true =>
    simp only [Bool.and_eq_true, decide_eq_true_eq, List.all_eq_true] at hA
    obtain ⟨hn, hw⟩ := hA
    have oc : ∃ r, Ev (fun k => (if (w.length : Int) = 1 then (if 0 < (w.length : Int) then (some (rd w 0, true)) else (none)) else ((spec_beOrdered.f k w).bind fun t126 => (some (t126, true))))) (r, true) ∧ Ev (fun k => impl_orderedCost.f k w) r := by
      unfold impl_orderedCost.f
      by_cases e : w.length = 1
      · exact ⟨rd w 0, Ev.pos (by omega) (Ev.pos (by omega) (Ev.now _)), Ev.pos (by omega) (Ev.pos (by omega) (Ev.now _))⟩
      · obtain ⟨r, h1, h2⟩ := joined_same w (by omega) (by omega)
        exact ⟨r, Ev.neg (by omega) (Ev.bind h1 (Ev.now _)), Ev.neg (by omega) (Ev.bind h2 (Ev.now _))⟩
    obtain ⟨c, c1, c2⟩ := oc
    by_cases h6 : w.length ≤ 6
    · obtain ⟨due, d1, d2, d3, x, hx⟩ := due_met w hw (by omega) h6
      obtain rfl := Ev.unique c2 d1
      have hxl := srch_length w c w.length [] 0 x hx
      have hf := find_ev w c w.length [] 0 ⟨h6, hw, by simp, by simp, by omega, d2, d3⟩
      have hs := first_ev w c (by omega) h6 hw d3 w.length [] 0 (by simp) (by simp) (by omega) (by omega)
      rw [if_pos ⟨d2, rfl⟩, hx, Int.sub_zero] at hs
      rw [hx] at hf
      exact ⟨(x, true), Ev.bind (Ev.bind a1 (Ev.pos rfl c1)) (Ev.pos rfl (Ev.neg (by omega) (Ev.bind hs (Ev.now _)))), Ev.bind (Ev.bind a2 (Ev.pos rfl (Ev.pure (decide_eq_true (by omega))))) (Ev.pos rfl (Ev.pos (by omega) (Ev.bind c2 (Ev.bind hf (Ev.now _))))), by simp at hxl ⊢; omega⟩
    · exact ⟨([], false), Ev.bind (Ev.bind a1 (Ev.pos rfl c1)) (Ev.pos rfl (Ev.pos (by omega) (Ev.now _))), Ev.bind (Ev.bind a2 (Ev.pos rfl (Ev.pure (decide_eq_false (by omega))))) (Ev.neg (by simp) (Ev.now _)), by simp⟩
theorem FnExactOrderedLengths : laws_FnExactOrderedLengths.Pure := by
  intro l _ _ _
  refine Ev.rounds ?_
  unfold laws_FnExactOrderedLengths.f
  refine Ev.cases (fun _ => Ev.now _) (fun hl => ?_)
  have hl' : l.length ≤ 1048576 := by omega
  obtain ⟨r, h1, h2, h3⟩ := ol_same l hl'
  refine Ev.bind (toIntS_ev l hl') (Ev.bind h1 (Ev.bind (toIntS_ev l hl') (Ev.bind h2 (Ev.bind (eqIntS_ev r.1 (by omega)) (Ev.pos rfl ?_)))))
  refine Ev.succ ?_
  simp only [laws_FnExactOrderedLengths.j0]
  refine Ev.neg (by simp) (Ev.bind (toIntS_ev l hl') (Ev.bind (eqIntS_ev l hl') (Ev.pos rfl (Ev.bind (markI2_ev l hl') (Ev.neg (by omega) (Ev.bind (eqIntS_ev r.1 (by omega)) (Ev.pos rfl ?_)))))))
  refine Ev.succ ?_
  simp only [laws_FnExactOrderedLengths.j1]
  refine Ev.neg (by simp) (Ev.bind (markI2_ev r.1 (by omega)) (Ev.bind (heldI_ev r.1.length (by omega)) (Ev.neg (by omega) (Ev.pos rfl (Ev.bind (toIntS_ev l hl') (Ev.bind h2 (Ev.bind (eqIntS_ev r.1 (by omega)) (Ev.pos rfl ?_))))))))
  refine Ev.succ ?_
  simp only [laws_FnExactOrderedLengths.j2]
  exact Ev.neg (by simp) (Ev.bind (heldI_ev r.1.length (by omega)) (Ev.neg (by omega) (Ev.pos rfl (Ev.now _))))
end Go.Proofs.Ytklakacicmghiaa.Pure
