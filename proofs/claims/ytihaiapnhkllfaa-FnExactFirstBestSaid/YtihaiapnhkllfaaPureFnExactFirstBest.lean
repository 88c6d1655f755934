/- FirstBest of the program and of the reference answer alike for all arguments, leave them as they were, and hand back memory of their own: no condition. -/
import Derived.Test.YtihaiapnhkllfaaXFnExactFirstBestx5
namespace Go.Proofs.Ytihaiapnhkllfaa.Pure
set_option linter.unusedSimpArgs false
set_option linter.unusedVariables false
open Go.RowKit Go.Proofs.Ytihaiapnhkllfaa.Hand Go.Proofs.Ytihaiapnhkllfaa.XFnExactFirstBest Go.Proofs.YtihaiapnhkllfaaW.PrintWords Go.Proofs.YtihaiapnhkllfaaW.PrintLast Go.Proofs.YtihaiapnhkllfaaW.PrintMore

theorem w1 {i : Int} (h0 : 0 ≤ i) (h : i < 9223372036854775807) : wrap64 (i + 1) = i + 1 := by unfold wrap64; omega
theorem w64 {i : Int} (h0 : -9223372036854775808 ≤ i) (h : i < 9223372036854775808) : wrap64 i = i := by unfold wrap64; omega
theorem rd_nat (l : List Int) (i : Nat) (h : i < l.length) : rd l (i : Int) = l[i] := by
  unfold rd; simp [List.getD_eq_getElem?_getD, h]
theorem Ev.pos {α : Type} {c : Prop} [Decidable c] {g g' : Nat → Option α} {r : α} (h : c) (k : Ev g r) : Ev (fun n => if c then g n else g' n) r :=
  Ev.congr (fun n => if_pos h) k
theorem Ev.neg {α : Type} {c : Prop} [Decidable c] {g g' : Nat → Option α} {r : α} (h : ¬ c) (k : Ev g' r) : Ev (fun n => if c then g n else g' n) r :=
  Ev.congr (fun n => if_neg h) k
theorem Ev.cases {α : Type} {c : Prop} [Decidable c] {g g' : Nat → Option α} {r : α} (h : c → Ev g r) (k : ¬ c → Ev g' r) : Ev (fun n => if c then g n else g' n) r := by
  by_cases e : c
  · exact Ev.pos e (h e)
  · exact Ev.neg e (k e)
/-- a call whose answer is known at every number of rounds -/
theorem Ev.known {α β : Type} {g : Nat → Option α} {f : Nat → α → Option β} {a : α} {r : β} (h : ∀ n, g n = some a) (k : Ev (fun n => f n a) r) : Ev (fun n => (g n).bind (f n)) r :=
  Ev.bind ⟨0, fun n _ => h n⟩ k
/-- one bind of two, joined with what follows -/
theorem Ev.pure {α : Type} {r q : α} (h : r = q) : Ev (fun _ => some r) q := h ▸ Ev.now r
theorem Ev.succ {α : Type} {g : Nat → Option α} {r : α} (h : Ev (fun k => g (k + 1)) r) : Ev g r := Ev.step (f := fun k => g (k + 1)) (fun _ => rfl) h

theorem toIntS_l0 (l : List Int) (hl : l.length ≤ 1048576) : ∀ (d i : Nat) (xs : List Int), i + d = l.length → xs.length = l.length → xs.take i = l.take i → Ev (fun k => laws_toIntS.l0 k l xs (i : Int)) l
  | 0, i, xs, hd, hx, ht => by
    refine Ev.step (f := fun _ => some xs) (fun k => ?_) (Ev.pure ?_)
    · simp only [laws_toIntS.l0]; rw [if_neg (by omega)]
    · rw [List.take_of_length_le (by omega), List.take_of_length_le (by omega)] at ht; exact ht
  | d + 1, i, xs, hd, hx, ht => by
    refine Ev.step (f := fun k => laws_toIntS.l0 k l (xs.set i (rd l i)) ((i + 1 : Nat) : Int)) (fun k => ?_) (toIntS_l0 l hl d (i + 1) _ (by omega) (by simp [hx]) ?_)
    · simp only [laws_toIntS.l0]; rw [if_pos (by omega), if_pos (by omega), if_pos (by omega), w1 (by omega) (by omega)]; simp
    · have h1 : i < l.length := by omega
      have h2 : i < (xs.set i (rd l i)).length := by simp; omega
      have e := rd_nat l i h1
      rw [List.take_succ_eq_append_getElem h2, List.take_succ_eq_append_getElem h1, List.take_set, List.set_eq_of_length_le (by simp; omega), ht]
      simp [e]
theorem toIntS_ev (l : List Int) (hl : l.length ≤ 1048576) : Ev (fun k => laws_toIntS.f k l) l := by
  unfold laws_toIntS.f
  refine Ev.pos (by omega) (Ev.pos (by omega) ?_)
  have h := toIntS_l0 l hl l.length 0 (List.replicate l.length 0) (by omega) (by simp) (by simp)
  simpa using h
theorem eqIntS_l0 (l : List Int) (hl : l.length ≤ 1048576) : ∀ (d i : Nat), i + d = l.length → Ev (fun k => laws_eqIntS.l0 k l l (i : Int)) true
  | 0, i, hd => Ev.step (f := fun _ => some true) (fun k => by simp only [laws_eqIntS.l0]; rw [if_neg (by omega)]) (Ev.now _)
  | d + 1, i, hd => by
    refine Ev.step (f := fun k => laws_eqIntS.l0 k l l ((i + 1 : Nat) : Int)) (fun k => ?_) (eqIntS_l0 l hl d (i + 1) (by omega))
    simp only [laws_eqIntS.l0]; rw [if_pos (by omega), if_pos (by omega), if_pos (by omega), if_pos trivial, w1 (by omega) (by omega)]; simp
theorem eqIntS_ev (l : List Int) (hl : l.length ≤ 1048576) : Ev (fun k => laws_eqIntS.f k l l) true := by
  unfold laws_eqIntS.f
  exact Ev.pos rfl (by simpa using eqIntS_l0 l hl l.length 0 (by omega))


/-- n numbers, all different -/
def imarked (n : Nat) : List Int := (List.range n).map fun j => ((j + 1 : Nat) : Int)
theorem imarked_length (n : Nat) : (imarked n).length = n := by simp [imarked]
theorem markI_l0 (n : Nat) (hn : n ≤ 1048576) : ∀ (d i : Nat) (xs : List Int), i + d = n → xs.length = n → xs.take i = (imarked n).take i → Ev (fun k => laws_markIntS.l0 k xs ((i + 1 : Nat) : Int) (i : Int)) (((n + 1 : Nat) : Int), imarked n)
  | 0, i, xs, hd, hx, ht => by
    refine Ev.succ ?_
    simp only [laws_markIntS.l0]
    refine Ev.neg (by omega) (Ev.pure ?_)
    have := imarked_length n
    rw [List.take_of_length_le (by omega), List.take_of_length_le (by omega)] at ht
    rw [ht, show i = n by omega]
  | d + 1, i, xs, hd, hx, ht => by
    have hlen := imarked_length n
    have h1 : i < (imarked n).length := by omega
    have ih := markI_l0 n hn d (i + 1) (xs.set i ((i + 1 : Nat) : Int)) (by omega) (by simp [hx]) (by
      have h2 : i < (xs.set i ((i + 1 : Nat) : Int)).length := by simp; omega
      rw [List.take_succ_eq_append_getElem h2, List.take_succ_eq_append_getElem h1, List.take_set, List.set_eq_of_length_le (by simp; omega), ht]
      simp [imarked])
    refine Ev.succ ?_
    simp only [laws_markIntS.l0, Int.toNat_natCast, w1 (show 0 ≤ (i : Int) by omega) (show (i : Int) < 9223372036854775807 by omega), w1 (show 0 ≤ ((i + 1 : Nat) : Int) by omega) (show ((i + 1 : Nat) : Int) < 9223372036854775807 by omega)]
    exact Ev.pos (by omega) (Ev.pos (by omega) ih)
theorem markI2_ev (xs : List Int) (hn : xs.length ≤ 1048576) : Ev (fun k => laws_markIntS.f k xs 1) (((xs.length + 1 : Nat) : Int), imarked xs.length) :=
  markI_l0 xs.length hn xs.length 0 xs (by omega) rfl rfl
theorem heldI_l0 (n : Nat) (hn : n ≤ 1048576) : ∀ (d i : Nat), i + d = n → Ev (fun k => laws_heldIntS.l0 k (imarked n) ((i + 1 : Nat) : Int) (i : Int)) ((n + 1 : Nat) : Int)
  | 0, i, hd => by
    have hlen := imarked_length n
    refine Ev.succ ?_
    simp only [laws_heldIntS.l0]
    exact Ev.neg (by omega) (Ev.pure (by rw [show i = n by omega]))
  | d + 1, i, hd => by
    have hlen := imarked_length n
    have h1 : i < (imarked n).length := by omega
    have ih := heldI_l0 n hn d (i + 1) (by omega)
    refine Ev.succ ?_
    simp only [laws_heldIntS.l0, rd_nat _ i h1, w1 (show 0 ≤ (i : Int) by omega) (show (i : Int) < 9223372036854775807 by omega), w1 (show 0 ≤ ((i + 1 : Nat) : Int) by omega) (show ((i + 1 : Nat) : Int) < 9223372036854775807 by omega)]
    exact Ev.pos (by omega) (Ev.pos (by omega) (Ev.pos (by simp [imarked]) ih))
theorem heldI_ev (n : Nat) (hn : n ≤ 1048576) : Ev (fun k => laws_heldIntS.f k (imarked n) 1) ((n + 1 : Nat) : Int) :=
  heldI_l0 n hn n 0 (by omega)

theorem spec_in (a b c : Int) : spec_l1In.f a b c = some (decide (b ≤ a ∧ a ≤ c)) := by
  unfold spec_l1In.f
  by_cases h : a ≥ b
  · rw [if_pos h]; simp [h]
  · rw [if_neg h]; simp; omega

theorem spec_all_l0 (a b : Int) (l : List Int) (hl : l.length ≤ 1048576) : ∀ (d i : Nat), i + d = l.length → Ev (fun k => spec_l1All.l0 k a b l (l.length : Int) (i : Int)) ((l.drop i).all fun x => decide (a ≤ x ∧ x ≤ b))
  | 0, i, hd => Ev.step (f := fun _ => some true) (fun k => by simp only [spec_l1All.l0]; rw [if_neg (by omega)]) (Ev.pure (by rw [List.drop_of_length_le (by omega)]; rfl))
  | d + 1, i, hd => by
    have h1 : i < l.length := by omega
    have ih := spec_all_l0 a b l hl d (i + 1) (by omega)
    rw [List.drop_eq_getElem_cons h1, List.all_cons]
    refine Ev.step (f := fun k => if (decide (a ≤ l[i] ∧ l[i] ≤ b)) = true then spec_l1All.l0 k a b l (l.length : Int) ((i + 1 : Nat) : Int) else some false) (fun k => ?_) ?_
    · simp only [spec_l1All.l0, spec_in]; rw [if_pos (by omega), if_pos (by omega), if_pos (by omega), w1 (by omega) (by omega), rd_nat l i h1]; simp
    · refine Ev.cases (fun h => ?_) (fun h => ?_)
      · rw [h, Bool.true_and]; exact ih
      · rw [Bool.eq_false_iff.mpr h, Bool.false_and]; exact Ev.now _
theorem spec_all (l : List Int) (a b : Int) (hl : l.length ≤ 1048576) : Ev (fun k => spec_l1All.f k l a b) (l.all fun x => decide (a ≤ x ∧ x ≤ b)) := by
  have h := spec_all_l0 a b l hl l.length 0 (by omega)
  simpa [spec_l1All.f] using h

theorem impl_in_eq (a b c : Int) : impl_in.f a b c = some (decide (b ≤ a ∧ a ≤ c)) := by
  unfold impl_in.f
  by_cases h : b ≤ a
  · rw [if_pos h]; simp [h]
  · rw [if_neg h]; simp [h]

theorem impl_areWeights__1_l0 (l : List Int) (hl : l.length ≤ 1048576) : ∀ (d i : Nat), i + d = l.length → ∃ r, Ev (fun k => slices_IndexFunc_int_int__at_impl_areWeights__1.l0 k l (l.length : Int) (i : Int)) r ∧ decide (r ≥ 0) = (l.drop i).any fun x => !decide (1 ≤ x ∧ x ≤ 100)
  | 0, i, hd => ⟨-1, Ev.step (f := fun _ => some (-1)) (fun k => by simp only [slices_IndexFunc_int_int__at_impl_areWeights__1.l0]; rw [if_neg (by omega)]) (Ev.now _), by rw [List.drop_of_length_le (by omega)]; rfl⟩
  | d + 1, i, hd => by
    have h1 : i < l.length := by omega
    obtain ⟨r, ih, hr⟩ := impl_areWeights__1_l0 l hl d (i + 1) (by omega)
    have hs : ∀ k, slices_IndexFunc_int_int__at_impl_areWeights__1.l0 (k + 1) l (l.length : Int) (i : Int) = if (!decide (1 ≤ l[i] ∧ l[i] ≤ 100)) = true then some (i : Int) else slices_IndexFunc_int_int__at_impl_areWeights__1.l0 k l (l.length : Int) ((i + 1 : Nat) : Int) := by
      intro k
      simp only [slices_IndexFunc_int_int__at_impl_areWeights__1.l0, impl_areWeights__1.f, impl_in_eq]; rw [if_pos (by omega), if_pos (by omega), if_pos (by omega), w1 (by omega) (by omega), rd_nat l i h1]; simp
    rw [List.drop_eq_getElem_cons h1, List.any_cons]
    by_cases h : (!decide (1 ≤ l[i] ∧ l[i] ≤ 100)) = true
    · exact ⟨i, Ev.step hs (Ev.pos h (Ev.now _)), by rw [h]; simp⟩
    · exact ⟨r, Ev.step hs (Ev.neg h ih), by rw [hr, Bool.eq_false_iff.mpr h, Bool.false_or]⟩
theorem impl_areWeights__1_contains (l : List Int) (hl : l.length ≤ 1048576) : Ev (fun k => slices_ContainsFunc_int_int__at_impl_areWeights__1.f k l) (l.any fun x => !decide (1 ≤ x ∧ x ≤ 100)) := by
  obtain ⟨r, h, hr⟩ := impl_areWeights__1_l0 l hl l.length 0 (by omega)
  unfold slices_ContainsFunc_int_int__at_impl_areWeights__1.f slices_IndexFunc_int_int__at_impl_areWeights__1.f
  refine Ev.bind (by simpa using h) (Ev.pure ?_)
  simpa using hr
theorem impl_areWeights_ev (l : List Int) (hl : l.length ≤ 1048576) : Ev (fun k => impl_areWeights.f k l) (decide (1 ≤ (l.length : Int) ∧ (l.length : Int) ≤ 12) && l.all fun x => decide (1 ≤ x ∧ x ≤ 100)) := by
  unfold impl_areWeights.f
  refine Ev.known (fun n => impl_in_eq _ _ _) (Ev.cases (fun h => ?_) (fun h => ?_))
  · refine Ev.bind (impl_areWeights__1_contains l hl) (Ev.pure ?_)
    rw [h, Bool.true_and, List.any_eq_not_all_not, Bool.not_not]; simp
  · refine Ev.pure ?_
    rw [Bool.eq_false_iff.mpr h, Bool.false_and]

theorem beWeights_ev (l : List Int) (hl : l.length ≤ 1048576) : Ev (fun k => spec_beWeights.f k l) (decide (1 ≤ (l.length : Int) ∧ (l.length : Int) ≤ 12) && l.all fun x => decide (1 ≤ x ∧ x ≤ 100)) := by
  unfold spec_beWeights.f
  refine Ev.known (fun n => spec_in _ _ _) (Ev.cases (fun h => ?_) (fun h => ?_))
  · exact Ev.bind (spec_all l _ _ hl) (Ev.pure (by rw [h, Bool.true_and]))
  · exact Ev.pure (by rw [Bool.eq_false_iff.mpr h, Bool.false_and])

/-- a loop from the first place to the last one, with what is so at each place -/
theorem Ev.loop {R : Type} (g : Nat → Nat → Option R) (n : Nat) (r : R) (hstep : ∀ i, i < n → Ev (g (i + 1)) r → Ev (g i) r) (hend : Ev (g n) r) : Ev (g 0) r := by
  have h : ∀ d i, i + d = n → Ev (g i) r := by
    intro d
    induction d with
    | zero => intro i hi; rw [show i = n by omega]; exact hend
    | succ d ih => intro i hi; exact hstep i (by omega) (ih (i + 1) (by omega))
  exact h n 0 (by omega)

theorem sortI_up (l : List Int) : (sortI l).Pairwise fun x y => x ≤ y := by
  have h := List.pairwise_mergeSort (le := fun x y : Int => decide (x ≤ y)) (fun a b c h1 h2 => by simp at h1 h2 ⊢; omega) (fun a b => by simp; omega) l
  exact h.imp fun {a b} h => by simpa using h
theorem sortI_perm (l : List Int) : (sortI l).Perm l := List.mergeSort_perm l _
theorem up_unique {a b : List Int} (ha : a.Pairwise fun x y => x ≤ y) (hb : b.Pairwise fun x y => x ≤ y) (h : a.Perm b) : a = b :=
  List.Perm.eq_of_pairwise (le := fun x y : Int => x ≤ y) (fun x y _ _ h1 h2 => by omega) ha hb h
theorem sortI_of {a b : List Int} (ha : a.Pairwise fun x y => x ≤ y) (h : a.Perm b) : a = sortI b := up_unique ha (sortI_up b) (h.trans (sortI_perm b).symm)
theorem sortI_len (l : List Int) : (sortI l).length = l.length := (sortI_perm l).length_eq
theorem sortI_nil : sortI [] = [] := (sortI_of (by simp) (List.Perm.refl _)).symm

theorem l1Own_ev (l : List Int) (h : l.length ≤ 1048576) : spec_l1Own.f l = some l := by
  unfold spec_l1Own.f
  rw [Option.bind_some, if_pos (by simp; omega)]
  simp
/-- putting a number into an ordered list -/
theorem bePut_l0 (L : List Int) (x : Int) (hL : L.length ≤ 1000) (hu : L.Pairwise fun x y => x ≤ y) : ∀ (d i : Nat), i + d = L.length → (∀ j (h : j < L.length), j < i → L[j] ≤ x) → Ev (fun k => spec_bePut.l0 k L x (i : Int)) (sortI (L ++ [x])) := by
  have fin : ∀ i, i ≤ L.length → (∀ j (h : j < L.length), j < i → L[j] ≤ x) → (∀ j (h : j < L.length), i ≤ j → x ≤ L[j]) → L.take i ++ [x] ++ L.drop i = sortI (L ++ [x]) := by
    intro i hi h1 h2
    refine sortI_of ?_ ?_
    · rw [List.pairwise_append, List.pairwise_append]
      refine ⟨⟨hu.sublist (List.take_sublist _ _), by simp, ?_⟩, hu.sublist (List.drop_sublist _ _), ?_⟩
      · intro a ha b hb
        rw [List.mem_singleton] at hb
        subst hb
        obtain ⟨j, hj, rfl⟩ := List.getElem_of_mem ha
        rw [List.length_take] at hj
        rw [List.getElem_take]
        exact h1 j (by omega) (by omega)
      · intro a ha b hb
        obtain ⟨j, hj, rfl⟩ := List.getElem_of_mem hb
        rw [List.length_drop] at hj
        rw [List.getElem_drop]
        have hb' := h2 (i + j) (by omega) (by omega)
        rcases List.mem_append.1 ha with ha | ha
        · obtain ⟨j', hj', rfl⟩ := List.getElem_of_mem ha
          rw [List.length_take] at hj'
          rw [List.getElem_take]
          have := h1 j' (by omega) (by omega)
          omega
        · rw [List.mem_singleton] at ha
          subst ha
          exact hb'
    · have e : (L ++ [x]).Perm (L.take i ++ L.drop i ++ [x]) := by rw [List.take_append_drop]
      refine List.Perm.trans ?_ e.symm
      rw [List.append_assoc, List.append_assoc]
      exact List.Perm.append_left _ List.perm_append_comm
  intro d
  induction d with
  | zero =>
    intro i hd h1
    have hf := fin i (by omega) h1 (fun j hj h => by omega)
    refine Ev.succ ?_
    simp only [spec_bePut.l0, Int.toNat_natCast]
    refine Ev.neg (by omega) (Ev.pos (by omega) (Ev.pos (by omega) (Ev.known (fun _ => l1Own_ev _ (by rw [List.length_take]; omega)) (Ev.pos (by rw [List.length_take]; omega) (Ev.known (fun _ => rfl) (Ev.pos (by simp; omega) (Ev.pure hf)))))))
  | succ d ih =>
    intro i hd h1
    have hi : i < L.length := by omega
    refine Ev.succ ?_
    simp only [spec_bePut.l0, Int.toNat_natCast, rd_nat L i hi, w1 (show 0 ≤ (i : Int) by omega) (show (i : Int) < 9223372036854775807 by omega)]
    refine Ev.pos (by omega) (Ev.pos (by omega) (Ev.cases (fun h => ?_) (fun h => ?_)))
    · exact ih (i + 1) (by omega) (fun j hj hji => by
        by_cases e : j = i
        · subst e; exact h
        · exact h1 j hj (by omega))
    · have hf := fin i (by omega) h1 (fun j hj hij => by
        by_cases e : j = i
        · subst e; omega
        · have := List.pairwise_iff_getElem.1 hu i j hi hj (by omega)
          omega)
      exact Ev.pos (by omega) (Ev.known (fun _ => l1Own_ev _ (by rw [List.length_take]; omega)) (Ev.pos (by rw [List.length_take]; omega) (Ev.known (fun _ => rfl) (Ev.pos (by simp; omega) (Ev.pure hf)))))
theorem bePut_ev (L : List Int) (x : Int) (hL : L.length ≤ 1000) (hu : L.Pairwise fun x y => x ≤ y) : Ev (fun k => spec_bePut.f k L x) (sortI (L ++ [x])) :=
  bePut_l0 L x hL hu L.length 0 (by omega) (fun j _ h => by omega)
theorem sortI_put (l : List Int) (x : Int) : sortI (sortI l ++ [x]) = sortI (l ++ [x]) :=
  (sortI_of (sortI_up _) ((sortI_perm _).trans ((sortI_perm l).append_right [x])))

theorem beMerge_l2 (many : Int) (list out : List Int) (take : Nat) (r : List Int) (ht : take ≤ list.length) (hl : list.length ≤ 1000) (ys : List Int) (hys : ys.length ≤ 1000) (S : Int)
    (next : Ev (fun k => (spec_bePut.f k (list.drop take) S).bind fun t159 => (if out.length < 17592186044416 then (spec_beMerge.l1 k many t159 (out ++ [S]) many) else none)) r) :
    ∀ (d j : Nat) (s : Int), j + d = ys.length → sumW (ys.drop j) s = S → Ev (fun k => spec_beMerge.l2 k many list out (take : Int) s ys (ys.length : Int) (j : Int)) r
  | 0, j, s, hd, hs => by
    rw [List.drop_of_length_le (by omega), sumW] at hs
    subst hs
    refine Ev.succ ?_
    simp only [spec_beMerge.l2, Int.toNat_natCast]
    exact Ev.neg (by omega) (Ev.pos (by omega) (Ev.pos (by omega) next))
  | d + 1, j, s, hd, hs => by
    have hj : j < ys.length := by omega
    rw [List.drop_eq_getElem_cons hj, sumW] at hs
    have ih := beMerge_l2 many list out take r ht hl ys hys S next d (j + 1) _ (by omega) hs
    refine Ev.succ ?_
    simp only [spec_beMerge.l2, rd_nat ys j hj, w1 (show 0 ≤ (j : Int) by omega) (show (j : Int) < 9223372036854775807 by omega)]
    exact Ev.pos (by omega) (Ev.pos (by omega) (Ev.pos (by omega) ih))
/-- how many are taken -/
def TakeOk (many take n : Nat) : Prop := (many = 2 ∧ take = 2) ∨ (many = 3 ∧ ((take = 2 ∧ n % 2 = 0) ∨ (take = 3 ∧ n % 2 = 1)))
theorem merge_loop (many : Nat) : ∀ (n : Nat) (list out : List Int) (take : Nat), list.length ≤ n → list.length ≤ 12 → out.length + list.length ≤ 12 → list.Pairwise (fun x y => x ≤ y) → TakeOk many take list.length →
    ∃ r, Ev (fun k => spec_beMerge.l1 k (many : Int) list out (take : Int)) r ∧ Ev (fun k => impl_mergeRun.l0 k many list out take) r ∧ r.length ≤ 12
  | 0, list, out, take, hn, hl, ho, hu, ht => by
    refine ⟨out, Ev.succ ?_, Ev.succ ?_, by omega⟩
    · simp only [spec_beMerge.l1]; exact Ev.neg (by omega) (Ev.now _)
    · simp only [impl_mergeRun.l0]; exact Ev.neg (by omega) (Ev.now _)
  | n + 1, list, out, take, hn, hl, ho, hu, ht => by
    by_cases h1 : 1 < list.length
    · have htk : 2 ≤ take ∧ take ≤ list.length := by
        rcases ht with ⟨a, b⟩ | ⟨a, ⟨b, c⟩ | ⟨b, c⟩⟩ <;> omega
      obtain ⟨S, hS⟩ : ∃ S, S = sumW (list.take take) 0 := ⟨_, rfl⟩
      have hlen : (sortI (list.drop take ++ [S])).length = list.length - take + 1 := by rw [sortI_len]; simp
      have htk' : TakeOk many many (list.length - take + 1) := by
        rcases ht with ⟨a, b⟩ | ⟨a, ⟨b, c⟩ | ⟨b, c⟩⟩
        · exact Or.inl ⟨a, by omega⟩
        · exact Or.inr ⟨a, Or.inr ⟨a, by omega⟩⟩
        · exact Or.inr ⟨a, Or.inr ⟨a, by omega⟩⟩
      obtain ⟨r, r1, r2, r3⟩ := merge_loop many n (sortI (list.drop take ++ [S])) (out ++ [S]) many (by omega) (by omega) (by simp; omega) (sortI_up _) (by rw [hlen]; exact htk')
      refine ⟨r, Ev.succ ?_, Ev.succ ?_, r3⟩
      · simp only [spec_beMerge.l1, Int.toNat_natCast, Option.bind_some]
        refine Ev.pos (by omega) (Ev.pos (by omega) (Ev.pos (by omega) ?_))
        have hput := bePut_ev (list.drop take) S (by rw [List.length_drop]; omega) (hu.sublist (List.drop_sublist _ _))
        exact beMerge_l2 (many : Int) list out take r htk.2 (by omega) (list.take take) (by rw [List.length_take]; omega) S (Ev.bind hput (Ev.pos (by omega) r1)) (list.take take).length 0 0 (by omega) (by rw [List.drop_zero, hS])
      · simp only [impl_mergeRun.l0]
        rw [hS] at r2
        exact Ev.pos h1 (Ev.pos (by omega) r2)
    · refine ⟨out, Ev.succ ?_, Ev.succ ?_, by omega⟩
      · simp only [spec_beMerge.l1]; exact Ev.neg (by omega) (Ev.now _)
      · simp only [impl_mergeRun.l0]; exact Ev.neg (by omega) (Ev.now _)
theorem beMerge_l0 (l : List Int) (many : Int) (hl : l.length ≤ 12) (r : List Int) (next : Ev (fun k => (if many = 3 then (spec_beMerge.j1 k many (sortI l) ([] : List Int) many ((((sortI l).length : Int) % 2) == 0)) else (spec_beMerge.j1 k many (sortI l) ([] : List Int) many false))) r) : Ev (fun k => spec_beMerge.f k l many) r := by
  unfold spec_beMerge.f
  have s0 : ([] : List Int) = sortI (l.take 0) := by rw [List.take_zero, sortI_nil]
  rw [s0]
  refine Ev.loop (fun i k => spec_beMerge.l0 k many (sortI (l.take i)) l (l.length : Int) (i : Int)) l.length _ (fun i hi hnext => ?_) ?_
  · have hput := bePut_ev (sortI (l.take i)) l[i] (by rw [sortI_len, List.length_take]; omega) (sortI_up _)
    rw [sortI_put, List.take_append_getElem hi] at hput
    refine Ev.succ ?_
    simp only [spec_beMerge.l0, rd_nat l i hi, w1 (show 0 ≤ (i : Int) by omega) (show (i : Int) < 9223372036854775807 by omega)]
    exact Ev.pos (by omega) (Ev.pos (by omega) (Ev.pos (by omega) (Ev.bind hput hnext)))
  · refine Ev.succ ?_
    simp only [spec_beMerge.l0]
    rw [List.take_of_length_le (Nat.le_refl _)]
    exact Ev.neg (by omega) next
theorem merge_same (l : List Int) (many : Int) (h1 : 1 ≤ l.length) (hl : l.length ≤ 12) (hm : 2 ≤ many ∧ many ≤ 3) : ∃ r, Ev (fun k => spec_beMerge.f k l many) r ∧ Ev (fun k => impl_mergeRun.f k l many) r ∧ r.length ≤ 12 := by
  obtain ⟨m, rfl⟩ : ∃ m : Nat, many = (m : Int) := ⟨many.toNat, by omega⟩
  obtain ⟨t, ht⟩ : ∃ t : Nat, t = if (m : Int) = 3 ∧ l.length % 2 = 0 then 2 else m := ⟨_, rfl⟩
  have hlen := sortI_len l
  have htk : TakeOk m t (sortI l).length := by
    rw [hlen, ht]
    unfold TakeOk
    by_cases c : (m : Int) = 3 ∧ l.length % 2 = 0
    · rw [if_pos c]; omega
    · rw [if_neg c]; omega
  obtain ⟨r, r1, r2, r3⟩ := merge_loop m 12 (sortI l) [] t (by omega) (by omega) (by simp; omega) (sortI_up l) htk
  refine ⟨r, beMerge_l0 l (m : Int) hl r (Ev.cases (fun c => Ev.succ ?_) (fun c => Ev.succ ?_)), ?_, r3⟩
  · simp only [spec_beMerge.j1]
    refine Ev.cases (fun c2 => Ev.succ ?_) (fun c2 => Ev.succ ?_)
    · simp only [spec_beMerge.j2]
      rw [beq_iff_eq, hlen] at c2
      rw [if_pos ⟨c, by omega⟩] at ht
      subst ht
      exact r1
    · simp only [spec_beMerge.j2]
      rw [beq_iff_eq, hlen] at c2
      rw [if_neg (fun h => c2 (by omega))] at ht
      subst ht
      exact r1
  · simp only [spec_beMerge.j1]
    refine Ev.neg (by simp) (Ev.succ ?_)
    simp only [spec_beMerge.j2]
    rw [if_neg (fun h => c h.1)] at ht
    subst ht
    exact r1
  · unfold impl_mergeRun.f
    rw [Int.toNat_natCast, ← ht]
    exact Ev.pos (by omega) r2
theorem beAsked_ev (l : List Int) (m : Int) (hl : l.length ≤ 1048576) : Ev (fun k => spec_beAsked.f k l m) (decide (2 ≤ m ∧ m ≤ 3) && (decide (1 ≤ (l.length : Int) ∧ (l.length : Int) ≤ 12) && l.all fun x => decide (1 ≤ x ∧ x ≤ 100))) := by
  unfold spec_beAsked.f spec_krLetters.f
  refine Ev.known (fun _ => by rw [spec_in, Option.bind_some]) (Ev.cases (fun h => ?_) (fun h => ?_))
  · exact Ev.bind (beWeights_ev l hl) (Ev.pure (by rw [h, Bool.true_and]))
  · exact Ev.pure (by rw [Bool.eq_false_iff.mpr h, Bool.false_and])
theorem areLetters_eq (m : Int) : impl_areLetters.f m = some (decide (2 ≤ m ∧ m ≤ 3)) := by
  unfold impl_areLetters.f
  rw [impl_in_eq, Option.bind_some]


def sI : List Int → Int
  | [] => 0
  | x :: t => x + sI t
def sN : List Nat → Nat
  | [] => 0
  | x :: t => x + sN t
theorem sI_append : ∀ a b : List Int, sI (a ++ b) = sI a + sI b
  | [], b => by simp [sI]
  | x :: t, b => by simp only [List.cons_append, sI, sI_append t b]; omega
theorem sN_append : ∀ a b : List Nat, sN (a ++ b) = sN a + sN b
  | [], b => by simp [sN]
  | x :: t, b => by simp only [List.cons_append, sN, sN_append t b]; omega
theorem sI_perm {a b : List Int} (h : a.Perm b) : sI a = sI b := by
  induction h with
  | nil => rfl
  | cons x _ ih => simp only [sI, ih]
  | swap x y l => simp only [sI]; omega
  | trans _ _ ih1 ih2 => exact ih1.trans ih2
theorem sN_perm {a b : List Nat} (h : a.Perm b) : sN a = sN b := by
  induction h with
  | nil => rfl
  | cons x _ ih => simp only [sN, ih]
  | swap x y l => simp only [sN]; omega
  | trans _ _ ih1 ih2 => exact ih1.trans ih2
theorem sI_nonneg : ∀ l : List Int, (∀ x ∈ l, 0 ≤ x) → 0 ≤ sI l
  | [], _ => by simp [sI]
  | x :: t, h => by
    have h1 := h x (by simp)
    have h2 := sI_nonneg t (fun y hy => h y (by simp [hy]))
    simp only [sI]; omega
theorem sI_le (B : Int) : ∀ l : List Int, (∀ x ∈ l, x ≤ B) → sI l ≤ B * (l.length : Int)
  | [], _ => by simp [sI]
  | x :: t, h => by
    have h1 := h x (by simp)
    have h2 := sI_le B t (fun y hy => h y (by simp [hy]))
    simp only [sI, List.length_cons]
    have e : B * ((t.length + 1 : Nat) : Int) = B * (t.length : Int) + B := by rw [Int.natCast_add, Int.mul_add]; simp
    omega
theorem sumW_sI : ∀ (ys : List Int) (s : Int), (∀ y ∈ ys, 0 ≤ y) → 0 ≤ s → s + sI ys ≤ 1000000 → sumW ys s = s + sI ys
  | [], s, _, _, _ => by simp [sumW, sI]
  | y :: t, s, h, hs, hb => by
    have h1 := h y (by simp)
    have h2 := sI_nonneg t (fun z hz => h z (by simp [hz]))
    simp only [sI] at hb ⊢
    have e : Aside0 (wrap64 (s + y) = s + y) := ⟨w64 (by omega) (by omega)⟩
    rw [sumW, e.out, sumW_sI t (s + y) (fun z hz => h z (by simp [hz])) (by omega) (by omega)]
    omega
/-- lengths that fit, for weights in whatever order; D is no less than each length -/
def Fits (m D : Nat) (L : List Int) (c : Int) : Prop := ∃ ps : List (Int × Nat), (ps.map Prod.fst).Perm L ∧ (∀ p ∈ ps, p.2 ≤ D) ∧ (2 ≤ L.length → ∀ p ∈ ps, 1 ≤ p.2) ∧ sN (ps.map (fun p => m ^ (D - p.2))) ≤ m ^ D ∧ sI (ps.map (fun p => (p.2 : Int) * p.1)) = c
theorem perm_lift {L M : List Int} (h : L.Perm M) : ∀ ps : List (Int × Nat), ps.map Prod.fst = L → ∃ qs : List (Int × Nat), ps.Perm qs ∧ qs.map Prod.fst = M := by
  induction h with
  | nil => intro ps h; exact ⟨ps, List.Perm.refl _, h⟩
  | cons x _ ih =>
    intro ps h
    match ps, h with
    | p :: ps, h =>
      simp only [List.map_cons, List.cons.injEq] at h
      obtain ⟨qs, h1, h2⟩ := ih ps h.2
      exact ⟨p :: qs, h1.cons p, by simp [h.1, h2]⟩
  | swap x y l =>
    intro ps h
    match ps, h with
    | p :: q :: ps, h =>
      simp only [List.map_cons, List.cons.injEq] at h
      exact ⟨q :: p :: ps, List.Perm.swap q p ps, by simp [h.1, h.2.1, h.2.2]⟩
  | trans _ _ ih1 ih2 =>
    intro ps h
    obtain ⟨qs, h1, h2⟩ := ih1 ps h
    obtain ⟨rs, h3, h4⟩ := ih2 qs h2
    exact ⟨rs, h1.trans h3, h4⟩
theorem sN_const (T : List Int) (a : Nat) : sN (T.map fun _ => a) = T.length * a := by
  induction T with
  | nil => simp [sN]
  | cons x t ih => simp only [List.map_cons, sN, ih, List.length_cons, Nat.add_mul, Nat.one_mul]; omega
theorem sI_scale (T : List Int) (a : Int) : sI (T.map fun x => a * x) = a * sI T := by
  induction T with
  | nil => simp [sI]
  | cons x t ih => simp only [List.map_cons, sI, ih, Int.mul_add]
theorem sN_up (m D : Nat) : ∀ q : List (Int × Nat), (∀ p ∈ q, p.2 ≤ D) → sN (q.map fun p => m ^ (D + 1 - p.2)) = m * sN (q.map fun p => m ^ (D - p.2))
  | [], _ => by simp [sN]
  | p :: q, h => by
    have h1 := h p (by simp)
    have ih := sN_up m D q (fun r hr => h r (by simp [hr]))
    simp only [List.map_cons, sN, ih, Nat.mul_add, show D + 1 - p.2 = (D - p.2) + 1 by omega, Nat.pow_succ]
    rw [Nat.mul_comm m (m ^ (D - p.2))]
theorem Fits.merge {m D : Nat} {T R : List Int} {c : Int} (hm : T.length ≤ m) (h : Fits m D (sortI (R ++ [sI T])) c) : Fits m (D + 1) (T ++ R) (c + sI T) := by
  obtain ⟨ps, hp, h1, h2, h3, h4⟩ := h
  obtain ⟨qs, hq, hqs⟩ := perm_lift (hp.trans (sortI_perm _)) ps rfl
  rw [sN_perm (hq.map _)] at h3
  rw [sI_perm (hq.map _)] at h4
  obtain ⟨q1, q2, rfl, e1, e2⟩ := List.map_eq_append_iff.1 hqs
  obtain ⟨s, d, rfl, rfl⟩ : ∃ s d, q2 = [(s, d)] ∧ s = sI T := by
    match q2, e2 with
    | [(s, d)], e2 => exact ⟨s, d, rfl, by simpa using e2⟩
  have hd : d ≤ D := h1 _ (hq.symm.subset (by simp : (sI T, d) ∈ q1 ++ [(sI T, d)]))
  have hq1 : ∀ p ∈ q1, p.2 ≤ D := fun p hp => h1 p (hq.symm.subset (by simp [hp]))
  have hlen : (sortI (R ++ [sI T])).length = R.length + 1 := by rw [sortI_len]; simp
  refine ⟨(T.map fun x => (x, d + 1)) ++ q1, ?_, ?_, ?_, ?_, ?_⟩
  · rw [List.map_append, e1, List.map_map]
    rw [show (Prod.fst ∘ fun x : Int => (x, d + 1)) = id from rfl, List.map_id]
  · intro p hp
    rcases List.mem_append.1 hp with hp | hp
    · obtain ⟨x, -, rfl⟩ := List.mem_map.1 hp
      show d + 1 ≤ D + 1
      omega
    · have := hq1 p hp; omega
  · intro _ p hp
    rcases List.mem_append.1 hp with hp | hp
    · obtain ⟨x, -, rfl⟩ := List.mem_map.1 hp
      show 1 ≤ d + 1
      omega
    · have hl1 : q1.length = R.length := by rw [← e1, List.length_map]
      have hpos := List.length_pos_of_mem hp
      exact h2 (by omega) p (hq.symm.subset (by simp [hp]))
  · rw [List.map_append, sN_append, List.map_map, sN_up m D q1 hq1, show ((fun p : Int × Nat => m ^ (D + 1 - p.2)) ∘ fun x : Int => (x, d + 1)) = fun _ => m ^ (D - d) from by funext x; simp [show D + 1 - (d + 1) = D - d by omega], sN_const]
    rw [List.map_append, sN_append] at h3
    simp only [List.map_cons, List.map_nil, sN, Nat.add_zero] at h3
    have h5 := Nat.mul_le_mul_right (m ^ (D - d)) hm
    have h6 := Nat.mul_le_mul_left m h3
    rw [Nat.mul_add] at h6
    rw [Nat.pow_succ, Nat.mul_comm (m ^ D) m]
    omega
  · rw [List.map_append, sI_append, List.map_map, show ((fun p : Int × Nat => (p.2 : Int) * p.1) ∘ fun x : Int => (x, d + 1)) = fun x => ((d + 1 : Nat) : Int) * x from rfl, sI_scale]
    rw [List.map_append, sI_append] at h4
    simp only [List.map_cons, List.map_nil, sI, Int.add_zero] at h4
    have e : ((d + 1 : Nat) : Int) * sI T = (d : Int) * sI T + sI T := by rw [Int.natCast_add, Int.add_mul]; simp
    omega
theorem Fits.up {m D : Nat} {L : List Int} {c : Int} (h : Fits m D L c) : Fits m (D + 1) L c := by
  obtain ⟨ps, hp, h1, h2, h3, h4⟩ := h
  refine ⟨ps, hp, fun p hp => by have := h1 p hp; omega, h2, ?_, h4⟩
  rw [sN_up m D ps h1, Nat.pow_succ, Nat.mul_comm (m ^ D) m]
  exact Nat.mul_le_mul_left m h3
theorem Fits.to {m D : Nat} {L : List Int} {c : Int} (h : Fits m D L c) : ∀ d, Fits m (D + d) L c
  | 0 => h
  | d + 1 => (h.to d).up
theorem merge_loop2 (many : Nat) : ∀ (n : Nat) (list out : List Int) (take : Nat), 1 ≤ list.length → list.length ≤ n → list.length ≤ 12 → out.length + list.length ≤ 12 → list.Pairwise (fun x y => x ≤ y) → TakeOk many take list.length → (∀ x ∈ list, 0 ≤ x) → sI list ≤ 10000 →
    ∃ (cs : List Int) (D : Nat), Ev (fun k => spec_beMerge.l1 k (many : Int) list out (take : Int)) (out ++ cs) ∧ Ev (fun k => impl_mergeRun.l0 k many list out take) (out ++ cs) ∧ D + 1 ≤ list.length ∧ (∀ x ∈ cs, 0 ≤ x ∧ x ≤ 10000) ∧ cs.length + 1 ≤ list.length ∧ Fits many D list (sI cs)
  | 0, list, out, take, h0, hn, hl, ho, hu, ht, hx, hs => by omega
  | n + 1, list, out, take, h0, hn, hl, ho, hu, ht, hx, hs => by
    by_cases h1 : 1 < list.length
    · have htk : 2 ≤ take ∧ take ≤ list.length ∧ take ≤ many := by
        rcases ht with ⟨a, b⟩ | ⟨a, ⟨b, c⟩ | ⟨b, c⟩⟩ <;> omega
      have hdt : sI list = sI (list.take take) + sI (list.drop take) := by rw [← sI_append, List.take_append_drop]
      have hx1 : ∀ x ∈ list.take take, 0 ≤ x := fun x h => hx x (List.mem_of_mem_take h)
      have hx2 : ∀ x ∈ list.drop take, 0 ≤ x := fun x h => hx x (List.mem_of_mem_drop h)
      have hn1 := sI_nonneg _ hx1
      have hn2 := sI_nonneg _ hx2
      have hS0 : sumW (list.take take) 0 = sI (list.take take) := by rw [sumW_sI _ 0 hx1 (by omega) (by omega)]; omega
      obtain ⟨S, hS⟩ : ∃ S, S = sI (list.take take) := ⟨_, rfl⟩
      have hlen : (sortI (list.drop take ++ [S])).length = list.length - take + 1 := by rw [sortI_len]; simp
      have htk' : TakeOk many many (list.length - take + 1) := by
        rcases ht with ⟨a, b⟩ | ⟨a, ⟨b, c⟩ | ⟨b, c⟩⟩
        · exact Or.inl ⟨a, by omega⟩
        · exact Or.inr ⟨a, Or.inr ⟨a, by omega⟩⟩
        · exact Or.inr ⟨a, Or.inr ⟨a, by omega⟩⟩
      have hx' : ∀ x ∈ sortI (list.drop take ++ [S]), 0 ≤ x := fun x h => by
        have h := (sortI_perm _).subset h
        rcases List.mem_append.1 h with h | h
        · exact hx2 x h
        · rw [List.mem_singleton] at h; omega
      have hs' : sI (sortI (list.drop take ++ [S])) ≤ 10000 := by
        rw [sI_perm (sortI_perm _), sI_append]
        simp only [sI, Int.add_zero]
        omega
      obtain ⟨cs, D, r1, r2, r3, r4, r5, r6⟩ := merge_loop2 many n (sortI (list.drop take ++ [S])) (out ++ [S]) many (by omega) (by omega) (by omega) (by simp; omega) (sortI_up _) (by rw [hlen]; exact htk') hx' hs'
      rw [List.append_assoc] at r1 r2
      refine ⟨S :: cs, D + 1, Ev.succ ?_, Ev.succ ?_, by omega, ?_, by simp only [List.length_cons]; omega, ?_⟩
      · simp only [spec_beMerge.l1, Int.toNat_natCast, Option.bind_some]
        refine Ev.pos (by omega) (Ev.pos (by omega) (Ev.pos (by omega) ?_))
        have hput := bePut_ev (list.drop take) S (by rw [List.length_drop]; omega) (hu.sublist (List.drop_sublist _ _))
        exact beMerge_l2 (many : Int) list out take (out ++ S :: cs) htk.2.1 (by omega) (list.take take) (by rw [List.length_take]; omega) S (Ev.bind hput (Ev.pos (by omega) r1)) (list.take take).length 0 0 (by omega) (by rw [List.drop_zero, hS, hS0])
      · simp only [impl_mergeRun.l0]
        rw [hS, ← hS0] at r2
        rw [hS, ← hS0]
        exact Ev.pos h1 (Ev.pos (by omega) r2)
      · intro x h
        rcases List.mem_cons.1 h with rfl | h
        · omega
        · exact r4 x h
      · have h7 := Fits.merge (m := many) (T := list.take take) (R := list.drop take) (by rw [List.length_take]; omega) (hS ▸ r6)
        rw [List.take_append_drop] at h7
        rw [show sI (S :: cs) = sI cs + sI (list.take take) by simp only [sI]; omega]
        exact h7
    · refine ⟨[], 0, Ev.succ ?_, Ev.succ ?_, by omega, by simp, by simp; omega, ?_⟩
      · simp only [spec_beMerge.l1]; exact Ev.neg (by omega) (Ev.pure (by simp))
      · simp only [impl_mergeRun.l0]; exact Ev.neg (by omega) (Ev.pure (by simp))
      · match list, h0, h1 with
        | [x], _, _ => exact ⟨[(x, 0)], by simp, by simp, fun h => by simp at h, by simp [sN], by simp [sI]⟩
        | x :: y :: t, _, h1 => exact absurd (show 1 < (x :: y :: t).length by simp) h1
theorem merge_same2 (l : List Int) (m : Nat) (h1 : 1 ≤ l.length) (hl : l.length ≤ 12) (hm : 2 ≤ m ∧ m ≤ 3) (hx : ∀ x ∈ l, 1 ≤ x ∧ x ≤ 100) : ∃ (r : List Int) (D : Nat), Ev (fun k => spec_beMerge.f k l (m : Int)) r ∧ Ev (fun k => impl_mergeRun.f k l (m : Int)) r ∧ D + 1 ≤ l.length ∧ (∀ x ∈ r, 0 ≤ x ∧ x ≤ 10000) ∧ r.length + 1 ≤ l.length ∧ Fits m D l (sI r) := by
  obtain ⟨t, ht⟩ : ∃ t : Nat, t = if (m : Int) = 3 ∧ l.length % 2 = 0 then 2 else m := ⟨_, rfl⟩
  have hlen := sortI_len l
  have htk : TakeOk m t (sortI l).length := by
    rw [hlen, ht]
    unfold TakeOk
    by_cases c : (m : Int) = 3 ∧ l.length % 2 = 0
    · rw [if_pos c]; omega
    · rw [if_neg c]; omega
  have hsum : sI (sortI l) ≤ 10000 := by
    rw [sI_perm (sortI_perm l)]
    have := sI_le 100 l (fun x h => (hx x h).2)
    omega
  obtain ⟨r, D, r1, r2, r3, r4, r5, r6⟩ := merge_loop2 m 12 (sortI l) [] t (by omega) (by omega) (by omega) (by simp; omega) (sortI_up l) htk (fun x h => by have := hx x ((sortI_perm l).subset h); omega) hsum
  rw [List.nil_append] at r1 r2
  rw [hlen] at r3 r5
  have r7 : Fits m D l (sI r) := by
    obtain ⟨ps, hp, a, b, c, d⟩ := r6
    exact ⟨ps, hp.trans (sortI_perm l), a, fun h => b (by omega), c, d⟩
  refine ⟨r, D, beMerge_l0 l (m : Int) hl r (Ev.cases (fun c => Ev.succ ?_) (fun c => Ev.succ ?_)), ?_, r3, r4, r5, r7⟩
  · simp only [spec_beMerge.j1]
    refine Ev.cases (fun c2 => Ev.succ ?_) (fun c2 => Ev.succ ?_)
    · simp only [spec_beMerge.j2]
      rw [beq_iff_eq, hlen] at c2
      rw [if_pos ⟨c, by omega⟩] at ht
      subst ht
      exact r1
    · simp only [spec_beMerge.j2]
      rw [beq_iff_eq, hlen] at c2
      rw [if_neg (fun h => c2 (by omega))] at ht
      subst ht
      exact r1
  · simp only [spec_beMerge.j1]
    refine Ev.neg (by simp) (Ev.succ ?_)
    simp only [spec_beMerge.j2]
    rw [if_neg (fun h => c h.1)] at ht
    subst ht
    exact r1
  · unfold impl_mergeRun.f
    rw [Int.toNat_natCast, ← ht]
    exact Ev.pos (by omega) r2
theorem bestSum2 (ys : List Int) (hl : ys.length ≤ 1000) (hy : ∀ y ∈ ys, 0 ≤ y ∧ y ≤ 10000) : ∀ (d i : Nat) (s : Int), i + d = ys.length → 0 ≤ s → s + sI (ys.drop i) ≤ 1000000000 → Ev (fun k => spec_beBest.l0 k s ys (ys.length : Int) (i : Int)) (s + sI (ys.drop i)) ∧ Ev (fun k => impl_bestCost.l0 k s ys (ys.length : Int) (i : Int)) (s + sI (ys.drop i))
  | 0, i, s, hd, _, _ => by
    rw [List.drop_of_length_le (by omega)]
    exact ⟨Ev.succ (by simp only [spec_beBest.l0]; exact Ev.neg (by omega) (Ev.pure (by simp [sI]))), Ev.succ (by simp only [impl_bestCost.l0]; exact Ev.neg (by omega) (Ev.pure (by simp [sI])))⟩
  | d + 1, i, s, hd, h0, hb => by
    have hi : i < ys.length := by omega
    rw [List.drop_eq_getElem_cons hi] at hb ⊢
    simp only [sI] at hb ⊢
    have hyi := hy _ (List.getElem_mem hi)
    have hn := sI_nonneg (ys.drop (i + 1)) (fun x h => (hy x (List.mem_of_mem_drop h)).1)
    obtain ⟨h1, h2⟩ := bestSum2 ys hl hy d (i + 1) (s + ys[i]) (by omega) (by omega) (by omega)
    rw [show s + ys[i] + sI (ys.drop (i + 1)) = s + (ys[i] + sI (ys.drop (i + 1))) by omega] at h1 h2
    have wi := w1 (show 0 ≤ (i : Int) by omega) (show (i : Int) < 9223372036854775807 by omega)
    have ws : Aside0 (wrap64 (s + ys[i]) = s + ys[i]) := ⟨w64 (by omega) (by omega)⟩
    refine ⟨Ev.succ ?_, Ev.succ ?_⟩
    · simp only [spec_beBest.l0, rd_nat ys i hi, ws.out, wi]; exact Ev.pos (by omega) (Ev.pos (by omega) (Ev.pos (by omega) h1))
    · simp only [impl_bestCost.l0, rd_nat ys i hi, ws.out, wi]; exact Ev.pos (by omega) (Ev.pos (by omega) (Ev.pos (by omega) h2))
/-- the cost of best lengths is the cost of some lengths that fit -/
theorem best_fits (l : List Int) (m : Nat) (h1 : 1 ≤ l.length) (hl : l.length ≤ 12) (hm : 2 ≤ m ∧ m ≤ 3) (hx : ∀ x ∈ l, 1 ≤ x ∧ x ≤ 100) : ∃ (B : Int) (ps : List (Int × Nat)), Ev (fun k => spec_beBest.f k l (m : Int)) B ∧ Ev (fun k => impl_bestCost.f k l (m : Int)) B ∧ 0 ≤ B ∧ B ≤ 1000000 ∧
    ps.map Prod.fst = l ∧ (∀ p ∈ ps, 1 ≤ p.2 ∧ p.2 ≤ 11) ∧ sN (ps.map (fun p => m ^ (11 - p.2))) ≤ m ^ 11 ∧ sI (ps.map (fun p => (p.2 : Int) * p.1)) = B := by
  unfold spec_beBest.f impl_bestCost.f
  by_cases e : l.length = 1
  · match l, e with
    | [x], _ =>
      have hx0 := hx x (by simp)
      have e0 : rd [x] 0 = x := by simp [rd]
      refine ⟨x, [(x, 1)], Ev.pos (by simp) (Ev.pos (by simp) (Ev.pure e0)), Ev.pos (by simp) (Ev.pos (by simp) (Ev.pure e0)), by omega, by omega, by simp, by simp, ?_, by simp [sI]⟩
      simp only [List.map_cons, List.map_nil, sN, Nat.add_zero]
      exact Nat.pow_le_pow_right (by omega) (by omega)
  · obtain ⟨r, D, r1, r2, r3, r4, r5, r6⟩ := merge_same2 l m h1 hl hm hx
    have hb := sI_le 10000 r (fun x h => (r4 x h).2)
    have hb0 := sI_nonneg r (fun x h => (r4 x h).1)
    obtain ⟨s1, s2⟩ := bestSum2 r (by omega) r4 r.length 0 0 (by omega) (by omega) (by rw [List.drop_zero]; omega)
    rw [List.drop_zero, Int.zero_add] at s1 s2
    have r7 := r6.to (11 - D)
    rw [show D + (11 - D) = 11 by omega] at r7
    obtain ⟨ps, hp, a, b, c, d⟩ := r7
    obtain ⟨qs, hq, hqs⟩ := perm_lift hp ps rfl
    refine ⟨sI r, qs, Ev.neg (by omega) (Ev.bind r1 s1), Ev.neg (by omega) (Ev.bind r2 s2), hb0, by omega, hqs, fun p h => ⟨b (by omega) p (hq.symm.subset h), a p (hq.symm.subset h)⟩, ?_, ?_⟩
    · rw [← sN_perm (hq.map _)]; exact c
    · rw [← sI_perm (hq.map _)]; exact d

theorem wf64 {n : Int} (h1 : -9223372036854775808 ≤ n) (h2 : n ≤ 9223372036854775807) : (Lit.int .i64 n).wf = true := by
  simp only [Lit.wf, IntKind.min, IntKind.max, IntKind.signed, IntKind.bits, Bool.and_eq_true, decide_eq_true_eq, if_true]
  omega
theorem pow_small {m n : Nat} (hm : 2 ≤ m ∧ m ≤ 3) (hn : n ≤ 11) : 1 ≤ m ^ n ∧ m ^ n ≤ 177147 := by
  have e : (3 : Nat) ^ 11 = 177147 := by decide
  exact ⟨Nat.pow_pos (by omega), by rw [← e]; exact Nat.le_trans (Nat.pow_le_pow_left hm.2 _) (Nat.pow_le_pow_right (by omega) hn)⟩

theorem krPower_l0 (b m : Nat) (hb : 1 ≤ b) (hp : b ^ m < 4611686018427387904) (hm : m ≤ 1048576) : ∀ (d i : Nat), i + d = m → Ev (fun k => spec_krPower.l0 k (b : Int) (d : Int) ((b ^ i : Nat) : Int)) ((b ^ m : Nat) : Int)
  | 0, i, hd => by
    refine Ev.succ ?_
    simp only [spec_krPower.l0]
    exact Ev.neg (by omega) (Ev.pure (by rw [show i = m by omega]))
  | d + 1, i, hd => by
    have ih := krPower_l0 b m hb hp hm d (i + 1) (by omega)
    have h1 : b ^ (i + 1) ≤ b ^ m := Nat.pow_le_pow_right hb (by omega)
    have e : Aside0 (wrap64 (((b ^ i : Nat) : Int) * (b : Int)) = ((b ^ (i + 1) : Nat) : Int)) := ⟨by
      rw [← Int.natCast_mul, show b ^ i * b = b ^ (i + 1) from rfl]; exact w64 (by omega) (by omega)⟩
    have e2 : Aside0 (wrap64 (((d + 1 : Nat) : Int) - 1) = (d : Int)) := ⟨by rw [w64 (by omega) (by omega)]; omega⟩
    refine Ev.succ ?_
    simp only [spec_krPower.l0, e.out, e2.out]
    exact Ev.pos (by omega) ih
theorem krPower_ev (b m : Nat) (hb : 1 ≤ b) (hp : b ^ m < 4611686018427387904) (hm : m ≤ 1048576) : Ev (fun k => spec_krPower.f k (b : Int) (m : Int)) ((b ^ m : Nat) : Int) := by
  have h := krPower_l0 b m hb hp hm m 0 (by omega)
  simpa [spec_krPower.f] using h

theorem power_l0 (b m : Nat) (hb : 1 ≤ b) (hp : b ^ m < 4611686018427387904) (hm : m ≤ 1048576) : ∀ (d i : Nat), i + d = m → Ev (fun k => impl_power.l0 k (b : Int) ((b ^ i : Nat) : Int) (m : Int) (i : Int)) ((b ^ m : Nat) : Int)
  | 0, i, hd => by
    refine Ev.succ ?_
    simp only [impl_power.l0]
    exact Ev.neg (by omega) (Ev.pure (by rw [show i = m by omega]))
  | d + 1, i, hd => by
    have ih := power_l0 b m hb hp hm d (i + 1) (by omega)
    have h1 : b ^ (i + 1) ≤ b ^ m := Nat.pow_le_pow_right hb (by omega)
    have e : Aside0 (wrap64 (((b ^ i : Nat) : Int) * (b : Int)) = ((b ^ (i + 1) : Nat) : Int)) := ⟨by
      rw [← Int.natCast_mul, show b ^ i * b = b ^ (i + 1) from rfl]; exact w64 (by omega) (by omega)⟩
    refine Ev.succ ?_
    simp only [impl_power.l0, e.out, w1 (show 0 ≤ (i : Int) by omega) (show (i : Int) < 9223372036854775807 by omega)]
    exact Ev.pos (by omega) ih
theorem power_ev (b m : Nat) (hb : 1 ≤ b) (hp : b ^ m < 4611686018427387904) (hm : m ≤ 1048576) : Ev (fun k => impl_power.f k (b : Int) (m : Int)) ((b ^ m : Nat) : Int) := by
  have h := power_l0 b m hb hp hm m 0 (by omega)
  simpa [impl_power.f] using h

/-- what follows one weight: its lengths from l on -/
def solL (m : Nat) (x : Int) (rec : Int → Int → List (List Int)) (s c : Int) : Nat → Nat → List (List Int)
  | 0, _ => []
  | d + 1, l => (if 0 ≤ c - (l : Int) * x ∧ 0 ≤ s - ((m ^ (11 - l) : Nat) : Int) then (rec (s - ((m ^ (11 - l) : Nat) : Int)) (c - (l : Int) * x)).map (fun t => (l : Int) :: t) else []) ++ solL m x rec s c d (l + 1)
/-- all lengths that fit and cost what is left -/
def sols (m : Nat) : List Int → Int → Int → List (List Int)
  | [], _, c => if c = 0 then [[]] else []
  | x :: xs, s, c => solL m x (sols m xs) s c 11 1
theorem solL_nil (m : Nat) (x : Int) (hx : 0 ≤ x) (rec : Int → Int → List (List Int)) (s c : Int) : ∀ (d l : Nat), c - (l : Int) * x < 0 → solL m x rec s c d l = []
  | 0, _, _ => rfl
  | d + 1, l, h => by
    have e : ((l + 1 : Nat) : Int) * x = (l : Int) * x + x := by rw [Int.natCast_add, Int.add_mul]; simp
    rw [solL, if_neg (fun h2 => by omega), solL_nil m x hx rec s c d (l + 1) (by omega)]
    rfl
theorem solL_len (m : Nat) (x : Int) (rec : Int → Int → List (List Int)) (s c : Int) (N : Nat) (h : ∀ a b, (rec a b).length ≤ N) : ∀ (d l : Nat), (solL m x rec s c d l).length ≤ d * N
  | 0, _ => by simp [solL]
  | d + 1, l => by
    have ih := solL_len m x rec s c N h d (l + 1)
    rw [solL, List.length_append, Nat.add_mul, Nat.one_mul]
    split
    · rw [List.length_map]; have := h (s - ((m ^ (11 - l) : Nat) : Int)) (c - (l : Int) * x); omega
    · simp; omega
theorem sols_len (m : Nat) : ∀ (xs : List Int) (s c : Int), (sols m xs s c).length ≤ 11 ^ xs.length
  | [], s, c => by
    unfold sols
    split <;> simp
  | x :: xs, s, c => by
    rw [sols, List.length_cons, Nat.pow_succ, Nat.mul_comm]
    exact solL_len m x (sols m xs) s c _ (sols_len m xs) 11 1
theorem solL_mem (m : Nat) (x : Int) (rec : Int → Int → List (List Int)) (s c : Int) (l' : Nat) (t : List Int) (h1 : 0 ≤ c - (l' : Int) * x) (h2 : 0 ≤ s - ((m ^ (11 - l') : Nat) : Int)) (ht : t ∈ rec (s - ((m ^ (11 - l') : Nat) : Int)) (c - (l' : Int) * x)) : ∀ (d l : Nat), l ≤ l' → l' < l + d → ((l' : Int) :: t) ∈ solL m x rec s c d l
  | 0, l, ha, hb => by omega
  | d + 1, l, ha, hb => by
    rw [solL, List.mem_append]
    by_cases e : l' = l
    · subst e
      left
      rw [if_pos ⟨h1, h2⟩]
      exact List.mem_map.2 ⟨t, ht, rfl⟩
    · right
      exact solL_mem m x rec s c l' t h1 h2 ht d (l + 1) (by omega) (by omega)
theorem sols_mem (m : Nat) : ∀ (ps : List (Int × Nat)) (s c : Int), (∀ p ∈ ps, 1 ≤ p.2 ∧ p.2 ≤ 11) → (∀ p ∈ ps, 0 ≤ p.1) → ((sN (ps.map (fun p => m ^ (11 - p.2))) : Nat) : Int) ≤ s → sI (ps.map (fun p => (p.2 : Int) * p.1)) = c → ps.map (fun p => (p.2 : Int)) ∈ sols m (ps.map Prod.fst) s c
  | [], s, c, _, _, _, h => by
    simp only [List.map_nil, sI] at h
    simp [sols, ← h]
  | p :: ps, s, c, h1, h2, h3, h4 => by
    simp only [List.map_cons, sI, sN] at h3 h4 ⊢
    have hp := h1 p (by simp)
    have hn : 0 ≤ sI (ps.map (fun p => (p.2 : Int) * p.1)) := sI_nonneg _ (fun x hx => by
      obtain ⟨q, hq, rfl⟩ := List.mem_map.1 hx
      exact Int.mul_nonneg (by omega) (h2 q (by simp [hq])))
    have ih := sols_mem m ps (s - ((m ^ (11 - p.2) : Nat) : Int)) (c - (p.2 : Int) * p.1) (fun q hq => h1 q (by simp [hq])) (fun q hq => h2 q (by simp [hq])) (by omega) (by omega)
    exact solL_mem m p.1 (sols m (ps.map Prod.fst)) s c p.2 _ (by omega) (by omega) ih 11 1 hp.1 (by omega)
theorem solL_each (m : Nat) (x : Int) (rec : Int → Int → List (List Int)) (s c : Int) (n : Nat) (h : ∀ a b t, t ∈ rec a b → t.length = n) : ∀ (d l : Nat) (t : List Int), t ∈ solL m x rec s c d l → t.length = n + 1
  | 0, _, t, ht => by simp [solL] at ht
  | d + 1, l, t, ht => by
    rw [solL, List.mem_append] at ht
    rcases ht with ht | ht
    · split at ht
      · obtain ⟨u, hu, rfl⟩ := List.mem_map.1 ht
        rw [List.length_cons, h _ _ u hu]
      · simp at ht
    · exact solL_each m x rec s c n h d (l + 1) t ht
theorem sols_each (m : Nat) : ∀ (xs : List Int) (s c : Int) (t : List Int), t ∈ sols m xs s c → t.length = xs.length
  | [], s, c, t, ht => by
    unfold sols at ht
    split at ht
    · rw [List.mem_singleton] at ht; rw [ht]
    · simp at ht
  | x :: xs, s, c, t, ht => solL_each m x (sols m xs) s c xs.length (fun a b t h => sols_each m xs a b t h) 11 1 t ht
/-- the first one, and how many -/
def upd (f : List Int) (cnt : Int) : List (List Int) → List Int × Int
  | [] => (f, cnt)
  | a :: t => (if cnt = 0 then a else f, cnt + ((t.length : Int) + 1))
theorem upd_append (f : List Int) (cnt : Int) (h : 0 ≤ cnt) (A B : List (List Int)) : upd f cnt (A ++ B) = upd (upd f cnt A).1 (upd f cnt A).2 B := by
  cases A with
  | nil => rfl
  | cons a t =>
    cases B with
    | nil => simp [upd]
    | cons b u =>
      show upd f cnt (a :: (t ++ b :: u)) = upd (if cnt = 0 then a else f) (cnt + ((t.length : Int) + 1)) (b :: u)
      have hne : ¬ cnt + ((t.length : Int) + 1) = 0 := by omega
      show ((if cnt = 0 then a else f), cnt + (((t ++ b :: u).length : Int) + 1)) = (if cnt + ((t.length : Int) + 1) = 0 then b else (if cnt = 0 then a else f), cnt + ((t.length : Int) + 1) + ((u.length : Int) + 1))
      rw [if_neg hne, List.length_append, List.length_cons]
      congr 1
      omega
theorem upd_cnt (f : List Int) (cnt : Int) (A : List (List Int)) : (upd f cnt A).2 = cnt + (A.length : Int) := by
  cases A with
  | nil => simp [upd]
  | cons a t => simp [upd]
theorem drop_at (ws : List Int) (i : Nat) (h : i < ws.length) : ws.drop i = rd ws (i : Int) :: ws.drop (i + 1) := by rw [rd_nat ws i h, List.drop_eq_getElem_cons h]
theorem rd_in (ws : List Int) (i : Nat) (h : i < ws.length) (hx : ∀ x ∈ ws, 1 ≤ x ∧ x ≤ 100) : 1 ≤ rd ws (i : Int) ∧ rd ws (i : Int) ≤ 100 := by rw [rd_nat ws i h]; exact hx _ (List.getElem_mem h)
theorem mul_le_1100 {l : Nat} {x : Int} (hl : l ≤ 12) (hx : 1 ≤ x ∧ x ≤ 100) : 0 ≤ (l : Int) * x ∧ (l : Int) * x ≤ 1200 := by
  refine ⟨Int.mul_nonneg (by omega) (by omega), ?_⟩
  have h1 := Int.mul_le_mul_of_nonneg_left hx.2 (show (0 : Int) ≤ (l : Int) by omega)
  omega
theorem map_pre (list : List Int) (l : Int) (A : List (List Int)) : (A.map (fun t => l :: t)).map (list ++ ·) = A.map ((list ++ [l]) ++ ·) := by
  rw [List.map_map]
  congr 1
  funext t
  simp
/-- the reference's search -/
theorem seek_ev (ws : List Int) (hw : ws.length ≤ 6) (hx : ∀ x ∈ ws, 1 ≤ x ∧ x ≤ 100) (m : Nat) (hm : 2 ≤ m ∧ m ≤ 3) : ∀ (d : Nat) (list : List Int) (share cost : Int) (f : List Int) (cnt : Int), list.length + d = ws.length → 0 ≤ share → share ≤ 1000000 → 0 ≤ cost → cost ≤ 1000000 → 0 ≤ cnt → cnt + ((11 ^ d : Nat) : Int) ≤ 1000000000 →
    Ev (fun k => spec_beFind.seek k ws (m : Int) list share cost f cnt) (upd f cnt ((sols m (ws.drop list.length) share cost).map (list ++ ·)))
  | 0, list, share, cost, f, cnt, hd, s1, s2, c1, c2, n1, n2 => by
    refine Ev.succ ?_
    simp only [spec_beFind.seek]
    have ec : Aside0 (wrap64 (cnt + 1) = cnt + 1) := ⟨w64 (by omega) (by omega)⟩
    refine Ev.neg (by omega) (Ev.neg (by omega) (Ev.pos (by omega) (Ev.pos (by omega) ?_)))
    rw [List.drop_of_length_le (by omega)]
    by_cases e : cost = 0
    · have hs : sols m [] share cost = [[]] := by rw [sols, if_pos e]
      rw [hs, ec.out]
      simp only [List.map_cons, List.map_nil, List.append_nil, upd]
      refine Ev.pos e (Ev.cases (fun h => ?_) (fun h => ?_))
      · rw [if_pos h]; exact Ev.now _
      · rw [if_neg h]; exact Ev.now _
    · have hs : sols m [] share cost = [] := by rw [sols, if_neg e]
      rw [hs]
      exact Ev.neg e (Ev.now _)
  | d + 1, list, share, cost, f, cnt, hd, s1, s2, c1, c2, n1, n2 => by
    have hi : list.length < ws.length := by omega
    have hx0 := rd_in ws list.length hi hx
    rw [drop_at ws list.length hi]
    generalize hrd0 : rd ws (list.length : Int) = x at hx0 ⊢
    have hN : (11 : Nat) ^ (d + 1) = 11 * 11 ^ d := by rw [Nat.pow_succ, Nat.mul_comm]
    have loop : ∀ (e l : Nat) (f : List Int) (cnt : Int), l + e = 12 → 1 ≤ l → 0 ≤ cnt → cnt + ((e * 11 ^ d : Nat) : Int) ≤ 1000000000 → rd ws (list.length : Int) = x →
        Ev (fun k => spec_beFind.loop k ws (m : Int) list share cost f cnt l) (upd f cnt ((solL m x (sols m (ws.drop (list.length + 1))) share cost e l).map (list ++ ·))) := by
      intro e
      induction e with
      | zero =>
        intro l f cnt he hl hc hb _
        refine Ev.succ ?_
        simp only [spec_beFind.loop]
        exact Ev.neg (by omega) (Ev.now _)
      | succ e ih =>
        intro l f cnt he hl hc hb hrd
        have hlx := mul_le_1100 (l := l) (by omega) hx0
        have hp := pow_small (m := m) (n := 11 - l) hm (by omega)
        have kp := krPower_ev m (11 - l) (by omega) (by omega) (by omega)
        rw [show ((11 - l : Nat) : Int) = 11 - (l : Int) by omega] at kp
        generalize hP : m ^ (11 - l) = P at hp kp
        have e1 : Aside0 (wrap64 (share - (P : Int)) = share - (P : Int)) := ⟨w64 (by omega) (by omega)⟩
        have e2 : Aside0 (wrap64 ((l : Int) * x) = (l : Int) * x) := ⟨w64 (by omega) (by omega)⟩
        generalize hL : (l : Int) * x = L at hlx e2
        have e3 : Aside0 (wrap64 (cost - L) = cost - L) := ⟨w64 (by omega) (by omega)⟩
        have hmul : (e + 1) * 11 ^ d = e * 11 ^ d + 11 ^ d := by rw [Nat.add_mul, Nat.one_mul]
        rw [hmul] at hb
        refine Ev.succ ?_
        simp only [spec_beFind.loop, hrd, hL, e1.out, e2.out, e3.out]
        rw [solL, hP, hL, List.map_append, upd_append f cnt hc]
        refine Ev.pos (by omega) (Ev.bind kp ?_)
        simp only [e1.out]
        by_cases c : 0 ≤ cost - L ∧ 0 ≤ share - (P : Int)
        · rw [if_pos c, map_pre]
          have hlen : ((((sols m (ws.drop (list.length + 1)) (share - (P : Int)) (cost - L)).map ((list ++ [(l : Int)]) ++ ·)).length : Nat) : Int) ≤ ((11 ^ d : Nat) : Int) := by
            rw [List.length_map]
            have h9 := sols_len m (ws.drop (list.length + 1)) (share - (P : Int)) (cost - L)
            rw [List.length_drop, show ws.length - (list.length + 1) = d by omega] at h9
            omega
          have h1 := seek_ev ws hw hx m hm d (list ++ [(l : Int)]) (share - (P : Int)) (cost - L) f cnt (by simp; omega) (by omega) (by omega) (by omega) (by omega) hc (by omega)
          rw [show (list ++ [(l : Int)]).length = list.length + 1 by simp] at h1
          refine Ev.bind h1 ?_
          have hu := upd_cnt f cnt ((sols m (ws.drop (list.length + 1)) (share - (P : Int)) (cost - L)).map ((list ++ [(l : Int)]) ++ ·))
          exact ih (l + 1) _ _ (by omega) (by omega) (by omega) (by omega) hrd
        · rw [if_neg c]
          refine Ev.bind (a := (f, cnt)) (Ev.succ ?_) ?_
          · simp only [spec_beFind.seek]
            by_cases c1 : cost - L < 0
            · exact Ev.pos c1 (Ev.now _)
            · exact Ev.neg c1 (Ev.pos (by omega) (Ev.now _))
          · exact ih (l + 1) f cnt (by omega) (by omega) hc (by omega) hrd
    refine Ev.succ ?_
    simp only [spec_beFind.seek]
    refine Ev.neg (by omega) (Ev.neg (by omega) (Ev.pos (by omega) (Ev.neg (by omega) ?_)))
    exact loop 11 1 f cnt (by omega) (by omega) n1 (by omega) hrd0
/-- the program's search -/
theorem add_ev (ws : List Int) (hw : ws.length ≤ 6) (hx : ∀ x ∈ ws, 1 ≤ x ∧ x ≤ 100) (m : Nat) (hm : 2 ≤ m ∧ m ≤ 3) (due : Int) (hdue : due ≤ 1000000) : ∀ (d : Nat) (done : List Int) (cost left : Int) (out : List (List Int)), done.length + d = ws.length → 0 ≤ left → left ≤ 1000000 → 0 ≤ cost → cost ≤ due → out.length + 11 ^ d ≤ 1000000000 →
    Ev (fun k => impl_allBest.add k ws due (m : Int) done cost left out) (out ++ (sols m (ws.drop done.length) left (due - cost)).map (done ++ ·))
  | 0, done, cost, left, out, hd, s1, s2, c1, c2, n2 => by
    refine Ev.succ ?_
    simp only [impl_allBest.add]
    refine Ev.pos (by omega) (Ev.pos (by omega) ?_)
    rw [List.drop_of_length_le (by omega)]
    by_cases e : cost = due
    · have hs : sols m [] left (due - cost) = [[]] := by rw [sols, if_pos (by omega)]
      rw [hs]
      simp only [List.map_cons, List.map_nil, List.append_nil]
      exact Ev.pos e (Ev.now _)
    · have hs : sols m [] left (due - cost) = [] := by rw [sols, if_neg (by omega)]
      rw [hs]
      exact Ev.neg e (Ev.pure (by simp))
  | d + 1, done, cost, left, out, hd, s1, s2, c1, c2, n2 => by
    have hi : done.length < ws.length := by omega
    have hx0 := rd_in ws done.length hi hx
    rw [drop_at ws done.length hi]
    generalize hrd0 : rd ws (done.length : Int) = x at hx0 ⊢
    have hN : (11 : Nat) ^ (d + 1) = 11 * 11 ^ d := by rw [Nat.pow_succ, Nat.mul_comm]
    have loop : ∀ (e l : Nat) (out : List (List Int)), l + e = 12 → 1 ≤ l → out.length + e * 11 ^ d ≤ 1000000000 → rd ws (done.length : Int) = x →
        Ev (fun k => impl_allBest.loop k ws due (m : Int) done cost left out l) (out ++ (solL m x (sols m (ws.drop (done.length + 1))) left (due - cost) e l).map (done ++ ·)) := by
      intro e
      induction e with
      | zero =>
        intro l out he hl hb _
        refine Ev.succ ?_
        simp only [impl_allBest.loop]
        exact Ev.neg (by omega) (Ev.pure (by simp [solL]))
      | succ e ih =>
        intro l out he hl hb hrd
        have hlx := mul_le_1100 (l := l) (by omega) hx0
        have hp := pow_small (m := m) (n := 11 - l) hm (by omega)
        have kp := power_ev m (11 - l) (by omega) (by omega) (by omega)
        rw [show ((11 - l : Nat) : Int) = 11 - (l : Int) by omega] at kp
        have hcomm : x * (l : Int) = (l : Int) * x := Int.mul_comm _ _
        have hmul : (e + 1) * 11 ^ d = e * 11 ^ d + 11 ^ d := by rw [Nat.add_mul, Nat.one_mul]
        rw [hmul] at hb
        have e2 : Aside0 (wrap64 ((l : Int) * x) = (l : Int) * x) := ⟨w64 (by omega) (by omega)⟩
        by_cases c0 : due - cost - (l : Int) * x < 0
        · rw [solL_nil m x (by omega) _ left (due - cost) (e + 1) l c0]
          have e3 : Aside0 (wrap64 (cost + (l : Int) * x) = cost + (l : Int) * x) := ⟨w64 (by omega) (by omega)⟩
          refine Ev.succ ?_
          simp only [impl_allBest.loop, hrd, hcomm, e2.out, e3.out]
          exact Ev.pos (by omega) (Ev.neg (by omega) (Ev.pure (by simp)))
        · generalize hP : m ^ (11 - l) = P at hp kp
          have e1 : Aside0 (wrap64 (left - (P : Int)) = left - (P : Int)) := ⟨w64 (by omega) (by omega)⟩
          generalize hL : (l : Int) * x = L at hlx e2 c0 hcomm
          have e3 : Aside0 (wrap64 (cost + L) = cost + L) := ⟨w64 (by omega) (by omega)⟩
          refine Ev.succ ?_
          simp only [impl_allBest.loop, hrd, hcomm, e2.out, e3.out]
          rw [solL, hP, hL, List.map_append, ← List.append_assoc]
          refine Ev.pos (by omega) (Ev.pos (by omega) (Ev.bind kp ?_))
          simp only [e1.out]
          by_cases c : (P : Int) ≤ left
          · rw [if_pos ⟨by omega, by omega⟩, map_pre]
            have hlen : ((sols m (ws.drop (done.length + 1)) (left - (P : Int)) (due - cost - L)).map ((done ++ [(l : Int)]) ++ ·)).length ≤ 11 ^ d := by
              rw [List.length_map]
              have h9 := sols_len m (ws.drop (done.length + 1)) (left - (P : Int)) (due - cost - L)
              rw [List.length_drop, show ws.length - (done.length + 1) = d by omega] at h9
              exact h9
            have h1 := add_ev ws hw hx m hm due hdue d (done ++ [(l : Int)]) (cost + L) (left - (P : Int)) out (by simp; omega) (by omega) (by omega) (by omega) (by omega) (by omega)
            rw [show (done ++ [(l : Int)]).length = done.length + 1 by simp, show due - (cost + L) = due - cost - L by omega] at h1
            refine Ev.pos c (Ev.bind h1 ?_)
            exact ih (l + 1) _ (by omega) (by omega) (by rw [List.length_append]; omega) hrd
          · rw [if_neg (by omega), List.map_nil, List.append_nil]
            exact Ev.neg c (ih (l + 1) out (by omega) (by omega) (by omega) hrd)
    refine Ev.succ ?_
    simp only [impl_allBest.add]
    have h9 : out.length ≤ 1000000000000 := by have : 1 ≤ 11 ^ (d + 1) := Nat.pow_pos (by omega); omega
    refine Ev.pos (by omega) (Ev.neg (by omega) ?_)
    exact loop 11 1 out (by omega) (by omega) (by omega) hrd0
/-- both find the same; what they find is not nothing -/
theorem search_same (l : List Int) (m : Nat) (h1 : 1 ≤ l.length) (hl : l.length ≤ 6) (hm : 2 ≤ m ∧ m ≤ 3) (hx : ∀ x ∈ l, 1 ≤ x ∧ x ≤ 100) : ∃ S : List (List Int), S ≠ [] ∧ (∀ t ∈ S, t.length = l.length) ∧ Ev (fun k => spec_beFind.f k l (m : Int)) (upd [] 0 S) ∧ Ev (fun k => impl_allBest.f k l (m : Int)) S := by
  obtain ⟨B, ps, b1, b2, b3, b4, p1, p2, p3, p4⟩ := best_fits l m h1 (by omega) hm hx
  have hp := pow_small (m := m) (n := 11) hm (by omega)
  have k1 := krPower_ev m 11 (by omega) (by omega) (by omega)
  have k2 := power_ev m 11 (by omega) (by omega) (by omega)
  have h6 : (11 : Nat) ^ l.length ≤ 1771561 := by
    have : (11 : Nat) ^ 6 = 1771561 := by decide
    rw [← this]
    exact Nat.pow_le_pow_right (by omega) hl
  have s1 := seek_ev l hl hx m hm l.length [] ((m ^ 11 : Nat) : Int) B [] 0 (by simp) (by omega) (by omega) b3 b4 (by omega) (by omega)
  have s2 := add_ev l hl hx m hm B b4 l.length [] 0 ((m ^ 11 : Nat) : Int) [] (by simp) (by omega) (by omega) (by omega) (by omega) (by simp; omega)
  have hmap : ∀ A : List (List Int), A.map (([] : List Int) ++ ·) = A := fun A => by simp
  rw [List.length_nil, List.drop_zero, hmap] at s1 s2
  rw [List.nil_append, Int.sub_zero] at s2
  have hmem := sols_mem m ps ((m ^ 11 : Nat) : Int) B p2 (fun p hp => by have := hx p.1 (by rw [← p1]; exact List.mem_map_of_mem hp); omega) (by omega) p4
  rw [p1] at hmem
  refine ⟨sols m l ((m ^ 11 : Nat) : Int) B, fun h => by rw [h] at hmem; simp at hmem, ?_, ?_, ?_⟩
  · exact fun t ht => sols_each m l _ _ t ht
  · unfold spec_beFind.f
    exact Ev.bind k1 (Ev.bind b1 s1)
  · unfold impl_allBest.f
    exact Ev.bind b2 (Ev.bind k2 s2)

theorem isSearched_ev (l : List Int) (hl : l.length ≤ 1048576) : Ev (fun k => impl_isSearched.f k l) ((decide (1 ≤ (l.length : Int) ∧ (l.length : Int) ≤ 12) && l.all fun x => decide (1 ≤ x ∧ x ≤ 100)) && decide ((l.length : Int) ≤ 6)) := by
  unfold impl_isSearched.f
  have a2 := impl_areWeights_ev l hl
  generalize (decide (1 ≤ (l.length : Int) ∧ (l.length : Int) ≤ 12) && l.all fun x => decide (1 ≤ x ∧ x ≤ 100)) = A at a2 ⊢
  cases A with
  | false => exact Ev.bind a2 (Ev.neg (by simp) (Ev.pure (by simp)))
  | true => exact Ev.bind a2 (Ev.pos rfl (Ev.pure (by simp)))
theorem fb_same (l : List Int) (m : Int) (hl : l.length ≤ 1048576) : ∃ r : List Int × Bool, Ev (fun k => spec_FirstBest.f k l m) r ∧ Ev (fun k => impl_FirstBest.f k l m) r ∧ r.1.length ≤ 1048576 := by
  unfold spec_FirstBest.f impl_FirstBest.f
  have a1 := beAsked_ev l m hl
  have a2 := isSearched_ev l hl
  have a3 := areLetters_eq m
  generalize hB : decide (2 ≤ m ∧ m ≤ 3) = B at a1 a3
  generalize hA : (decide (1 ≤ (l.length : Int) ∧ (l.length : Int) ≤ 12) && l.all fun x => decide (1 ≤ x ∧ x ≤ 100)) = A at a1 a2
  by_cases h6 : (l.length : Int) ≤ 6
  · rw [decide_eq_true h6, Bool.and_true] at a2
    cases A with
    | false => exact ⟨([], false), Ev.bind a1 (Ev.neg (by simp) (Ev.now _)), Ev.bind a2 (Ev.neg (by simp) (Ev.now _)), by simp⟩
    | true =>
      cases B with
      | false => exact ⟨([], false), Ev.bind a1 (Ev.neg (by simp) (Ev.now _)), Ev.bind a2 (Ev.pos rfl (Ev.known (fun _ => a3) (Ev.neg (by simp) (Ev.now _)))), by simp⟩
      | true =>
        simp only [Bool.and_eq_true, decide_eq_true_eq, List.all_eq_true] at hA hB
        obtain ⟨mn, rfl⟩ : ∃ n : Nat, m = (n : Int) := ⟨m.toNat, by omega⟩
        obtain ⟨S, hne, hlen, s1, s2⟩ := search_same l mn (by omega) (by omega) (by omega) hA.2
        match S, hne, hlen, s1, s2 with
        | a :: t, _, hlen, s1, s2 =>
          have ha := hlen a (by simp)
          have e0 : rd_L1 (a :: t) 0 = a := by simp [rd_L1]
          exact ⟨(a, true), Ev.bind a1 (Ev.pos rfl (Ev.neg (by omega) (Ev.bind s1 (Ev.pure (by simp [upd]))))), Ev.bind a2 (Ev.pos rfl (Ev.known (fun _ => a3) (Ev.pos rfl (Ev.bind s2 (Ev.pos (by simp) (Ev.pure (by rw [e0]))))))), by show a.length ≤ 1048576; omega⟩
  · rw [decide_eq_false h6, Bool.and_false] at a2
    refine ⟨([], false), Ev.bind a1 (Ev.cases (fun _ => Ev.pos (by omega) (Ev.now _)) (fun _ => Ev.now _)), Ev.bind a2 (Ev.neg (by simp) (Ev.now _)), by simp⟩
theorem FnExactFirstBest : laws_FnExactFirstBest.Pure := by
  intro l m _ _ _ _
  refine Ev.rounds ?_
  unfold laws_FnExactFirstBest.f
  refine Ev.cases (fun _ => Ev.now _) (fun hl => ?_)
  have hl' : l.length ≤ 1048576 := by omega
  obtain ⟨r, h1, h2, h3⟩ := fb_same l m hl'
  refine Ev.bind (toIntS_ev l hl') (Ev.bind h1 (Ev.bind (toIntS_ev l hl') (Ev.bind h2 (Ev.bind (eqIntS_ev r.1 (by omega)) (Ev.pos rfl ?_)))))
  refine Ev.succ ?_
  simp only [laws_FnExactFirstBest.j0]
  refine Ev.neg (by simp) (Ev.bind (toIntS_ev l hl') (Ev.bind (eqIntS_ev l hl') (Ev.pos rfl (Ev.bind (markI2_ev l hl') (Ev.neg (by omega) (Ev.bind (eqIntS_ev r.1 (by omega)) (Ev.pos rfl ?_)))))))
  refine Ev.succ ?_
  simp only [laws_FnExactFirstBest.j1]
  refine Ev.neg (by simp) (Ev.bind (markI2_ev r.1 (by omega)) (Ev.bind (heldI_ev r.1.length (by omega)) (Ev.neg (by omega) (Ev.pos rfl (Ev.bind (toIntS_ev l hl') (Ev.bind h2 (Ev.bind (eqIntS_ev r.1 (by omega)) (Ev.pos rfl ?_))))))))
  refine Ev.succ ?_
  simp only [laws_FnExactFirstBest.j2]
  exact Ev.neg (by simp) (Ev.bind (heldI_ev r.1.length (by omega)) (Ev.neg (by omega) (Ev.pos rfl (Ev.now _))))
end Go.Proofs.Ytihaiapnhkllfaa.Pure
