/- BestCost of the program and of the reference answer alike for all arguments, and leave them as they were: no condition. -/
import Derived.Test.YtklakacicmghiaaXFnExactBestCostx3
namespace Go.Proofs.Ytklakacicmghiaa.Pure
set_option linter.unusedSimpArgs false
set_option linter.unusedVariables false
open Go.RowKit Go.Proofs.Ytklakacicmghiaa.Hand Go.Proofs.Ytklakacicmghiaa.XFnExactBestCost Go.Proofs.YtklakacicmghiaaW.PrintWords Go.Proofs.YtklakacicmghiaaW.PrintLast Go.Proofs.YtklakacicmghiaaW.PrintMore

theorem w1 {i : Int} (h0 : 0 ≤ i) (h : i < 9223372036854775807) : wrap64 (i + 1) = i + 1 := by unfold wrap64; omega
theorem w64 {i : Int} (h0 : -9223372036854775808 ≤ i) (h : i < 9223372036854775808) : wrap64 i = i := by unfold wrap64; omega
theorem rd_nat (l : List Int) (i : Nat) (h : i < l.length) : rd l (i : Int) = l[i] := by
  unfold rd; simp [List.getD_eq_getElem?_getD, h]
theorem Ev.pos {α : Type} {c : Prop} [Decidable c] {g g' : Nat → Option α} {r : α} (h : c) (k : Ev g r) : Ev (fun n => if c then g n else g' n) r :=
  Ev.congr (fun n => if_pos h) k
theorem Ev.neg {α : Type} {c : Prop} [Decidable c] {g g' : Nat → Option α} {r : α} (h : ¬ c) (k : Ev g' r) : Ev (fun n => if c then g n else g' n) r :=
  Ev.congr (fun n => if_neg h) k
theorem Ev.cases {α : Type} {c : Prop} [Decidable c] {g g' : Nat → Option α} {r : α} (h : c → Ev g r) (k : ¬ c → Ev g' r) : Ev (fun n => if c then g n else g' n) r := by
  by_cases e : c
  · exact Ev.pos e (h e)
  · exact Ev.neg e (k e)
/-- a call whose answer is known at every number of rounds -/
theorem Ev.known {α β : Type} {g : Nat → Option α} {f : Nat → α → Option β} {a : α} {r : β} (h : ∀ n, g n = some a) (k : Ev (fun n => f n a) r) : Ev (fun n => (g n).bind (f n)) r :=
  Ev.bind ⟨0, fun n _ => h n⟩ k
/-- one bind of two, joined with what follows -/
theorem Ev.pure {α : Type} {r q : α} (h : r = q) : Ev (fun _ => some r) q := h ▸ Ev.now r
theorem Ev.succ {α : Type} {g : Nat → Option α} {r : α} (h : Ev (fun k => g (k + 1)) r) : Ev g r := Ev.step (f := fun k => g (k + 1)) (fun _ => rfl) h

theorem toIntS_l0 (l : List Int) (hl : l.length ≤ 1048576) : ∀ (d i : Nat) (xs : List Int), i + d = l.length → xs.length = l.length → xs.take i = l.take i → Ev (fun k => laws_toIntS.l0 k l xs (i : Int)) l
  | 0, i, xs, hd, hx, ht => by
    refine Ev.step (f := fun _ => some xs) (fun k => ?_) (Ev.pure ?_)
    · simp only [laws_toIntS.l0]; rw [if_neg (by omega)]
    · rw [List.take_of_length_le (by omega), List.take_of_length_le (by omega)] at ht; exact ht
  | d + 1, i, xs, hd, hx, ht => by
    refine Ev.step (f := fun k => laws_toIntS.l0 k l (xs.set i (rd l i)) ((i + 1 : Nat) : Int)) (fun k => ?_) (toIntS_l0 l hl d (i + 1) _ (by omega) (by simp [hx]) ?_)
    · simp only [laws_toIntS.l0]; rw [if_pos (by omega), if_pos (by omega), if_pos (by omega), w1 (by omega) (by omega)]; simp
    · have h1 : i < l.length := by omega
      have h2 : i < (xs.set i (rd l i)).length := by simp; omega
      have e := rd_nat l i h1
      rw [List.take_succ_eq_append_getElem h2, List.take_succ_eq_append_getElem h1, List.take_set, List.set_eq_of_length_le (by simp; omega), ht]
      simp [e]
theorem toIntS_ev (l : List Int) (hl : l.length ≤ 1048576) : Ev (fun k => laws_toIntS.f k l) l := by
  unfold laws_toIntS.f
  refine Ev.pos (by omega) (Ev.pos (by omega) ?_)
  have h := toIntS_l0 l hl l.length 0 (List.replicate l.length 0) (by omega) (by simp) (by simp)
  simpa using h
theorem eqIntS_l0 (l : List Int) (hl : l.length ≤ 1048576) : ∀ (d i : Nat), i + d = l.length → Ev (fun k => laws_eqIntS.l0 k l l (i : Int)) true
  | 0, i, hd => Ev.step (f := fun _ => some true) (fun k => by simp only [laws_eqIntS.l0]; rw [if_neg (by omega)]) (Ev.now _)
  | d + 1, i, hd => by
    refine Ev.step (f := fun k => laws_eqIntS.l0 k l l ((i + 1 : Nat) : Int)) (fun k => ?_) (eqIntS_l0 l hl d (i + 1) (by omega))
    simp only [laws_eqIntS.l0]; rw [if_pos (by omega), if_pos (by omega), if_pos (by omega), if_pos trivial, w1 (by omega) (by omega)]; simp
theorem eqIntS_ev (l : List Int) (hl : l.length ≤ 1048576) : Ev (fun k => laws_eqIntS.f k l l) true := by
  unfold laws_eqIntS.f
  exact Ev.pos rfl (by simpa using eqIntS_l0 l hl l.length 0 (by omega))


theorem spec_in (a b c : Int) : spec_l1In.f a b c = some (decide (b ≤ a ∧ a ≤ c)) := by
  unfold spec_l1In.f
  by_cases h : a ≥ b
  · rw [if_pos h]; simp [h]
  · rw [if_neg h]; simp; omega

theorem spec_all_l0 (a b : Int) (l : List Int) (hl : l.length ≤ 1048576) : ∀ (d i : Nat), i + d = l.length → Ev (fun k => spec_l1All.l0 k a b l (l.length : Int) (i : Int)) ((l.drop i).all fun x => decide (a ≤ x ∧ x ≤ b))
  | 0, i, hd => Ev.step (f := fun _ => some true) (fun k => by simp only [spec_l1All.l0]; rw [if_neg (by omega)]) (Ev.pure (by rw [List.drop_of_length_le (by omega)]; rfl))
  | d + 1, i, hd => by
    have h1 : i < l.length := by omega
    have ih := spec_all_l0 a b l hl d (i + 1) (by omega)
    rw [List.drop_eq_getElem_cons h1, List.all_cons]
    refine Ev.step (f := fun k => if (decide (a ≤ l[i] ∧ l[i] ≤ b)) = true then spec_l1All.l0 k a b l (l.length : Int) ((i + 1 : Nat) : Int) else some false) (fun k => ?_) ?_
    · simp only [spec_l1All.l0, spec_in]; rw [if_pos (by omega), if_pos (by omega), if_pos (by omega), w1 (by omega) (by omega), rd_nat l i h1]; simp
    · refine Ev.cases (fun h => ?_) (fun h => ?_)
      · rw [h, Bool.true_and]; exact ih
      · rw [Bool.eq_false_iff.mpr h, Bool.false_and]; exact Ev.now _
theorem spec_all (l : List Int) (a b : Int) (hl : l.length ≤ 1048576) : Ev (fun k => spec_l1All.f k l a b) (l.all fun x => decide (a ≤ x ∧ x ≤ b)) := by
  have h := spec_all_l0 a b l hl l.length 0 (by omega)
  simpa [spec_l1All.f] using h

theorem impl_in_eq (a b c : Int) : impl_in.f a b c = some (decide (b ≤ a ∧ a ≤ c)) := by
  unfold impl_in.f
  by_cases h : b ≤ a
  · rw [if_pos h]; simp [h]
  · rw [if_neg h]; simp [h]

theorem impl_areWeights__1_l0 (l : List Int) (hl : l.length ≤ 1048576) : ∀ (d i : Nat), i + d = l.length → ∃ r, Ev (fun k => slices_IndexFunc_int_int__at_impl_areWeights__1.l0 k l (l.length : Int) (i : Int)) r ∧ decide (r ≥ 0) = (l.drop i).any fun x => !decide (1 ≤ x ∧ x ≤ 100)
  | 0, i, hd => ⟨-1, Ev.step (f := fun _ => some (-1)) (fun k => by simp only [slices_IndexFunc_int_int__at_impl_areWeights__1.l0]; rw [if_neg (by omega)]) (Ev.now _), by rw [List.drop_of_length_le (by omega)]; rfl⟩
  | d + 1, i, hd => by
    have h1 : i < l.length := by omega
    obtain ⟨r, ih, hr⟩ := impl_areWeights__1_l0 l hl d (i + 1) (by omega)
    have hs : ∀ k, slices_IndexFunc_int_int__at_impl_areWeights__1.l0 (k + 1) l (l.length : Int) (i : Int) = if (!decide (1 ≤ l[i] ∧ l[i] ≤ 100)) = true then some (i : Int) else slices_IndexFunc_int_int__at_impl_areWeights__1.l0 k l (l.length : Int) ((i + 1 : Nat) : Int) := by
      intro k
      simp only [slices_IndexFunc_int_int__at_impl_areWeights__1.l0, impl_areWeights__1.f, impl_in_eq]; rw [if_pos (by omega), if_pos (by omega), if_pos (by omega), w1 (by omega) (by omega), rd_nat l i h1]; simp
    rw [List.drop_eq_getElem_cons h1, List.any_cons]
    by_cases h : (!decide (1 ≤ l[i] ∧ l[i] ≤ 100)) = true
    · exact ⟨i, Ev.step hs (Ev.pos h (Ev.now _)), by rw [h]; simp⟩
    · exact ⟨r, Ev.step hs (Ev.neg h ih), by rw [hr, Bool.eq_false_iff.mpr h, Bool.false_or]⟩
theorem impl_areWeights__1_contains (l : List Int) (hl : l.length ≤ 1048576) : Ev (fun k => slices_ContainsFunc_int_int__at_impl_areWeights__1.f k l) (l.any fun x => !decide (1 ≤ x ∧ x ≤ 100)) := by
  obtain ⟨r, h, hr⟩ := impl_areWeights__1_l0 l hl l.length 0 (by omega)
  unfold slices_ContainsFunc_int_int__at_impl_areWeights__1.f slices_IndexFunc_int_int__at_impl_areWeights__1.f
  refine Ev.bind (by simpa using h) (Ev.pure ?_)
  simpa using hr
theorem impl_areWeights_ev (l : List Int) (hl : l.length ≤ 1048576) : Ev (fun k => impl_areWeights.f k l) (decide (1 ≤ (l.length : Int) ∧ (l.length : Int) ≤ 12) && l.all fun x => decide (1 ≤ x ∧ x ≤ 100)) := by
  unfold impl_areWeights.f
  refine Ev.known (fun n => impl_in_eq _ _ _) (Ev.cases (fun h => ?_) (fun h => ?_))
  · refine Ev.bind (impl_areWeights__1_contains l hl) (Ev.pure ?_)
    rw [h, Bool.true_and, List.any_eq_not_all_not, Bool.not_not]; simp
  · refine Ev.pure ?_
    rw [Bool.eq_false_iff.mpr h, Bool.false_and]

theorem beWeights_ev (l : List Int) (hl : l.length ≤ 1048576) : Ev (fun k => spec_beWeights.f k l) (decide (1 ≤ (l.length : Int) ∧ (l.length : Int) ≤ 12) && l.all fun x => decide (1 ≤ x ∧ x ≤ 100)) := by
  unfold spec_beWeights.f
  refine Ev.known (fun n => spec_in _ _ _) (Ev.cases (fun h => ?_) (fun h => ?_))
  · exact Ev.bind (spec_all l _ _ hl) (Ev.pure (by rw [h, Bool.true_and]))
  · exact Ev.pure (by rw [Bool.eq_false_iff.mpr h, Bool.false_and])

/-- a loop from the first place to the last one, with what is so at each place -/
theorem Ev.loop {R : Type} (g : Nat → Nat → Option R) (n : Nat) (r : R) (hstep : ∀ i, i < n → Ev (g (i + 1)) r → Ev (g i) r) (hend : Ev (g n) r) : Ev (g 0) r := by
  have h : ∀ d i, i + d = n → Ev (g i) r := by
    intro d
    induction d with
    | zero => intro i hi; rw [show i = n by omega]; exact hend
    | succ d ih => intro i hi; exact hstep i (by omega) (ih (i + 1) (by omega))
  exact h n 0 (by omega)

theorem sortI_up (l : List Int) : (sortI l).Pairwise fun x y => x ≤ y := by
  have h := List.pairwise_mergeSort (le := fun x y : Int => decide (x ≤ y)) (fun a b c h1 h2 => by simp at h1 h2 ⊢; omega) (fun a b => by simp; omega) l
  exact h.imp fun {a b} h => by simpa using h
theorem sortI_perm (l : List Int) : (sortI l).Perm l := List.mergeSort_perm l _
theorem up_unique {a b : List Int} (ha : a.Pairwise fun x y => x ≤ y) (hb : b.Pairwise fun x y => x ≤ y) (h : a.Perm b) : a = b :=
  List.Perm.eq_of_pairwise (le := fun x y : Int => x ≤ y) (fun x y _ _ h1 h2 => by omega) ha hb h
theorem sortI_of {a b : List Int} (ha : a.Pairwise fun x y => x ≤ y) (h : a.Perm b) : a = sortI b := up_unique ha (sortI_up b) (h.trans (sortI_perm b).symm)
theorem sortI_len (l : List Int) : (sortI l).length = l.length := (sortI_perm l).length_eq
theorem sortI_nil : sortI [] = [] := (sortI_of (by simp) (List.Perm.refl _)).symm

theorem l1Own_ev (l : List Int) (h : l.length ≤ 1048576) : spec_l1Own.f l = some l := by
  unfold spec_l1Own.f
  rw [Option.bind_some, if_pos (by simp; omega)]
  simp
/-- putting a number into an ordered list -/
theorem bePut_l0 (L : List Int) (x : Int) (hL : L.length ≤ 1000) (hu : L.Pairwise fun x y => x ≤ y) : ∀ (d i : Nat), i + d = L.length → (∀ j (h : j < L.length), j < i → L[j] ≤ x) → Ev (fun k => spec_bePut.l0 k L x (i : Int)) (sortI (L ++ [x])) := by
  have fin : ∀ i, i ≤ L.length → (∀ j (h : j < L.length), j < i → L[j] ≤ x) → (∀ j (h : j < L.length), i ≤ j → x ≤ L[j]) → L.take i ++ [x] ++ L.drop i = sortI (L ++ [x]) := by
    intro i hi h1 h2
    refine sortI_of ?_ ?_
    · rw [List.pairwise_append, List.pairwise_append]
      refine ⟨⟨hu.sublist (List.take_sublist _ _), by simp, ?_⟩, hu.sublist (List.drop_sublist _ _), ?_⟩
      · intro a ha b hb
        rw [List.mem_singleton] at hb
        subst hb
        obtain ⟨j, hj, rfl⟩ := List.getElem_of_mem ha
        rw [List.length_take] at hj
        rw [List.getElem_take]
        exact h1 j (by omega) (by omega)
      · intro a ha b hb
        obtain ⟨j, hj, rfl⟩ := List.getElem_of_mem hb
        rw [List.length_drop] at hj
        rw [List.getElem_drop]
        have hb' := h2 (i + j) (by omega) (by omega)
        rcases List.mem_append.1 ha with ha | ha
        · obtain ⟨j', hj', rfl⟩ := List.getElem_of_mem ha
          rw [List.length_take] at hj'
          rw [List.getElem_take]
          have := h1 j' (by omega) (by omega)
          omega
        · rw [List.mem_singleton] at ha
          subst ha
          exact hb'
    · have e : (L ++ [x]).Perm (L.take i ++ L.drop i ++ [x]) := by rw [List.take_append_drop]
      refine List.Perm.trans ?_ e.symm
      rw [List.append_assoc, List.append_assoc]
      exact List.Perm.append_left _ List.perm_append_comm
  intro d
  induction d with
  | zero =>
    intro i hd h1
    have hf := fin i (by omega) h1 (fun j hj h => by omega)
    refine Ev.succ ?_
    simp only [spec_bePut.l0, Int.toNat_natCast]
    refine Ev.neg (by omega) (Ev.pos (by omega) (Ev.pos (by omega) (Ev.known (fun _ => l1Own_ev _ (by rw [List.length_take]; omega)) (Ev.pos (by rw [List.length_take]; omega) (Ev.known (fun _ => rfl) (Ev.pos (by simp; omega) (Ev.pure hf)))))))
  | succ d ih =>
    intro i hd h1
    have hi : i < L.length := by omega
    refine Ev.succ ?_
    simp only [spec_bePut.l0, Int.toNat_natCast, rd_nat L i hi, w1 (show 0 ≤ (i : Int) by omega) (show (i : Int) < 9223372036854775807 by omega)]
    refine Ev.pos (by omega) (Ev.pos (by omega) (Ev.cases (fun h => ?_) (fun h => ?_)))
    · exact ih (i + 1) (by omega) (fun j hj hji => by
        by_cases e : j = i
        · subst e; exact h
        · exact h1 j hj (by omega))
    · have hf := fin i (by omega) h1 (fun j hj hij => by
        by_cases e : j = i
        · subst e; omega
        · have := List.pairwise_iff_getElem.1 hu i j hi hj (by omega)
          omega)
      exact Ev.pos (by omega) (Ev.known (fun _ => l1Own_ev _ (by rw [List.length_take]; omega)) (Ev.pos (by rw [List.length_take]; omega) (Ev.known (fun _ => rfl) (Ev.pos (by simp; omega) (Ev.pure hf)))))
theorem bePut_ev (L : List Int) (x : Int) (hL : L.length ≤ 1000) (hu : L.Pairwise fun x y => x ≤ y) : Ev (fun k => spec_bePut.f k L x) (sortI (L ++ [x])) :=
  bePut_l0 L x hL hu L.length 0 (by omega) (fun j _ h => by omega)
theorem sortI_put (l : List Int) (x : Int) : sortI (sortI l ++ [x]) = sortI (l ++ [x]) :=
  (sortI_of (sortI_up _) ((sortI_perm _).trans ((sortI_perm l).append_right [x])))

theorem beMerge_l2 (many : Int) (list out : List Int) (take : Nat) (r : List Int) (ht : take ≤ list.length) (hl : list.length ≤ 1000) (ys : List Int) (hys : ys.length ≤ 1000) (S : Int)
    (next : Ev (fun k => (spec_bePut.f k (list.drop take) S).bind fun t159 => (if out.length < 17592186044416 then (spec_beMerge.l1 k many t159 (out ++ [S]) many) else none)) r) :
    ∀ (d j : Nat) (s : Int), j + d = ys.length → sumW (ys.drop j) s = S → Ev (fun k => spec_beMerge.l2 k many list out (take : Int) s ys (ys.length : Int) (j : Int)) r
  | 0, j, s, hd, hs => by
    rw [List.drop_of_length_le (by omega), sumW] at hs
    subst hs
    refine Ev.succ ?_
    simp only [spec_beMerge.l2, Int.toNat_natCast]
    exact Ev.neg (by omega) (Ev.pos (by omega) (Ev.pos (by omega) next))
  | d + 1, j, s, hd, hs => by
    have hj : j < ys.length := by omega
    rw [List.drop_eq_getElem_cons hj, sumW] at hs
    have ih := beMerge_l2 many list out take r ht hl ys hys S next d (j + 1) _ (by omega) hs
    refine Ev.succ ?_
    simp only [spec_beMerge.l2, rd_nat ys j hj, w1 (show 0 ≤ (j : Int) by omega) (show (j : Int) < 9223372036854775807 by omega)]
    exact Ev.pos (by omega) (Ev.pos (by omega) (Ev.pos (by omega) ih))
/-- how many are taken -/
def TakeOk (many take n : Nat) : Prop := (many = 2 ∧ take = 2) ∨ (many = 3 ∧ ((take = 2 ∧ n % 2 = 0) ∨ (take = 3 ∧ n % 2 = 1)))
theorem merge_loop (many : Nat) : ∀ (n : Nat) (list out : List Int) (take : Nat), list.length ≤ n → list.length ≤ 12 → out.length + list.length ≤ 12 → list.Pairwise (fun x y => x ≤ y) → TakeOk many take list.length →
    ∃ r, Ev (fun k => spec_beMerge.l1 k (many : Int) list out (take : Int)) r ∧ Ev (fun k => impl_mergeRun.l0 k many list out take) r ∧ r.length ≤ 12
  | 0, list, out, take, hn, hl, ho, hu, ht => by
    refine ⟨out, Ev.succ ?_, Ev.succ ?_, by omega⟩
    · simp only [spec_beMerge.l1]; exact Ev.neg (by omega) (Ev.now _)
    · simp only [impl_mergeRun.l0]; exact Ev.neg (by omega) (Ev.now _)
  | n + 1, list, out, take, hn, hl, ho, hu, ht => by
    by_cases h1 : 1 < list.length
    · have htk : 2 ≤ take ∧ take ≤ list.length := by
        rcases ht with ⟨a, b⟩ | ⟨a, ⟨b, c⟩ | ⟨b, c⟩⟩ <;> omega
      obtain ⟨S, hS⟩ : ∃ S, S = sumW (list.take take) 0 := ⟨_, rfl⟩
      have hlen : (sortI (list.drop take ++ [S])).length = list.length - take + 1 := by rw [sortI_len]; simp
      have htk' : TakeOk many many (list.length - take + 1) := by
        rcases ht with ⟨a, b⟩ | ⟨a, ⟨b, c⟩ | ⟨b, c⟩⟩
        · exact Or.inl ⟨a, by omega⟩
        · exact Or.inr ⟨a, Or.inr ⟨a, by omega⟩⟩
        · exact Or.inr ⟨a, Or.inr ⟨a, by omega⟩⟩
      obtain ⟨r, r1, r2, r3⟩ := merge_loop many n (sortI (list.drop take ++ [S])) (out ++ [S]) many (by omega) (by omega) (by simp; omega) (sortI_up _) (by rw [hlen]; exact htk')
      refine ⟨r, Ev.succ ?_, Ev.succ ?_, r3⟩
      · simp only [spec_beMerge.l1, Int.toNat_natCast, Option.bind_some]
        refine Ev.pos (by omega) (Ev.pos (by omega) (Ev.pos (by omega) ?_))
        have hput := bePut_ev (list.drop take) S (by rw [List.length_drop]; omega) (hu.sublist (List.drop_sublist _ _))
        exact beMerge_l2 (many : Int) list out take r htk.2 (by omega) (list.take take) (by rw [List.length_take]; omega) S (Ev.bind hput (Ev.pos (by omega) r1)) (list.take take).length 0 0 (by omega) (by rw [List.drop_zero, hS])
      · simp only [impl_mergeRun.l0]
        rw [hS] at r2
        exact Ev.pos h1 (Ev.pos (by omega) r2)
    · refine ⟨out, Ev.succ ?_, Ev.succ ?_, by omega⟩
      · simp only [spec_beMerge.l1]; exact Ev.neg (by omega) (Ev.now _)
      · simp only [impl_mergeRun.l0]; exact Ev.neg (by omega) (Ev.now _)
theorem beMerge_l0 (l : List Int) (many : Int) (hl : l.length ≤ 12) (r : List Int) (next : Ev (fun k => (if many = 3 then (spec_beMerge.j1 k many (sortI l) ([] : List Int) many ((((sortI l).length : Int) % 2) == 0)) else (spec_beMerge.j1 k many (sortI l) ([] : List Int) many false))) r) : Ev (fun k => spec_beMerge.f k l many) r := by
  unfold spec_beMerge.f
  have s0 : ([] : List Int) = sortI (l.take 0) := by rw [List.take_zero, sortI_nil]
  rw [s0]
  refine Ev.loop (fun i k => spec_beMerge.l0 k many (sortI (l.take i)) l (l.length : Int) (i : Int)) l.length _ (fun i hi hnext => ?_) ?_
  · have hput := bePut_ev (sortI (l.take i)) l[i] (by rw [sortI_len, List.length_take]; omega) (sortI_up _)
    rw [sortI_put, List.take_append_getElem hi] at hput
    refine Ev.succ ?_
    simp only [spec_beMerge.l0, rd_nat l i hi, w1 (show 0 ≤ (i : Int) by omega) (show (i : Int) < 9223372036854775807 by omega)]
    exact Ev.pos (by omega) (Ev.pos (by omega) (Ev.pos (by omega) (Ev.bind hput hnext)))
  · refine Ev.succ ?_
    simp only [spec_beMerge.l0]
    rw [List.take_of_length_le (Nat.le_refl _)]
    exact Ev.neg (by omega) next
theorem merge_same (l : List Int) (many : Int) (h1 : 1 ≤ l.length) (hl : l.length ≤ 12) (hm : 2 ≤ many ∧ many ≤ 3) : ∃ r, Ev (fun k => spec_beMerge.f k l many) r ∧ Ev (fun k => impl_mergeRun.f k l many) r ∧ r.length ≤ 12 := by
  obtain ⟨m, rfl⟩ : ∃ m : Nat, many = (m : Int) := ⟨many.toNat, by omega⟩
  obtain ⟨t, ht⟩ : ∃ t : Nat, t = if (m : Int) = 3 ∧ l.length % 2 = 0 then 2 else m := ⟨_, rfl⟩
  have hlen := sortI_len l
  have htk : TakeOk m t (sortI l).length := by
    rw [hlen, ht]
    unfold TakeOk
    by_cases c : (m : Int) = 3 ∧ l.length % 2 = 0
    · rw [if_pos c]; omega
    · rw [if_neg c]; omega
  obtain ⟨r, r1, r2, r3⟩ := merge_loop m 12 (sortI l) [] t (by omega) (by omega) (by simp; omega) (sortI_up l) htk
  refine ⟨r, beMerge_l0 l (m : Int) hl r (Ev.cases (fun c => Ev.succ ?_) (fun c => Ev.succ ?_)), ?_, r3⟩
  · simp only [spec_beMerge.j1]
    refine Ev.cases (fun c2 => Ev.succ ?_) (fun c2 => Ev.succ ?_)
    · simp only [spec_beMerge.j2]
      rw [beq_iff_eq, hlen] at c2
      rw [if_pos ⟨c, by omega⟩] at ht
      subst ht
      exact r1
    · simp only [spec_beMerge.j2]
      rw [beq_iff_eq, hlen] at c2
      rw [if_neg (fun h => c2 (by omega))] at ht
      subst ht
      exact r1
  · simp only [spec_beMerge.j1]
    refine Ev.neg (by simp) (Ev.succ ?_)
    simp only [spec_beMerge.j2]
    rw [if_neg (fun h => c h.1)] at ht
    subst ht
    exact r1
  · unfold impl_mergeRun.f
    rw [Int.toNat_natCast, ← ht]
    exact Ev.pos (by omega) r2
theorem beAsked_ev (l : List Int) (m : Int) (hl : l.length ≤ 1048576) : Ev (fun k => spec_beAsked.f k l m) (decide (2 ≤ m ∧ m ≤ 3) && (decide (1 ≤ (l.length : Int) ∧ (l.length : Int) ≤ 12) && l.all fun x => decide (1 ≤ x ∧ x ≤ 100))) := by
  unfold spec_beAsked.f spec_krLetters.f
  refine Ev.known (fun _ => by rw [spec_in, Option.bind_some]) (Ev.cases (fun h => ?_) (fun h => ?_))
  · exact Ev.bind (beWeights_ev l hl) (Ev.pure (by rw [h, Bool.true_and]))
  · exact Ev.pure (by rw [Bool.eq_false_iff.mpr h, Bool.false_and])
theorem areLetters_eq (m : Int) : impl_areLetters.f m = some (decide (2 ≤ m ∧ m ≤ 3)) := by
  unfold impl_areLetters.f
  rw [impl_in_eq, Option.bind_some]

theorem bestSum (ys : List Int) (hl : ys.length ≤ 1000) : ∀ (d i : Nat) (s : Int), i + d = ys.length → ∃ r, Ev (fun k => spec_beBest.l0 k s ys (ys.length : Int) (i : Int)) r ∧ Ev (fun k => impl_bestCost.l0 k s ys (ys.length : Int) (i : Int)) r
  | 0, i, s, hd => ⟨s, Ev.succ (by simp only [spec_beBest.l0]; exact Ev.neg (by omega) (Ev.now _)), Ev.succ (by simp only [impl_bestCost.l0]; exact Ev.neg (by omega) (Ev.now _))⟩
  | d + 1, i, s, hd => by
    obtain ⟨r, h1, h2⟩ := bestSum ys hl d (i + 1) (wrap64 (s + (rd ys i))) (by omega)
    have wi := w1 (show 0 ≤ (i : Int) by omega) (show (i : Int) < 9223372036854775807 by omega)
    refine ⟨r, Ev.succ ?_, Ev.succ ?_⟩
    · simp only [spec_beBest.l0, wi]; exact Ev.pos (by omega) (Ev.pos (by omega) (Ev.pos (by omega) h1))
    · simp only [impl_bestCost.l0, wi]; exact Ev.pos (by omega) (Ev.pos (by omega) (Ev.pos (by omega) h2))
theorem best_same (l : List Int) (m : Int) (h1 : 1 ≤ l.length) (hl : l.length ≤ 12) (hm : 2 ≤ m ∧ m ≤ 3) : ∃ r, Ev (fun k => spec_beBest.f k l m) r ∧ Ev (fun k => impl_bestCost.f k l m) r := by
  unfold spec_beBest.f impl_bestCost.f
  by_cases e : l.length = 1
  · exact ⟨rd l 0, Ev.pos (by omega) (Ev.pos (by omega) (Ev.now _)), Ev.pos (by omega) (Ev.pos (by omega) (Ev.now _))⟩
  · obtain ⟨r, r1, r2, r3⟩ := merge_same l m h1 hl hm
    obtain ⟨s, s1, s2⟩ := bestSum r (by omega) r.length 0 0 (by omega)
    exact ⟨s, Ev.neg (by omega) (Ev.bind r1 s1), Ev.neg (by omega) (Ev.bind r2 s2)⟩

theorem bc_same (l : List Int) (m : Int) (hl : l.length ≤ 1048576) : ∃ r, Ev (fun k => spec_BestCost.f k l m) r ∧ Ev (fun k => impl_BestCost.f k l m) r := by
  unfold spec_BestCost.f impl_BestCost.f
  have a1 := beAsked_ev l m hl
  have a2 := impl_areWeights_ev l hl
  have a3 := areLetters_eq m
  generalize hB : decide (2 ≤ m ∧ m ≤ 3) = B at a1 a3
  generalize hA : (decide (1 ≤ (l.length : Int) ∧ (l.length : Int) ≤ 12) && l.all fun x => decide (1 ≤ x ∧ x ≤ 100)) = A at a1 a2
  cases A with
  | false => exact ⟨(0, false), Ev.bind a1 (Ev.neg (by simp) (Ev.now _)), Ev.bind a2 (Ev.neg (by simp) (Ev.now _))⟩
  | true =>
    cases B with
    | false => exact ⟨(0, false), Ev.bind a1 (Ev.neg (by simp) (Ev.now _)), Ev.bind a2 (Ev.pos rfl (Ev.known (fun _ => a3) (Ev.neg (by simp) (Ev.now _))))⟩
    | true =>
      have hn : 1 ≤ l.length ∧ l.length ≤ 12 := by simp only [Bool.and_eq_true, decide_eq_true_eq] at hA; omega
      obtain ⟨r, r1, r2⟩ := best_same l m hn.1 hn.2 (by simpa using hB)
      exact ⟨(r, true), Ev.bind a1 (Ev.pos rfl (Ev.bind r1 (Ev.now _))), Ev.bind a2 (Ev.pos rfl (Ev.known (fun _ => a3) (Ev.pos rfl (Ev.bind r2 (Ev.now _)))))⟩
theorem FnExactBestCost : laws_FnExactBestCost.Pure := by
  intro l m _ _ _ _
  refine Ev.rounds ?_
  unfold laws_FnExactBestCost.f
  refine Ev.cases (fun _ => Ev.now _) (fun hl => ?_)
  have hl' : l.length ≤ 1048576 := by omega
  obtain ⟨r, h1, h2⟩ := bc_same l m hl'
  refine Ev.bind (toIntS_ev l hl') (Ev.bind h1 (Ev.bind (toIntS_ev l hl') (Ev.bind h2 (Ev.pos rfl ?_))))
  refine Ev.succ ?_
  simp only [laws_FnExactBestCost.j0]
  refine Ev.neg (by simp) ?_
  exact Ev.bind (toIntS_ev l hl') (Ev.bind (eqIntS_ev l hl') (Ev.pos rfl (Ev.now _)))
end Go.Proofs.Ytklakacicmghiaa.Pure
