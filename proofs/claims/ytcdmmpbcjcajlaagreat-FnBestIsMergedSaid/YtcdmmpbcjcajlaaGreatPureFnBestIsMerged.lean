/- The best lengths, their cost, their words and the merged sums are what the law says, at all inputs: no condition. -/
import Derived.Test.YtcdmmpbcjcajlaaGreatXFnBestIsMergedx12
namespace Go.Proofs.YtcdmmpbcjcajlaaGreat.Pure
set_option linter.unusedSimpArgs false
set_option linter.unusedVariables false
open Go.RowKit Go.Proofs.YtcdmmpbcjcajlaaGreat.Hand Go.Proofs.YtcdmmpbcjcajlaaGreat.XFnBestIsMerged Go.Proofs.YtcdmmpbcjcajlaaGreatW.PrintWords Go.Proofs.YtcdmmpbcjcajlaaGreatW.PrintLast Go.Proofs.YtcdmmpbcjcajlaaGreatW.PrintMore
theorem w1 {i : Int} (h0 : 0 ≤ i) (h : i < 9223372036854775807) : wrap64 (i + 1) = i + 1 := by unfold wrap64; omega
theorem w64 {i : Int} (h0 : -9223372036854775808 ≤ i) (h : i < 9223372036854775808) : wrap64 i = i := by unfold wrap64; omega
theorem rd_nat (l : List Int) (i : Nat) (h : i < l.length) : rd l (i : Int) = l[i] := by
  unfold rd; simp [List.getD_eq_getElem?_getD, h]
theorem Ev.pos {α : Type} {c : Prop} [Decidable c] {g g' : Nat → Option α} {r : α} (h : c) (k : Ev g r) : Ev (fun n => if c then g n else g' n) r :=
  Ev.congr (fun n => if_pos h) k
theorem Ev.neg {α : Type} {c : Prop} [Decidable c] {g g' : Nat → Option α} {r : α} (h : ¬ c) (k : Ev g' r) : Ev (fun n => if c then g n else g' n) r :=
  Ev.congr (fun n => if_neg h) k
theorem Ev.cases {α : Type} {c : Prop} [Decidable c] {g g' : Nat → Option α} {r : α} (h : c → Ev g r) (k : ¬ c → Ev g' r) : Ev (fun n => if c then g n else g' n) r := by
  by_cases e : c
  · exact Ev.pos e (h e)
  · exact Ev.neg e (k e)
theorem Ev.known {α β : Type} {g : Nat → Option α} {f : Nat → α → Option β} {a : α} {r : β} (h : ∀ n, g n = some a) (k : Ev (fun n => f n a) r) : Ev (fun n => (g n).bind (f n)) r :=
  Ev.bind ⟨0, fun n _ => h n⟩ k
theorem Ev.pure {α : Type} {r q : α} (h : r = q) : Ev (fun _ => some r) q := h ▸ Ev.now r
theorem Ev.succ {α : Type} {g : Nat → Option α} {r : α} (h : Ev (fun k => g (k + 1)) r) : Ev g r := Ev.step (f := fun k => g (k + 1)) (fun _ => rfl) h
theorem spec_in (a b c : Int) : spec_l1In.f a b c = some (decide (b ≤ a ∧ a ≤ c)) := by
  unfold spec_l1In.f
  by_cases h : a ≥ b
  · rw [if_pos h]; simp [h]
  · rw [if_neg h]; simp; omega
theorem spec_all_l0 (a b : Int) (l : List Int) (hl : l.length ≤ 1048576) : ∀ (d i : Nat), i + d = l.length → Ev (fun k => spec_l1All.l0 k a b l (l.length : Int) (i : Int)) ((l.drop i).all fun x => decide (a ≤ x ∧ x ≤ b))
  | 0, i, hd => Ev.step (f := fun _ => some true) (fun k => by simp only [spec_l1All.l0]; rw [if_neg (by omega)]) (Ev.pure (by rw [List.drop_of_length_le (by omega)]; rfl))
  | d + 1, i, hd => by
    have h1 : i < l.length := by omega
    have ih := spec_all_l0 a b l hl d (i + 1) (by omega)
    rw [List.drop_eq_getElem_cons h1, List.all_cons]
    refine Ev.step (f := fun k => if (decide (a ≤ l[i] ∧ l[i] ≤ b)) = true then spec_l1All.l0 k a b l (l.length : Int) ((i + 1 : Nat) : Int) else some false) (fun k => ?_) ?_
    · simp only [spec_l1All.l0, spec_in]; rw [if_pos (by omega), if_pos (by omega), if_pos (by omega), w1 (by omega) (by omega), rd_nat l i h1]; simp
    · refine Ev.cases (fun h => ?_) (fun h => ?_)
      · rw [h, Bool.true_and]; exact ih
      · rw [Bool.eq_false_iff.mpr h, Bool.false_and]; exact Ev.now _
theorem spec_all (l : List Int) (a b : Int) (hl : l.length ≤ 1048576) : Ev (fun k => spec_l1All.f k l a b) (l.all fun x => decide (a ≤ x ∧ x ≤ b)) := by
  have h := spec_all_l0 a b l hl l.length 0 (by omega)
  simpa [spec_l1All.f] using h
theorem impl_in_eq (a b c : Int) : impl_in.f a b c = some (decide (b ≤ a ∧ a ≤ c)) := by
  unfold impl_in.f
  by_cases h : b ≤ a
  · rw [if_pos h]; simp [h]
  · rw [if_neg h]; simp [h]
theorem impl_areWeights__1_l0 (l : List Int) (hl : l.length ≤ 1048576) : ∀ (d i : Nat), i + d = l.length → ∃ r, Ev (fun k => slices_IndexFunc_int_int__at_impl_areWeights__1.l0 k l (l.length : Int) (i : Int)) r ∧ decide (r ≥ 0) = (l.drop i).any fun x => !decide (1 ≤ x ∧ x ≤ 100)
  | 0, i, hd => ⟨-1, Ev.step (f := fun _ => some (-1)) (fun k => by simp only [slices_IndexFunc_int_int__at_impl_areWeights__1.l0]; rw [if_neg (by omega)]) (Ev.now _), by rw [List.drop_of_length_le (by omega)]; rfl⟩
  | d + 1, i, hd => by
    have h1 : i < l.length := by omega
    obtain ⟨r, ih, hr⟩ := impl_areWeights__1_l0 l hl d (i + 1) (by omega)
    have hs : ∀ k, slices_IndexFunc_int_int__at_impl_areWeights__1.l0 (k + 1) l (l.length : Int) (i : Int) = if (!decide (1 ≤ l[i] ∧ l[i] ≤ 100)) = true then some (i : Int) else slices_IndexFunc_int_int__at_impl_areWeights__1.l0 k l (l.length : Int) ((i + 1 : Nat) : Int) := by
      intro k
      simp only [slices_IndexFunc_int_int__at_impl_areWeights__1.l0, impl_areWeights__1.f, impl_in_eq]; rw [if_pos (by omega), if_pos (by omega), if_pos (by omega), w1 (by omega) (by omega), rd_nat l i h1]; simp
    rw [List.drop_eq_getElem_cons h1, List.any_cons]
    by_cases h : (!decide (1 ≤ l[i] ∧ l[i] ≤ 100)) = true
    · exact ⟨i, Ev.step hs (Ev.pos h (Ev.now _)), by rw [h]; simp⟩
    · exact ⟨r, Ev.step hs (Ev.neg h ih), by rw [hr, Bool.eq_false_iff.mpr h, Bool.false_or]⟩
theorem impl_areWeights__1_contains (l : List Int) (hl : l.length ≤ 1048576) : Ev (fun k => slices_ContainsFunc_int_int__at_impl_areWeights__1.f k l) (l.any fun x => !decide (1 ≤ x ∧ x ≤ 100)) := by
  obtain ⟨r, h, hr⟩ := impl_areWeights__1_l0 l hl l.length 0 (by omega)
  unfold slices_ContainsFunc_int_int__at_impl_areWeights__1.f slices_IndexFunc_int_int__at_impl_areWeights__1.f
  refine Ev.bind (by simpa using h) (Ev.pure ?_)
  simpa using hr
theorem impl_areWeights_ev (l : List Int) (hl : l.length ≤ 1048576) : Ev (fun k => impl_areWeights.f k l) (decide (1 ≤ (l.length : Int) ∧ (l.length : Int) ≤ 12) && l.all fun x => decide (1 ≤ x ∧ x ≤ 100)) := by
  unfold impl_areWeights.f
  refine Ev.known (fun n => impl_in_eq _ _ _) (Ev.cases (fun h => ?_) (fun h => ?_))
  · refine Ev.bind (impl_areWeights__1_contains l hl) (Ev.pure ?_)
    rw [h, Bool.true_and, List.any_eq_not_all_not, Bool.not_not]; simp
  · refine Ev.pure ?_
    rw [Bool.eq_false_iff.mpr h, Bool.false_and]
theorem beWeights_ev (l : List Int) (hl : l.length ≤ 1048576) : Ev (fun k => spec_beWeights.f k l) (decide (1 ≤ (l.length : Int) ∧ (l.length : Int) ≤ 12) && l.all fun x => decide (1 ≤ x ∧ x ≤ 100)) := by
  unfold spec_beWeights.f
  refine Ev.known (fun n => spec_in _ _ _) (Ev.cases (fun h => ?_) (fun h => ?_))
  · exact Ev.bind (spec_all l _ _ hl) (Ev.pure (by rw [h, Bool.true_and]))
  · exact Ev.pure (by rw [Bool.eq_false_iff.mpr h, Bool.false_and])
theorem Ev.loop {R : Type} (g : Nat → Nat → Option R) (n : Nat) (r : R) (hstep : ∀ i, i < n → Ev (g (i + 1)) r → Ev (g i) r) (hend : Ev (g n) r) : Ev (g 0) r := by
  have h : ∀ d i, i + d = n → Ev (g i) r := by
    intro d
    induction d with
    | zero => intro i hi; rw [show i = n by omega]; exact hend
    | succ d ih => intro i hi; exact hstep i (by omega) (ih (i + 1) (by omega))
  exact h n 0 (by omega)
theorem sortI_up (l : List Int) : (sortI l).Pairwise fun x y => x ≤ y := by
  have h := List.pairwise_mergeSort (le := fun x y : Int => decide (x ≤ y)) (fun a b c h1 h2 => by simp at h1 h2 ⊢; omega) (fun a b => by simp; omega) l
  exact h.imp fun {a b} h => by simpa using h
theorem sortI_perm (l : List Int) : (sortI l).Perm l := List.mergeSort_perm l _
theorem up_unique {a b : List Int} (ha : a.Pairwise fun x y => x ≤ y) (hb : b.Pairwise fun x y => x ≤ y) (h : a.Perm b) : a = b :=
  List.Perm.eq_of_pairwise (le := fun x y : Int => x ≤ y) (fun x y _ _ h1 h2 => by omega) ha hb h
theorem sortI_of {a b : List Int} (ha : a.Pairwise fun x y => x ≤ y) (h : a.Perm b) : a = sortI b := up_unique ha (sortI_up b) (h.trans (sortI_perm b).symm)
theorem sortI_len (l : List Int) : (sortI l).length = l.length := (sortI_perm l).length_eq
theorem sortI_nil : sortI [] = [] := (sortI_of (by simp) (List.Perm.refl _)).symm
theorem l1Own_ev (l : List Int) (h : l.length ≤ 1048576) : spec_l1Own.f l = some l := by
  unfold spec_l1Own.f
  rw [Option.bind_some, if_pos (by simp; omega)]
  simp
theorem bePut_l0 (L : List Int) (x : Int) (hL : L.length ≤ 1000) (hu : L.Pairwise fun x y => x ≤ y) : ∀ (d i : Nat), i + d = L.length → (∀ j (h : j < L.length), j < i → L[j] ≤ x) → Ev (fun k => spec_bePut.l0 k L x (i : Int)) (sortI (L ++ [x])) := by
  have fin : ∀ i, i ≤ L.length → (∀ j (h : j < L.length), j < i → L[j] ≤ x) → (∀ j (h : j < L.length), i ≤ j → x ≤ L[j]) → L.take i ++ [x] ++ L.drop i = sortI (L ++ [x]) := by
    intro i hi h1 h2
    refine sortI_of ?_ ?_
    · rw [List.pairwise_append, List.pairwise_append]
      refine ⟨⟨hu.sublist (List.take_sublist _ _), by simp, ?_⟩, hu.sublist (List.drop_sublist _ _), ?_⟩
      · intro a ha b hb
        rw [List.mem_singleton] at hb
        subst hb
        obtain ⟨j, hj, rfl⟩ := List.getElem_of_mem ha
        rw [List.length_take] at hj
        rw [List.getElem_take]
        exact h1 j (by omega) (by omega)
      · intro a ha b hb
        obtain ⟨j, hj, rfl⟩ := List.getElem_of_mem hb
        rw [List.length_drop] at hj
        rw [List.getElem_drop]
        have hb' := h2 (i + j) (by omega) (by omega)
        rcases List.mem_append.1 ha with ha | ha
        · obtain ⟨j', hj', rfl⟩ := List.getElem_of_mem ha
          rw [List.length_take] at hj'
          rw [List.getElem_take]
          have := h1 j' (by omega) (by omega)
          omega
        · rw [List.mem_singleton] at ha
          subst ha
          exact hb'
    · have e : (L ++ [x]).Perm (L.take i ++ L.drop i ++ [x]) := by rw [List.take_append_drop]
      refine List.Perm.trans ?_ e.symm
      rw [List.append_assoc, List.append_assoc]
      exact List.Perm.append_left _ List.perm_append_comm
  intro d
  induction d with
  | zero =>
    intro i hd h1
    have hf := fin i (by omega) h1 (fun j hj h => by omega)
    refine Ev.succ ?_
    simp only [spec_bePut.l0, Int.toNat_natCast]
    refine Ev.neg (by omega) (Ev.pos (by omega) (Ev.pos (by omega) (Ev.known (fun _ => l1Own_ev _ (by rw [List.length_take]; omega)) (Ev.pos (by rw [List.length_take]; omega) (Ev.known (fun _ => rfl) (Ev.pos (by simp; omega) (Ev.pure hf)))))))
  | succ d ih =>
    intro i hd h1
    have hi : i < L.length := by omega
    refine Ev.succ ?_
    simp only [spec_bePut.l0, Int.toNat_natCast, rd_nat L i hi, w1 (show 0 ≤ (i : Int) by omega) (show (i : Int) < 9223372036854775807 by omega)]
    refine Ev.pos (by omega) (Ev.pos (by omega) (Ev.cases (fun h => ?_) (fun h => ?_)))
    · exact ih (i + 1) (by omega) (fun j hj hji => by
        by_cases e : j = i
        · subst e; exact h
        · exact h1 j hj (by omega))
    · have hf := fin i (by omega) h1 (fun j hj hij => by
        by_cases e : j = i
        · subst e; omega
        · have := List.pairwise_iff_getElem.1 hu i j hi hj (by omega)
          omega)
      exact Ev.pos (by omega) (Ev.known (fun _ => l1Own_ev _ (by rw [List.length_take]; omega)) (Ev.pos (by rw [List.length_take]; omega) (Ev.known (fun _ => rfl) (Ev.pos (by simp; omega) (Ev.pure hf)))))
theorem bePut_ev (L : List Int) (x : Int) (hL : L.length ≤ 1000) (hu : L.Pairwise fun x y => x ≤ y) : Ev (fun k => spec_bePut.f k L x) (sortI (L ++ [x])) :=
  bePut_l0 L x hL hu L.length 0 (by omega) (fun j _ h => by omega)
theorem sortI_put (l : List Int) (x : Int) : sortI (sortI l ++ [x]) = sortI (l ++ [x]) :=
  (sortI_of (sortI_up _) ((sortI_perm _).trans ((sortI_perm l).append_right [x])))
theorem beMerge_l2 (many : Int) (list out : List Int) (take : Nat) (r : List Int) (ht : take ≤ list.length) (hl : list.length ≤ 1000) (ys : List Int) (hys : ys.length ≤ 1000) (S : Int)
    (next : Ev (fun k => (spec_bePut.f k (list.drop take) S).bind fun t159 => (if out.length < 17592186044416 then (spec_beMerge.l1 k many t159 (out ++ [S]) many) else none)) r) :
    ∀ (d j : Nat) (s : Int), j + d = ys.length → sumW (ys.drop j) s = S → Ev (fun k => spec_beMerge.l2 k many list out (take : Int) s ys (ys.length : Int) (j : Int)) r
  | 0, j, s, hd, hs => by
    rw [List.drop_of_length_le (by omega), sumW] at hs
    subst hs
    refine Ev.succ ?_
    simp only [spec_beMerge.l2, Int.toNat_natCast]
    exact Ev.neg (by omega) (Ev.pos (by omega) (Ev.pos (by omega) next))
  | d + 1, j, s, hd, hs => by
    have hj : j < ys.length := by omega
    rw [List.drop_eq_getElem_cons hj, sumW] at hs
    have ih := beMerge_l2 many list out take r ht hl ys hys S next d (j + 1) _ (by omega) hs
    refine Ev.succ ?_
    simp only [spec_beMerge.l2, rd_nat ys j hj, w1 (show 0 ≤ (j : Int) by omega) (show (j : Int) < 9223372036854775807 by omega)]
    exact Ev.pos (by omega) (Ev.pos (by omega) (Ev.pos (by omega) ih))
def TakeOk (many take n : Nat) : Prop := (many = 2 ∧ take = 2) ∨ (many = 3 ∧ ((take = 2 ∧ n % 2 = 0) ∨ (take = 3 ∧ n % 2 = 1)))
theorem beMerge_l0 (l : List Int) (many : Int) (hl : l.length ≤ 12) (r : List Int) (next : Ev (fun k => (if many = 3 then (spec_beMerge.j1 k many (sortI l) ([] : List Int) many ((((sortI l).length : Int) % 2) == 0)) else (spec_beMerge.j1 k many (sortI l) ([] : List Int) many false))) r) : Ev (fun k => spec_beMerge.f k l many) r := by
  unfold spec_beMerge.f
  have s0 : ([] : List Int) = sortI (l.take 0) := by rw [List.take_zero, sortI_nil]
  rw [s0]
  refine Ev.loop (fun i k => spec_beMerge.l0 k many (sortI (l.take i)) l (l.length : Int) (i : Int)) l.length _ (fun i hi hnext => ?_) ?_
  · have hput := bePut_ev (sortI (l.take i)) l[i] (by rw [sortI_len, List.length_take]; omega) (sortI_up _)
    rw [sortI_put, List.take_append_getElem hi] at hput
    refine Ev.succ ?_
    simp only [spec_beMerge.l0, rd_nat l i hi, w1 (show 0 ≤ (i : Int) by omega) (show (i : Int) < 9223372036854775807 by omega)]
    exact Ev.pos (by omega) (Ev.pos (by omega) (Ev.pos (by omega) (Ev.bind hput hnext)))
  · refine Ev.succ ?_
    simp only [spec_beMerge.l0]
    rw [List.take_of_length_le (Nat.le_refl _)]
    exact Ev.neg (by omega) next
theorem beAsked_ev (l : List Int) (m : Int) (hl : l.length ≤ 1048576) : Ev (fun k => spec_beAsked.f k l m) (decide (2 ≤ m ∧ m ≤ 3) && (decide (1 ≤ (l.length : Int) ∧ (l.length : Int) ≤ 12) && l.all fun x => decide (1 ≤ x ∧ x ≤ 100))) := by
  unfold spec_beAsked.f spec_krLetters.f
  refine Ev.known (fun _ => by rw [spec_in, Option.bind_some]) (Ev.cases (fun h => ?_) (fun h => ?_))
  · exact Ev.bind (beWeights_ev l hl) (Ev.pure (by rw [h, Bool.true_and]))
  · exact Ev.pure (by rw [Bool.eq_false_iff.mpr h, Bool.false_and])
theorem areLetters_eq (m : Int) : impl_areLetters.f m = some (decide (2 ≤ m ∧ m ≤ 3)) := by
  unfold impl_areLetters.f
  rw [impl_in_eq, Option.bind_some]
def sI : List Int → Int
  | [] => 0
  | x :: t => x + sI t
def sN : List Nat → Nat
  | [] => 0
  | x :: t => x + sN t
theorem sI_append : ∀ a b : List Int, sI (a ++ b) = sI a + sI b
  | [], b => by simp [sI]
  | x :: t, b => by simp only [List.cons_append, sI, sI_append t b]; omega
theorem sN_append : ∀ a b : List Nat, sN (a ++ b) = sN a + sN b
  | [], b => by simp [sN]
  | x :: t, b => by simp only [List.cons_append, sN, sN_append t b]; omega
theorem sI_perm {a b : List Int} (h : a.Perm b) : sI a = sI b := by
  induction h with
  | nil => rfl
  | cons x _ ih => simp only [sI, ih]
  | swap x y l => simp only [sI]; omega
  | trans _ _ ih1 ih2 => exact ih1.trans ih2
theorem sN_perm {a b : List Nat} (h : a.Perm b) : sN a = sN b := by
  induction h with
  | nil => rfl
  | cons x _ ih => simp only [sN, ih]
  | swap x y l => simp only [sN]; omega
  | trans _ _ ih1 ih2 => exact ih1.trans ih2
theorem sI_nonneg : ∀ l : List Int, (∀ x ∈ l, 0 ≤ x) → 0 ≤ sI l
  | [], _ => by simp [sI]
  | x :: t, h => by
    have h1 := h x (by simp)
    have h2 := sI_nonneg t (fun y hy => h y (by simp [hy]))
    simp only [sI]; omega
theorem sI_le (B : Int) : ∀ l : List Int, (∀ x ∈ l, x ≤ B) → sI l ≤ B * (l.length : Int)
  | [], _ => by simp [sI]
  | x :: t, h => by
    have h1 := h x (by simp)
    have h2 := sI_le B t (fun y hy => h y (by simp [hy]))
    simp only [sI, List.length_cons]
    have e : B * ((t.length + 1 : Nat) : Int) = B * (t.length : Int) + B := by rw [Int.natCast_add, Int.mul_add]; simp
    omega
theorem perm_lift {L M : List Int} (h : L.Perm M) : ∀ ps : List (Int × Nat), ps.map Prod.fst = L → ∃ qs : List (Int × Nat), ps.Perm qs ∧ qs.map Prod.fst = M := by
  induction h with
  | nil => intro ps h; exact ⟨ps, List.Perm.refl _, h⟩
  | cons x _ ih =>
    intro ps h
    match ps, h with
    | p :: ps, h =>
      simp only [List.map_cons, List.cons.injEq] at h
      obtain ⟨qs, h1, h2⟩ := ih ps h.2
      exact ⟨p :: qs, h1.cons p, by simp [h.1, h2]⟩
  | swap x y l =>
    intro ps h
    match ps, h with
    | p :: q :: ps, h =>
      simp only [List.map_cons, List.cons.injEq] at h
      exact ⟨q :: p :: ps, List.Perm.swap q p ps, by simp [h.1, h.2.1, h.2.2]⟩
  | trans _ _ ih1 ih2 =>
    intro ps h
    obtain ⟨qs, h1, h2⟩ := ih1 ps h
    obtain ⟨rs, h3, h4⟩ := ih2 qs h2
    exact ⟨rs, h1.trans h3, h4⟩
theorem sN_const (T : List Int) (a : Nat) : sN (T.map fun _ => a) = T.length * a := by
  induction T with
  | nil => simp [sN]
  | cons x t ih => simp only [List.map_cons, sN, ih, List.length_cons, Nat.add_mul, Nat.one_mul]; omega
theorem sI_scale (T : List Int) (a : Int) : sI (T.map fun x => a * x) = a * sI T := by
  induction T with
  | nil => simp [sI]
  | cons x t ih => simp only [List.map_cons, sI, ih, Int.mul_add]
theorem sN_up (m D : Nat) : ∀ q : List (Int × Nat), (∀ p ∈ q, p.2 ≤ D) → sN (q.map fun p => m ^ (D + 1 - p.2)) = m * sN (q.map fun p => m ^ (D - p.2))
  | [], _ => by simp [sN]
  | p :: q, h => by
    have h1 := h p (by simp)
    have ih := sN_up m D q (fun r hr => h r (by simp [hr]))
    simp only [List.map_cons, sN, ih, Nat.mul_add, show D + 1 - p.2 = (D - p.2) + 1 by omega, Nat.pow_succ]
    rw [Nat.mul_comm m (m ^ (D - p.2))]
theorem sumW_sI : ∀ (ys : List Int) (s : Int), (∀ y ∈ ys, 0 ≤ y) → 0 ≤ s → s + sI ys ≤ 1000000 → sumW ys s = s + sI ys
  | [], s, _, _, _ => by simp [sumW, sI]
  | y :: t, s, h, hs, hb => by
    have h1 := h y (by simp)
    have h2 := sI_nonneg t (fun z hz => h z (by simp [hz]))
    simp only [sI] at hb ⊢
    have e : Aside0 (wrap64 (s + y) = s + y) := ⟨w64 (by omega) (by omega)⟩
    rw [sumW, e.out, sumW_sI t (s + y) (fun z hz => h z (by simp [hz])) (by omega) (by omega)]
    omega
def Fits (m D : Nat) (L : List Int) (c : Int) : Prop := ∃ ps : List (Int × Nat), (ps.map Prod.fst).Perm L ∧ (∀ p ∈ ps, p.2 ≤ D) ∧ (2 ≤ L.length → ∀ p ∈ ps, 1 ≤ p.2) ∧ sN (ps.map (fun p => m ^ (D - p.2))) ≤ m ^ D ∧ sI (ps.map (fun p => (p.2 : Int) * p.1)) = c
theorem Fits.merge {m D : Nat} {T R : List Int} {c : Int} (hm : T.length ≤ m) (h : Fits m D (sortI (R ++ [sI T])) c) : Fits m (D + 1) (T ++ R) (c + sI T) := by
  obtain ⟨ps, hp, h1, h2, h3, h4⟩ := h
  obtain ⟨qs, hq, hqs⟩ := perm_lift (hp.trans (sortI_perm _)) ps rfl
  rw [sN_perm (hq.map _)] at h3
  rw [sI_perm (hq.map _)] at h4
  obtain ⟨q1, q2, rfl, e1, e2⟩ := List.map_eq_append_iff.1 hqs
  obtain ⟨s, d, rfl, rfl⟩ : ∃ s d, q2 = [(s, d)] ∧ s = sI T := by
    match q2, e2 with
    | [(s, d)], e2 => exact ⟨s, d, rfl, by simpa using e2⟩
  have hd : d ≤ D := h1 _ (hq.symm.subset (by simp : (sI T, d) ∈ q1 ++ [(sI T, d)]))
  have hq1 : ∀ p ∈ q1, p.2 ≤ D := fun p hp => h1 p (hq.symm.subset (by simp [hp]))
  have hlen : (sortI (R ++ [sI T])).length = R.length + 1 := by rw [sortI_len]; simp
  refine ⟨(T.map fun x => (x, d + 1)) ++ q1, ?_, ?_, ?_, ?_, ?_⟩
  · rw [List.map_append, e1, List.map_map]
    rw [show (Prod.fst ∘ fun x : Int => (x, d + 1)) = id from rfl, List.map_id]
  · intro p hp
    rcases List.mem_append.1 hp with hp | hp
    · obtain ⟨x, -, rfl⟩ := List.mem_map.1 hp
      show d + 1 ≤ D + 1
      omega
    · have := hq1 p hp; omega
  · intro _ p hp
    rcases List.mem_append.1 hp with hp | hp
    · obtain ⟨x, -, rfl⟩ := List.mem_map.1 hp
      show 1 ≤ d + 1
      omega
    · have hl1 : q1.length = R.length := by rw [← e1, List.length_map]
      have hpos := List.length_pos_of_mem hp
      exact h2 (by omega) p (hq.symm.subset (by simp [hp]))
  · rw [List.map_append, sN_append, List.map_map, sN_up m D q1 hq1, show ((fun p : Int × Nat => m ^ (D + 1 - p.2)) ∘ fun x : Int => (x, d + 1)) = fun _ => m ^ (D - d) from by funext x; simp [show D + 1 - (d + 1) = D - d by omega], sN_const]
    rw [List.map_append, sN_append] at h3
    simp only [List.map_cons, List.map_nil, sN, Nat.add_zero] at h3
    have h5 := Nat.mul_le_mul_right (m ^ (D - d)) hm
    have h6 := Nat.mul_le_mul_left m h3
    rw [Nat.mul_add] at h6
    rw [Nat.pow_succ, Nat.mul_comm (m ^ D) m]
    omega
  · rw [List.map_append, sI_append, List.map_map, show ((fun p : Int × Nat => (p.2 : Int) * p.1) ∘ fun x : Int => (x, d + 1)) = fun x => ((d + 1 : Nat) : Int) * x from rfl, sI_scale]
    rw [List.map_append, sI_append] at h4
    simp only [List.map_cons, List.map_nil, sI, Int.add_zero] at h4
    have e : ((d + 1 : Nat) : Int) * sI T = (d : Int) * sI T + sI T := by rw [Int.natCast_add, Int.add_mul]; simp
    omega
theorem Fits.up {m D : Nat} {L : List Int} {c : Int} (h : Fits m D L c) : Fits m (D + 1) L c := by
  obtain ⟨ps, hp, h1, h2, h3, h4⟩ := h
  refine ⟨ps, hp, fun p hp => by have := h1 p hp; omega, h2, ?_, h4⟩
  rw [sN_up m D ps h1, Nat.pow_succ, Nat.mul_comm (m ^ D) m]
  exact Nat.mul_le_mul_left m h3
theorem Fits.to {m D : Nat} {L : List Int} {c : Int} (h : Fits m D L c) : ∀ d, Fits m (D + d) L c
  | 0 => h
  | d + 1 => (h.to d).up
theorem merge_loop2 (many : Nat) : ∀ (n : Nat) (list out : List Int) (take : Nat), 1 ≤ list.length → list.length ≤ n → list.length ≤ 12 → out.length + list.length ≤ 12 → list.Pairwise (fun x y => x ≤ y) → TakeOk many take list.length → (∀ x ∈ list, 0 ≤ x) → sI list ≤ 10000 →
    ∃ (cs : List Int) (D : Nat), Ev (fun k => spec_beMerge.l1 k (many : Int) list out (take : Int)) (out ++ cs) ∧ Ev (fun k => impl_mergeRun.l0 k many list out take) (out ++ cs) ∧ D + 1 ≤ list.length ∧ (∀ x ∈ cs, 0 ≤ x ∧ x ≤ 10000) ∧ cs.length + 1 ≤ list.length ∧ Fits many D list (sI cs)
  | 0, list, out, take, h0, hn, hl, ho, hu, ht, hx, hs => by omega
  | n + 1, list, out, take, h0, hn, hl, ho, hu, ht, hx, hs => by
    by_cases h1 : 1 < list.length
    · have htk : 2 ≤ take ∧ take ≤ list.length ∧ take ≤ many := by
        rcases ht with ⟨a, b⟩ | ⟨a, ⟨b, c⟩ | ⟨b, c⟩⟩ <;> omega
      have hdt : sI list = sI (list.take take) + sI (list.drop take) := by rw [← sI_append, List.take_append_drop]
      have hx1 : ∀ x ∈ list.take take, 0 ≤ x := fun x h => hx x (List.mem_of_mem_take h)
      have hx2 : ∀ x ∈ list.drop take, 0 ≤ x := fun x h => hx x (List.mem_of_mem_drop h)
      have hn1 := sI_nonneg _ hx1
      have hn2 := sI_nonneg _ hx2
      have hS0 : sumW (list.take take) 0 = sI (list.take take) := by rw [sumW_sI _ 0 hx1 (by omega) (by omega)]; omega
      obtain ⟨S, hS⟩ : ∃ S, S = sI (list.take take) := ⟨_, rfl⟩
      have hlen : (sortI (list.drop take ++ [S])).length = list.length - take + 1 := by rw [sortI_len]; simp
      have htk' : TakeOk many many (list.length - take + 1) := by
        rcases ht with ⟨a, b⟩ | ⟨a, ⟨b, c⟩ | ⟨b, c⟩⟩
        · exact Or.inl ⟨a, by omega⟩
        · exact Or.inr ⟨a, Or.inr ⟨a, by omega⟩⟩
        · exact Or.inr ⟨a, Or.inr ⟨a, by omega⟩⟩
      have hx' : ∀ x ∈ sortI (list.drop take ++ [S]), 0 ≤ x := fun x h => by
        have h := (sortI_perm _).subset h
        rcases List.mem_append.1 h with h | h
        · exact hx2 x h
        · rw [List.mem_singleton] at h; omega
      have hs' : sI (sortI (list.drop take ++ [S])) ≤ 10000 := by
        rw [sI_perm (sortI_perm _), sI_append]
        simp only [sI, Int.add_zero]
        omega
      obtain ⟨cs, D, r1, r2, r3, r4, r5, r6⟩ := merge_loop2 many n (sortI (list.drop take ++ [S])) (out ++ [S]) many (by omega) (by omega) (by omega) (by simp; omega) (sortI_up _) (by rw [hlen]; exact htk') hx' hs'
      rw [List.append_assoc] at r1 r2
      refine ⟨S :: cs, D + 1, Ev.succ ?_, Ev.succ ?_, by omega, ?_, by simp only [List.length_cons]; omega, ?_⟩
      · simp only [spec_beMerge.l1, Int.toNat_natCast, Option.bind_some]
        refine Ev.pos (by omega) (Ev.pos (by omega) (Ev.pos (by omega) ?_))
        have hput := bePut_ev (list.drop take) S (by rw [List.length_drop]; omega) (hu.sublist (List.drop_sublist _ _))
        exact beMerge_l2 (many : Int) list out take (out ++ S :: cs) htk.2.1 (by omega) (list.take take) (by rw [List.length_take]; omega) S (Ev.bind hput (Ev.pos (by omega) r1)) (list.take take).length 0 0 (by omega) (by rw [List.drop_zero, hS, hS0])
      · simp only [impl_mergeRun.l0]
        rw [hS, ← hS0] at r2
        rw [hS, ← hS0]
        exact Ev.pos h1 (Ev.pos (by omega) r2)
      · intro x h
        rcases List.mem_cons.1 h with rfl | h
        · omega
        · exact r4 x h
      · have h7 := Fits.merge (m := many) (T := list.take take) (R := list.drop take) (by rw [List.length_take]; omega) (hS ▸ r6)
        rw [List.take_append_drop] at h7
        rw [show sI (S :: cs) = sI cs + sI (list.take take) by simp only [sI]; omega]
        exact h7
    · refine ⟨[], 0, Ev.succ ?_, Ev.succ ?_, by omega, by simp, by simp; omega, ?_⟩
      · simp only [spec_beMerge.l1]; exact Ev.neg (by omega) (Ev.pure (by simp))
      · simp only [impl_mergeRun.l0]; exact Ev.neg (by omega) (Ev.pure (by simp))
      · match list, h0, h1 with
        | [x], _, _ => exact ⟨[(x, 0)], by simp, by simp, fun h => by simp at h, by simp [sN], by simp [sI]⟩
        | x :: y :: t, _, h1 => exact absurd (show 1 < (x :: y :: t).length by simp) h1
theorem merge_same2 (l : List Int) (m : Nat) (h1 : 1 ≤ l.length) (hl : l.length ≤ 12) (hm : 2 ≤ m ∧ m ≤ 3) (hx : ∀ x ∈ l, 1 ≤ x ∧ x ≤ 100) : ∃ (r : List Int) (D : Nat), Ev (fun k => spec_beMerge.f k l (m : Int)) r ∧ Ev (fun k => impl_mergeRun.f k l (m : Int)) r ∧ D + 1 ≤ l.length ∧ (∀ x ∈ r, 0 ≤ x ∧ x ≤ 10000) ∧ r.length + 1 ≤ l.length ∧ Fits m D l (sI r) := by
  obtain ⟨t, ht⟩ : ∃ t : Nat, t = if (m : Int) = 3 ∧ l.length % 2 = 0 then 2 else m := ⟨_, rfl⟩
  have hlen := sortI_len l
  have htk : TakeOk m t (sortI l).length := by
    rw [hlen, ht]
    unfold TakeOk
    by_cases c : (m : Int) = 3 ∧ l.length % 2 = 0
    · rw [if_pos c]; omega
    · rw [if_neg c]; omega
  have hsum : sI (sortI l) ≤ 10000 := by
    rw [sI_perm (sortI_perm l)]
    have := sI_le 100 l (fun x h => (hx x h).2)
    omega
  obtain ⟨r, D, r1, r2, r3, r4, r5, r6⟩ := merge_loop2 m 12 (sortI l) [] t (by omega) (by omega) (by omega) (by simp; omega) (sortI_up l) htk (fun x h => by have := hx x ((sortI_perm l).subset h); omega) hsum
  rw [List.nil_append] at r1 r2
  rw [hlen] at r3 r5
  have r7 : Fits m D l (sI r) := by
    obtain ⟨ps, hp, a, b, c, d⟩ := r6
    exact ⟨ps, hp.trans (sortI_perm l), a, fun h => b (by omega), c, d⟩
  refine ⟨r, D, beMerge_l0 l (m : Int) hl r (Ev.cases (fun c => Ev.succ ?_) (fun c => Ev.succ ?_)), ?_, r3, r4, r5, r7⟩
  · simp only [spec_beMerge.j1]
    refine Ev.cases (fun c2 => Ev.succ ?_) (fun c2 => Ev.succ ?_)
    · simp only [spec_beMerge.j2]
      rw [beq_iff_eq, hlen] at c2
      rw [if_pos ⟨c, by omega⟩] at ht
      subst ht
      exact r1
    · simp only [spec_beMerge.j2]
      rw [beq_iff_eq, hlen] at c2
      rw [if_neg (fun h => c2 (by omega))] at ht
      subst ht
      exact r1
  · simp only [spec_beMerge.j1]
    refine Ev.neg (by simp) (Ev.succ ?_)
    simp only [spec_beMerge.j2]
    rw [if_neg (fun h => c h.1)] at ht
    subst ht
    exact r1
  · unfold impl_mergeRun.f
    rw [Int.toNat_natCast, ← ht]
    exact Ev.pos (by omega) r2
theorem bestSum2 (ys : List Int) (hl : ys.length ≤ 1000) (hy : ∀ y ∈ ys, 0 ≤ y ∧ y ≤ 10000) : ∀ (d i : Nat) (s : Int), i + d = ys.length → 0 ≤ s → s + sI (ys.drop i) ≤ 1000000000 → Ev (fun k => spec_beBest.l0 k s ys (ys.length : Int) (i : Int)) (s + sI (ys.drop i)) ∧ Ev (fun k => impl_bestCost.l0 k s ys (ys.length : Int) (i : Int)) (s + sI (ys.drop i))
  | 0, i, s, hd, _, _ => by
    rw [List.drop_of_length_le (by omega)]
    exact ⟨Ev.succ (by simp only [spec_beBest.l0]; exact Ev.neg (by omega) (Ev.pure (by simp [sI]))), Ev.succ (by simp only [impl_bestCost.l0]; exact Ev.neg (by omega) (Ev.pure (by simp [sI])))⟩
  | d + 1, i, s, hd, h0, hb => by
    have hi : i < ys.length := by omega
    rw [List.drop_eq_getElem_cons hi] at hb ⊢
    simp only [sI] at hb ⊢
    have hyi := hy _ (List.getElem_mem hi)
    have hn := sI_nonneg (ys.drop (i + 1)) (fun x h => (hy x (List.mem_of_mem_drop h)).1)
    obtain ⟨h1, h2⟩ := bestSum2 ys hl hy d (i + 1) (s + ys[i]) (by omega) (by omega) (by omega)
    rw [show s + ys[i] + sI (ys.drop (i + 1)) = s + (ys[i] + sI (ys.drop (i + 1))) by omega] at h1 h2
    have wi := w1 (show 0 ≤ (i : Int) by omega) (show (i : Int) < 9223372036854775807 by omega)
    have ws : Aside0 (wrap64 (s + ys[i]) = s + ys[i]) := ⟨w64 (by omega) (by omega)⟩
    refine ⟨Ev.succ ?_, Ev.succ ?_⟩
    · simp only [spec_beBest.l0, rd_nat ys i hi, ws.out, wi]; exact Ev.pos (by omega) (Ev.pos (by omega) (Ev.pos (by omega) h1))
    · simp only [impl_bestCost.l0, rd_nat ys i hi, ws.out, wi]; exact Ev.pos (by omega) (Ev.pos (by omega) (Ev.pos (by omega) h2))
theorem best_fits (l : List Int) (m : Nat) (h1 : 1 ≤ l.length) (hl : l.length ≤ 12) (hm : 2 ≤ m ∧ m ≤ 3) (hx : ∀ x ∈ l, 1 ≤ x ∧ x ≤ 100) : ∃ (B : Int) (ps : List (Int × Nat)), Ev (fun k => spec_beBest.f k l (m : Int)) B ∧ Ev (fun k => impl_bestCost.f k l (m : Int)) B ∧ 0 ≤ B ∧ B ≤ 1000000 ∧
    ps.map Prod.fst = l ∧ (∀ p ∈ ps, 1 ≤ p.2 ∧ p.2 ≤ 11) ∧ sN (ps.map (fun p => m ^ (11 - p.2))) ≤ m ^ 11 ∧ sI (ps.map (fun p => (p.2 : Int) * p.1)) = B := by
  unfold spec_beBest.f impl_bestCost.f
  by_cases e : l.length = 1
  · match l, e with
    | [x], _ =>
      have hx0 := hx x (by simp)
      have e0 : rd [x] 0 = x := by simp [rd]
      refine ⟨x, [(x, 1)], Ev.pos (by simp) (Ev.pos (by simp) (Ev.pure e0)), Ev.pos (by simp) (Ev.pos (by simp) (Ev.pure e0)), by omega, by omega, by simp, by simp, ?_, by simp [sI]⟩
      simp only [List.map_cons, List.map_nil, sN, Nat.add_zero]
      exact Nat.pow_le_pow_right (by omega) (by omega)
  · obtain ⟨r, D, r1, r2, r3, r4, r5, r6⟩ := merge_same2 l m h1 hl hm hx
    have hb := sI_le 10000 r (fun x h => (r4 x h).2)
    have hb0 := sI_nonneg r (fun x h => (r4 x h).1)
    obtain ⟨s1, s2⟩ := bestSum2 r (by omega) r4 r.length 0 0 (by omega) (by omega) (by rw [List.drop_zero]; omega)
    rw [List.drop_zero, Int.zero_add] at s1 s2
    have r7 := r6.to (11 - D)
    rw [show D + (11 - D) = 11 by omega] at r7
    obtain ⟨ps, hp, a, b, c, d⟩ := r7
    obtain ⟨qs, hq, hqs⟩ := perm_lift hp ps rfl
    refine ⟨sI r, qs, Ev.neg (by omega) (Ev.bind r1 s1), Ev.neg (by omega) (Ev.bind r2 s2), hb0, by omega, hqs, fun p h => ⟨b (by omega) p (hq.symm.subset h), a p (hq.symm.subset h)⟩, ?_, ?_⟩
    · rw [← sN_perm (hq.map _)]; exact c
    · rw [← sI_perm (hq.map _)]; exact d
theorem pow_small {m n : Nat} (hm : 2 ≤ m ∧ m ≤ 3) (hn : n ≤ 11) : 1 ≤ m ^ n ∧ m ^ n ≤ 177147 := by
  have e : (3 : Nat) ^ 11 = 177147 := by decide
  exact ⟨Nat.pow_pos (by omega), by rw [← e]; exact Nat.le_trans (Nat.pow_le_pow_left hm.2 _) (Nat.pow_le_pow_right (by omega) hn)⟩
theorem krPower_l0 (b m : Nat) (hb : 1 ≤ b) (hp : b ^ m < 4611686018427387904) (hm : m ≤ 1048576) : ∀ (d i : Nat), i + d = m → Ev (fun k => spec_krPower.l0 k (b : Int) (d : Int) ((b ^ i : Nat) : Int)) ((b ^ m : Nat) : Int)
  | 0, i, hd => by
    refine Ev.succ ?_
    simp only [spec_krPower.l0]
    exact Ev.neg (by omega) (Ev.pure (by rw [show i = m by omega]))
  | d + 1, i, hd => by
    have ih := krPower_l0 b m hb hp hm d (i + 1) (by omega)
    have h1 : b ^ (i + 1) ≤ b ^ m := Nat.pow_le_pow_right hb (by omega)
    have e : Aside0 (wrap64 (((b ^ i : Nat) : Int) * (b : Int)) = ((b ^ (i + 1) : Nat) : Int)) := ⟨by
      rw [← Int.natCast_mul, show b ^ i * b = b ^ (i + 1) from rfl]; exact w64 (by omega) (by omega)⟩
    have e2 : Aside0 (wrap64 (((d + 1 : Nat) : Int) - 1) = (d : Int)) := ⟨by rw [w64 (by omega) (by omega)]; omega⟩
    refine Ev.succ ?_
    simp only [spec_krPower.l0, e.out, e2.out]
    exact Ev.pos (by omega) ih
theorem krPower_ev (b m : Nat) (hb : 1 ≤ b) (hp : b ^ m < 4611686018427387904) (hm : m ≤ 1048576) : Ev (fun k => spec_krPower.f k (b : Int) (m : Int)) ((b ^ m : Nat) : Int) := by
  have h := krPower_l0 b m hb hp hm m 0 (by omega)
  simpa [spec_krPower.f] using h
theorem power_l0 (b m : Nat) (hb : 1 ≤ b) (hp : b ^ m < 4611686018427387904) (hm : m ≤ 1048576) : ∀ (d i : Nat), i + d = m → Ev (fun k => impl_power.l0 k (b : Int) ((b ^ i : Nat) : Int) (m : Int) (i : Int)) ((b ^ m : Nat) : Int)
  | 0, i, hd => by
    refine Ev.succ ?_
    simp only [impl_power.l0]
    exact Ev.neg (by omega) (Ev.pure (by rw [show i = m by omega]))
  | d + 1, i, hd => by
    have ih := power_l0 b m hb hp hm d (i + 1) (by omega)
    have h1 : b ^ (i + 1) ≤ b ^ m := Nat.pow_le_pow_right hb (by omega)
    have e : Aside0 (wrap64 (((b ^ i : Nat) : Int) * (b : Int)) = ((b ^ (i + 1) : Nat) : Int)) := ⟨by
      rw [← Int.natCast_mul, show b ^ i * b = b ^ (i + 1) from rfl]; exact w64 (by omega) (by omega)⟩
    refine Ev.succ ?_
    simp only [impl_power.l0, e.out, w1 (show 0 ≤ (i : Int) by omega) (show (i : Int) < 9223372036854775807 by omega)]
    exact Ev.pos (by omega) ih
theorem power_ev (b m : Nat) (hb : 1 ≤ b) (hp : b ^ m < 4611686018427387904) (hm : m ≤ 1048576) : Ev (fun k => impl_power.f k (b : Int) (m : Int)) ((b ^ m : Nat) : Int) := by
  have h := power_l0 b m hb hp hm m 0 (by omega)
  simpa [impl_power.f] using h
def solL (m : Nat) (x : Int) (rec : Int → Int → List (List Int)) (s c : Int) : Nat → Nat → List (List Int)
  | 0, _ => []
  | d + 1, l => (if 0 ≤ c - (l : Int) * x ∧ 0 ≤ s - ((m ^ (11 - l) : Nat) : Int) then (rec (s - ((m ^ (11 - l) : Nat) : Int)) (c - (l : Int) * x)).map (fun t => (l : Int) :: t) else []) ++ solL m x rec s c d (l + 1)
def sols (m : Nat) : List Int → Int → Int → List (List Int)
  | [], _, c => if c = 0 then [[]] else []
  | x :: xs, s, c => solL m x (sols m xs) s c 11 1
theorem solL_nil (m : Nat) (x : Int) (hx : 0 ≤ x) (rec : Int → Int → List (List Int)) (s c : Int) : ∀ (d l : Nat), c - (l : Int) * x < 0 → solL m x rec s c d l = []
  | 0, _, _ => rfl
  | d + 1, l, h => by
    have e : ((l + 1 : Nat) : Int) * x = (l : Int) * x + x := by rw [Int.natCast_add, Int.add_mul]; simp
    rw [solL, if_neg (fun h2 => by omega), solL_nil m x hx rec s c d (l + 1) (by omega)]
    rfl
theorem solL_len (m : Nat) (x : Int) (rec : Int → Int → List (List Int)) (s c : Int) (N : Nat) (h : ∀ a b, (rec a b).length ≤ N) : ∀ (d l : Nat), (solL m x rec s c d l).length ≤ d * N
  | 0, _ => by simp [solL]
  | d + 1, l => by
    have ih := solL_len m x rec s c N h d (l + 1)
    rw [solL, List.length_append, Nat.add_mul, Nat.one_mul]
    split
    · rw [List.length_map]; have := h (s - ((m ^ (11 - l) : Nat) : Int)) (c - (l : Int) * x); omega
    · simp; omega
theorem sols_len (m : Nat) : ∀ (xs : List Int) (s c : Int), (sols m xs s c).length ≤ 11 ^ xs.length
  | [], s, c => by
    unfold sols
    split <;> simp
  | x :: xs, s, c => by
    rw [sols, List.length_cons, Nat.pow_succ, Nat.mul_comm]
    exact solL_len m x (sols m xs) s c _ (sols_len m xs) 11 1
theorem solL_mem (m : Nat) (x : Int) (rec : Int → Int → List (List Int)) (s c : Int) (l' : Nat) (t : List Int) (h1 : 0 ≤ c - (l' : Int) * x) (h2 : 0 ≤ s - ((m ^ (11 - l') : Nat) : Int)) (ht : t ∈ rec (s - ((m ^ (11 - l') : Nat) : Int)) (c - (l' : Int) * x)) : ∀ (d l : Nat), l ≤ l' → l' < l + d → ((l' : Int) :: t) ∈ solL m x rec s c d l
  | 0, l, ha, hb => by omega
  | d + 1, l, ha, hb => by
    rw [solL, List.mem_append]
    by_cases e : l' = l
    · subst e
      left
      rw [if_pos ⟨h1, h2⟩]
      exact List.mem_map.2 ⟨t, ht, rfl⟩
    · right
      exact solL_mem m x rec s c l' t h1 h2 ht d (l + 1) (by omega) (by omega)
theorem sols_mem (m : Nat) : ∀ (ps : List (Int × Nat)) (s c : Int), (∀ p ∈ ps, 1 ≤ p.2 ∧ p.2 ≤ 11) → (∀ p ∈ ps, 0 ≤ p.1) → ((sN (ps.map (fun p => m ^ (11 - p.2))) : Nat) : Int) ≤ s → sI (ps.map (fun p => (p.2 : Int) * p.1)) = c → ps.map (fun p => (p.2 : Int)) ∈ sols m (ps.map Prod.fst) s c
  | [], s, c, _, _, _, h => by
    simp only [List.map_nil, sI] at h
    simp [sols, ← h]
  | p :: ps, s, c, h1, h2, h3, h4 => by
    simp only [List.map_cons, sI, sN] at h3 h4 ⊢
    have hp := h1 p (by simp)
    have hn : 0 ≤ sI (ps.map (fun p => (p.2 : Int) * p.1)) := sI_nonneg _ (fun x hx => by
      obtain ⟨q, hq, rfl⟩ := List.mem_map.1 hx
      exact Int.mul_nonneg (by omega) (h2 q (by simp [hq])))
    have ih := sols_mem m ps (s - ((m ^ (11 - p.2) : Nat) : Int)) (c - (p.2 : Int) * p.1) (fun q hq => h1 q (by simp [hq])) (fun q hq => h2 q (by simp [hq])) (by omega) (by omega)
    exact solL_mem m p.1 (sols m (ps.map Prod.fst)) s c p.2 _ (by omega) (by omega) ih 11 1 hp.1 (by omega)
theorem solL_each (m : Nat) (x : Int) (rec : Int → Int → List (List Int)) (s c : Int) (n : Nat) (h : ∀ a b t, t ∈ rec a b → t.length = n) : ∀ (d l : Nat) (t : List Int), t ∈ solL m x rec s c d l → t.length = n + 1
  | 0, _, t, ht => by simp [solL] at ht
  | d + 1, l, t, ht => by
    rw [solL, List.mem_append] at ht
    rcases ht with ht | ht
    · split at ht
      · obtain ⟨u, hu, rfl⟩ := List.mem_map.1 ht
        rw [List.length_cons, h _ _ u hu]
      · simp at ht
    · exact solL_each m x rec s c n h d (l + 1) t ht
theorem sols_each (m : Nat) : ∀ (xs : List Int) (s c : Int) (t : List Int), t ∈ sols m xs s c → t.length = xs.length
  | [], s, c, t, ht => by
    unfold sols at ht
    split at ht
    · rw [List.mem_singleton] at ht; rw [ht]
    · simp at ht
  | x :: xs, s, c, t, ht => solL_each m x (sols m xs) s c xs.length (fun a b t h => sols_each m xs a b t h) 11 1 t ht
def upd (f : List Int) (cnt : Int) : List (List Int) → List Int × Int
  | [] => (f, cnt)
  | a :: t => (if cnt = 0 then a else f, cnt + ((t.length : Int) + 1))
theorem upd_append (f : List Int) (cnt : Int) (h : 0 ≤ cnt) (A B : List (List Int)) : upd f cnt (A ++ B) = upd (upd f cnt A).1 (upd f cnt A).2 B := by
  cases A with
  | nil => rfl
  | cons a t =>
    cases B with
    | nil => simp [upd]
    | cons b u =>
      show upd f cnt (a :: (t ++ b :: u)) = upd (if cnt = 0 then a else f) (cnt + ((t.length : Int) + 1)) (b :: u)
      have hne : ¬ cnt + ((t.length : Int) + 1) = 0 := by omega
      show ((if cnt = 0 then a else f), cnt + (((t ++ b :: u).length : Int) + 1)) = (if cnt + ((t.length : Int) + 1) = 0 then b else (if cnt = 0 then a else f), cnt + ((t.length : Int) + 1) + ((u.length : Int) + 1))
      rw [if_neg hne, List.length_append, List.length_cons]
      congr 1
      omega
theorem upd_cnt (f : List Int) (cnt : Int) (A : List (List Int)) : (upd f cnt A).2 = cnt + (A.length : Int) := by
  cases A with
  | nil => simp [upd]
  | cons a t => simp [upd]
theorem drop_at (ws : List Int) (i : Nat) (h : i < ws.length) : ws.drop i = rd ws (i : Int) :: ws.drop (i + 1) := by rw [rd_nat ws i h, List.drop_eq_getElem_cons h]
theorem rd_in (ws : List Int) (i : Nat) (h : i < ws.length) (hx : ∀ x ∈ ws, 1 ≤ x ∧ x ≤ 100) : 1 ≤ rd ws (i : Int) ∧ rd ws (i : Int) ≤ 100 := by rw [rd_nat ws i h]; exact hx _ (List.getElem_mem h)
theorem mul_le_1100 {l : Nat} {x : Int} (hl : l ≤ 12) (hx : 1 ≤ x ∧ x ≤ 100) : 0 ≤ (l : Int) * x ∧ (l : Int) * x ≤ 1200 := by
  refine ⟨Int.mul_nonneg (by omega) (by omega), ?_⟩
  have h1 := Int.mul_le_mul_of_nonneg_left hx.2 (show (0 : Int) ≤ (l : Int) by omega)
  omega
theorem map_pre (list : List Int) (l : Int) (A : List (List Int)) : (A.map (fun t => l :: t)).map (list ++ ·) = A.map ((list ++ [l]) ++ ·) := by
  rw [List.map_map]
  congr 1
  funext t
  simp
theorem seek_ev (ws : List Int) (hw : ws.length ≤ 6) (hx : ∀ x ∈ ws, 1 ≤ x ∧ x ≤ 100) (m : Nat) (hm : 2 ≤ m ∧ m ≤ 3) : ∀ (d : Nat) (list : List Int) (share cost : Int) (f : List Int) (cnt : Int), list.length + d = ws.length → 0 ≤ share → share ≤ 1000000 → 0 ≤ cost → cost ≤ 1000000 → 0 ≤ cnt → cnt + ((11 ^ d : Nat) : Int) ≤ 1000000000 →
    Ev (fun k => spec_beFind.seek k ws (m : Int) list share cost f cnt) (upd f cnt ((sols m (ws.drop list.length) share cost).map (list ++ ·)))
  | 0, list, share, cost, f, cnt, hd, s1, s2, c1, c2, n1, n2 => by
    refine Ev.succ ?_
    simp only [spec_beFind.seek]
    have ec : Aside0 (wrap64 (cnt + 1) = cnt + 1) := ⟨w64 (by omega) (by omega)⟩
    refine Ev.neg (by omega) (Ev.neg (by omega) (Ev.pos (by omega) (Ev.pos (by omega) ?_)))
    rw [List.drop_of_length_le (by omega)]
    by_cases e : cost = 0
    · have hs : sols m [] share cost = [[]] := by rw [sols, if_pos e]
      rw [hs, ec.out]
      simp only [List.map_cons, List.map_nil, List.append_nil, upd]
      refine Ev.pos e (Ev.cases (fun h => ?_) (fun h => ?_))
      · rw [if_pos h]; exact Ev.now _
      · rw [if_neg h]; exact Ev.now _
    · have hs : sols m [] share cost = [] := by rw [sols, if_neg e]
      rw [hs]
      exact Ev.neg e (Ev.now _)
  | d + 1, list, share, cost, f, cnt, hd, s1, s2, c1, c2, n1, n2 => by
    have hi : list.length < ws.length := by omega
    have hx0 := rd_in ws list.length hi hx
    rw [drop_at ws list.length hi]
    generalize hrd0 : rd ws (list.length : Int) = x at hx0 ⊢
    have hN : (11 : Nat) ^ (d + 1) = 11 * 11 ^ d := by rw [Nat.pow_succ, Nat.mul_comm]
    have loop : ∀ (e l : Nat) (f : List Int) (cnt : Int), l + e = 12 → 1 ≤ l → 0 ≤ cnt → cnt + ((e * 11 ^ d : Nat) : Int) ≤ 1000000000 → rd ws (list.length : Int) = x →
        Ev (fun k => spec_beFind.loop k ws (m : Int) list share cost f cnt l) (upd f cnt ((solL m x (sols m (ws.drop (list.length + 1))) share cost e l).map (list ++ ·))) := by
      intro e
      induction e with
      | zero =>
        intro l f cnt he hl hc hb _
        refine Ev.succ ?_
        simp only [spec_beFind.loop]
        exact Ev.neg (by omega) (Ev.now _)
      | succ e ih =>
        intro l f cnt he hl hc hb hrd
        have hlx := mul_le_1100 (l := l) (by omega) hx0
        have hp := pow_small (m := m) (n := 11 - l) hm (by omega)
        have kp := krPower_ev m (11 - l) (by omega) (by omega) (by omega)
        rw [show ((11 - l : Nat) : Int) = 11 - (l : Int) by omega] at kp
        generalize hP : m ^ (11 - l) = P at hp kp
        have e1 : Aside0 (wrap64 (share - (P : Int)) = share - (P : Int)) := ⟨w64 (by omega) (by omega)⟩
        have e2 : Aside0 (wrap64 ((l : Int) * x) = (l : Int) * x) := ⟨w64 (by omega) (by omega)⟩
        generalize hL : (l : Int) * x = L at hlx e2
        have e3 : Aside0 (wrap64 (cost - L) = cost - L) := ⟨w64 (by omega) (by omega)⟩
        have hmul : (e + 1) * 11 ^ d = e * 11 ^ d + 11 ^ d := by rw [Nat.add_mul, Nat.one_mul]
        rw [hmul] at hb
        refine Ev.succ ?_
        simp only [spec_beFind.loop, hrd, hL, e1.out, e2.out, e3.out]
        rw [solL, hP, hL, List.map_append, upd_append f cnt hc]
        refine Ev.pos (by omega) (Ev.bind kp ?_)
        simp only [e1.out]
        by_cases c : 0 ≤ cost - L ∧ 0 ≤ share - (P : Int)
        · rw [if_pos c, map_pre]
          have hlen : ((((sols m (ws.drop (list.length + 1)) (share - (P : Int)) (cost - L)).map ((list ++ [(l : Int)]) ++ ·)).length : Nat) : Int) ≤ ((11 ^ d : Nat) : Int) := by
            rw [List.length_map]
            have h9 := sols_len m (ws.drop (list.length + 1)) (share - (P : Int)) (cost - L)
            rw [List.length_drop, show ws.length - (list.length + 1) = d by omega] at h9
            omega
          have h1 := seek_ev ws hw hx m hm d (list ++ [(l : Int)]) (share - (P : Int)) (cost - L) f cnt (by simp; omega) (by omega) (by omega) (by omega) (by omega) hc (by omega)
          rw [show (list ++ [(l : Int)]).length = list.length + 1 by simp] at h1
          refine Ev.bind h1 ?_
          have hu := upd_cnt f cnt ((sols m (ws.drop (list.length + 1)) (share - (P : Int)) (cost - L)).map ((list ++ [(l : Int)]) ++ ·))
          exact ih (l + 1) _ _ (by omega) (by omega) (by omega) (by omega) hrd
        · rw [if_neg c]
          refine Ev.bind (a := (f, cnt)) (Ev.succ ?_) ?_
          · simp only [spec_beFind.seek]
            by_cases c1 : cost - L < 0
            · exact Ev.pos c1 (Ev.now _)
            · exact Ev.neg c1 (Ev.pos (by omega) (Ev.now _))
          · exact ih (l + 1) f cnt (by omega) (by omega) hc (by omega) hrd
    refine Ev.succ ?_
    simp only [spec_beFind.seek]
    refine Ev.neg (by omega) (Ev.neg (by omega) (Ev.pos (by omega) (Ev.neg (by omega) ?_)))
    exact loop 11 1 f cnt (by omega) (by omega) n1 (by omega) hrd0
theorem add_ev (ws : List Int) (hw : ws.length ≤ 6) (hx : ∀ x ∈ ws, 1 ≤ x ∧ x ≤ 100) (m : Nat) (hm : 2 ≤ m ∧ m ≤ 3) (due : Int) (hdue : due ≤ 1000000) : ∀ (d : Nat) (done : List Int) (cost left : Int) (out : List (List Int)), done.length + d = ws.length → 0 ≤ left → left ≤ 1000000 → 0 ≤ cost → cost ≤ due → out.length + 11 ^ d ≤ 1000000000 →
    Ev (fun k => impl_allBest.add k ws due (m : Int) done cost left out) (out ++ (sols m (ws.drop done.length) left (due - cost)).map (done ++ ·))
  | 0, done, cost, left, out, hd, s1, s2, c1, c2, n2 => by
    refine Ev.succ ?_
    simp only [impl_allBest.add]
    refine Ev.pos (by omega) (Ev.pos (by omega) ?_)
    rw [List.drop_of_length_le (by omega)]
    by_cases e : cost = due
    · have hs : sols m [] left (due - cost) = [[]] := by rw [sols, if_pos (by omega)]
      rw [hs]
      simp only [List.map_cons, List.map_nil, List.append_nil]
      exact Ev.pos e (Ev.now _)
    · have hs : sols m [] left (due - cost) = [] := by rw [sols, if_neg (by omega)]
      rw [hs]
      exact Ev.neg e (Ev.pure (by simp))
  | d + 1, done, cost, left, out, hd, s1, s2, c1, c2, n2 => by
    have hi : done.length < ws.length := by omega
    have hx0 := rd_in ws done.length hi hx
    rw [drop_at ws done.length hi]
    generalize hrd0 : rd ws (done.length : Int) = x at hx0 ⊢
    have hN : (11 : Nat) ^ (d + 1) = 11 * 11 ^ d := by rw [Nat.pow_succ, Nat.mul_comm]
    have loop : ∀ (e l : Nat) (out : List (List Int)), l + e = 12 → 1 ≤ l → out.length + e * 11 ^ d ≤ 1000000000 → rd ws (done.length : Int) = x →
        Ev (fun k => impl_allBest.loop k ws due (m : Int) done cost left out l) (out ++ (solL m x (sols m (ws.drop (done.length + 1))) left (due - cost) e l).map (done ++ ·)) := by
      intro e
      induction e with
      | zero =>
        intro l out he hl hb _
        refine Ev.succ ?_
        simp only [impl_allBest.loop]
        exact Ev.neg (by omega) (Ev.pure (by simp [solL]))
      | succ e ih =>
        intro l out he hl hb hrd
        have hlx := mul_le_1100 (l := l) (by omega) hx0
        have hp := pow_small (m := m) (n := 11 - l) hm (by omega)
        have kp := power_ev m (11 - l) (by omega) (by omega) (by omega)
        rw [show ((11 - l : Nat) : Int) = 11 - (l : Int) by omega] at kp
        have hcomm : x * (l : Int) = (l : Int) * x := Int.mul_comm _ _
        have hmul : (e + 1) * 11 ^ d = e * 11 ^ d + 11 ^ d := by rw [Nat.add_mul, Nat.one_mul]
        rw [hmul] at hb
        have e2 : Aside0 (wrap64 ((l : Int) * x) = (l : Int) * x) := ⟨w64 (by omega) (by omega)⟩
        by_cases c0 : due - cost - (l : Int) * x < 0
        · rw [solL_nil m x (by omega) _ left (due - cost) (e + 1) l c0]
          have e3 : Aside0 (wrap64 (cost + (l : Int) * x) = cost + (l : Int) * x) := ⟨w64 (by omega) (by omega)⟩
          refine Ev.succ ?_
          simp only [impl_allBest.loop, hrd, hcomm, e2.out, e3.out]
          exact Ev.pos (by omega) (Ev.neg (by omega) (Ev.pure (by simp)))
        · generalize hP : m ^ (11 - l) = P at hp kp
          have e1 : Aside0 (wrap64 (left - (P : Int)) = left - (P : Int)) := ⟨w64 (by omega) (by omega)⟩
          generalize hL : (l : Int) * x = L at hlx e2 c0 hcomm
          have e3 : Aside0 (wrap64 (cost + L) = cost + L) := ⟨w64 (by omega) (by omega)⟩
          refine Ev.succ ?_
          simp only [impl_allBest.loop, hrd, hcomm, e2.out, e3.out]
          rw [solL, hP, hL, List.map_append, ← List.append_assoc]
          refine Ev.pos (by omega) (Ev.pos (by omega) (Ev.bind kp ?_))
          simp only [e1.out]
          by_cases c : (P : Int) ≤ left
          · rw [if_pos ⟨by omega, by omega⟩, map_pre]
            have hlen : ((sols m (ws.drop (done.length + 1)) (left - (P : Int)) (due - cost - L)).map ((done ++ [(l : Int)]) ++ ·)).length ≤ 11 ^ d := by
              rw [List.length_map]
              have h9 := sols_len m (ws.drop (done.length + 1)) (left - (P : Int)) (due - cost - L)
              rw [List.length_drop, show ws.length - (done.length + 1) = d by omega] at h9
              exact h9
            have h1 := add_ev ws hw hx m hm due hdue d (done ++ [(l : Int)]) (cost + L) (left - (P : Int)) out (by simp; omega) (by omega) (by omega) (by omega) (by omega) (by omega)
            rw [show (done ++ [(l : Int)]).length = done.length + 1 by simp, show due - (cost + L) = due - cost - L by omega] at h1
            refine Ev.pos c (Ev.bind h1 ?_)
            exact ih (l + 1) _ (by omega) (by omega) (by rw [List.length_append]; omega) hrd
          · rw [if_neg (by omega), List.map_nil, List.append_nil]
            exact Ev.neg c (ih (l + 1) out (by omega) (by omega) (by omega) hrd)
    refine Ev.succ ?_
    simp only [impl_allBest.add]
    have h9 : out.length ≤ 1000000000000 := by have : 1 ≤ 11 ^ (d + 1) := Nat.pow_pos (by omega); omega
    refine Ev.pos (by omega) (Ev.neg (by omega) ?_)
    exact loop 11 1 out (by omega) (by omega) (by omega) hrd0
theorem search_same (l : List Int) (m : Nat) (h1 : 1 ≤ l.length) (hl : l.length ≤ 6) (hm : 2 ≤ m ∧ m ≤ 3) (hx : ∀ x ∈ l, 1 ≤ x ∧ x ≤ 100) : ∃ S : List (List Int), S ≠ [] ∧ (∀ t ∈ S, t.length = l.length) ∧ Ev (fun k => spec_beFind.f k l (m : Int)) (upd [] 0 S) ∧ Ev (fun k => impl_allBest.f k l (m : Int)) S := by
  obtain ⟨B, ps, b1, b2, b3, b4, p1, p2, p3, p4⟩ := best_fits l m h1 (by omega) hm hx
  have hp := pow_small (m := m) (n := 11) hm (by omega)
  have k1 := krPower_ev m 11 (by omega) (by omega) (by omega)
  have k2 := power_ev m 11 (by omega) (by omega) (by omega)
  have h6 : (11 : Nat) ^ l.length ≤ 1771561 := by
    have : (11 : Nat) ^ 6 = 1771561 := by decide
    rw [← this]
    exact Nat.pow_le_pow_right (by omega) hl
  have s1 := seek_ev l hl hx m hm l.length [] ((m ^ 11 : Nat) : Int) B [] 0 (by simp) (by omega) (by omega) b3 b4 (by omega) (by omega)
  have s2 := add_ev l hl hx m hm B b4 l.length [] 0 ((m ^ 11 : Nat) : Int) [] (by simp) (by omega) (by omega) (by omega) (by omega) (by simp; omega)
  have hmap : ∀ A : List (List Int), A.map (([] : List Int) ++ ·) = A := fun A => by simp
  rw [List.length_nil, List.drop_zero, hmap] at s1 s2
  rw [List.nil_append, Int.sub_zero] at s2
  have hmem := sols_mem m ps ((m ^ 11 : Nat) : Int) B p2 (fun p hp => by have := hx p.1 (by rw [← p1]; exact List.mem_map_of_mem hp); omega) (by omega) p4
  rw [p1] at hmem
  refine ⟨sols m l ((m ^ 11 : Nat) : Int) B, fun h => by rw [h] at hmem; simp at hmem, ?_, ?_, ?_⟩
  · exact fun t ht => sols_each m l _ _ t ht
  · unfold spec_beFind.f
    exact Ev.bind k1 (Ev.bind b1 s1)
  · unfold impl_allBest.f
    exact Ev.bind b2 (Ev.bind k2 s2)
def dot : List Int → List Nat → Int
  | w :: ws, l :: ls => (l : Int) * w + dot ws ls
  | _, _ => 0
theorem dot_append : ∀ (a b : List Int) (x y : List Nat), x.length = a.length → dot (a ++ b) (x ++ y) = dot a x + dot b y
  | [], b, [], y, _ => by simp [dot]
  | w :: a, b, l :: x, y, h => by
    have ih := dot_append a b x y (by simpa using h)
    simp only [List.cons_append, dot, ih]; omega
theorem dot_rep (d : Nat) : ∀ ws : List Int, dot ws (List.replicate ws.length d) = (d : Int) * sI ws
  | [] => by simp [dot, sI]
  | w :: ws => by rw [List.length_cons, List.replicate_succ, dot, dot_rep d ws, sI, Int.mul_add]
theorem dot_zip : ∀ (ws : List Int) (ls : List Nat), ls.length = ws.length → dot ws ls = sI ((ws.zip ls).map fun p => (p.2 : Int) * p.1)
  | [], [], _ => by simp [dot, sI]
  | w :: ws, l :: ls, h => by
    have ih := dot_zip ws ls (by simpa using h)
    simp only [dot, ih, List.zip_cons_cons, List.map_cons, sI]
theorem dot_pairs : ∀ ps : List (Int × Nat), sI (ps.map fun p => (p.2 : Int) * p.1) = dot (ps.map Prod.fst) (ps.map Prod.snd)
  | [] => by simp [dot, sI]
  | p :: ps => by simp only [List.map_cons, sI, dot, dot_pairs ps]
theorem max_of : ∀ (l : List Nat), l ≠ [] → ∃ x ∈ l, ∀ y ∈ l, y ≤ x
  | [], h => absurd rfl h
  | [x], _ => ⟨x, by simp, by simp⟩
  | x :: y :: l, _ => by
    obtain ⟨z, hz, h⟩ := max_of (y :: l) (by simp)
    by_cases c : x ≤ z
    · exact ⟨z, List.mem_cons_of_mem _ hz, fun q hq => by
        rcases List.mem_cons.1 hq with rfl | hq
        · exact c
        · exact h q hq⟩
    · exact ⟨x, by simp, fun q hq => by
        rcases List.mem_cons.1 hq with rfl | hq
        · exact Nat.le_refl _
        · have := h q hq; omega⟩
theorem dot_swap (w : Int) (M l : Nat) (h : l ≤ M) : ∀ (ws : List Int) (a b : List Nat), (a ++ M :: b).length = ws.length → (∀ v ∈ ws, w ≤ v) → (M : Int) * w + dot ws (a ++ l :: b) ≤ (l : Int) * w + dot ws (a ++ M :: b)
  | [], a, b, hl, _ => by simp at hl
  | v :: ws, [], b, hl, hw => by
    have hv := hw v (by simp)
    simp only [List.nil_append, dot]
    obtain ⟨e, rfl⟩ : ∃ e, M = l + e := ⟨M - l, by omega⟩
    have q : (e : Int) * w ≤ (e : Int) * v := Int.mul_le_mul_of_nonneg_left hv (by omega)
    rw [Int.natCast_add, Int.add_mul, Int.add_mul]
    omega
  | v :: ws, x :: a, b, hl, hw => by
    have ih := dot_swap w M l h ws a b (by simpa using hl) (fun u hu => hw u (by simp [hu]))
    simp only [List.cons_append, dot]
    omega
theorem rearr : ∀ (ws : List Int) (ls : List Nat), ls.length = ws.length → ws.Pairwise (fun x y => x ≤ y) → ∃ ls' : List Nat, ls'.Perm ls ∧ ls'.Pairwise (fun x y => y ≤ x) ∧ dot ws ls' ≤ dot ws ls
  | [], [], _, _ => ⟨[], List.Perm.refl _, by simp, by simp [dot]⟩
  | w :: ws, l :: ls, hl, hs => by
    have hs' := List.pairwise_cons.1 hs
    have hl' : ls.length = ws.length := by simpa using hl
    obtain ⟨M, hM, hmax⟩ := max_of (l :: ls) (by simp)
    by_cases e : M = l
    · subst e
      obtain ⟨r, r1, r2, r3⟩ := rearr ws ls hl' hs'.2
      refine ⟨M :: r, r1.cons M, List.pairwise_cons.2 ⟨fun x hx => hmax x (List.mem_cons_of_mem _ (r1.subset hx)), r2⟩, ?_⟩
      simp only [dot]; omega
    · have hM' : M ∈ ls := by
        rcases List.mem_cons.1 hM with h | h
        · exact absurd h e
        · exact h
      obtain ⟨a, b, rfl⟩ := List.append_of_mem hM'
      have hlM := hmax l (by simp)
      have hsw := dot_swap w M l hlM ws a b hl' hs'.1
      obtain ⟨r, r1, r2, r3⟩ := rearr ws (a ++ l :: b) (by simp at hl' ⊢; omega) hs'.2
      have hperm : (M :: (a ++ l :: b)).Perm (l :: (a ++ M :: b)) := by
        have p1 : (a ++ l :: b).Perm (l :: (a ++ b)) := List.perm_middle
        have p2 : (a ++ M :: b).Perm (M :: (a ++ b)) := List.perm_middle
        exact ((p1.cons M).trans (List.Perm.swap l M (a ++ b))).trans (p2.symm.cons l)
      refine ⟨M :: r, (r1.cons M).trans hperm, List.pairwise_cons.2 ⟨fun x hx => hmax x ?_, r2⟩, ?_⟩
      · exact hperm.subset (List.mem_cons_of_mem _ (r1.subset hx))
      · simp only [dot]; omega
theorem desc_cut (D : Nat) : ∀ ls : List Nat, ls.Pairwise (fun x y => y ≤ x) → (∀ l ∈ ls, l ≤ D) → ∃ (k : Nat) (r : List Nat), ls = List.replicate k D ++ r ∧ ∀ l ∈ r, l < D
  | [], _, _ => ⟨0, [], rfl, by simp⟩
  | l :: ls, h, hD => by
    have h' := List.pairwise_cons.1 h
    by_cases e : l = D
    · subst e
      obtain ⟨k, r, h1, h2⟩ := desc_cut l ls h'.2 (fun x hx => hD x (by simp [hx]))
      exact ⟨k + 1, r, by rw [List.replicate_succ, List.cons_append, ← h1], h2⟩
    · have hl := hD l (by simp)
      exact ⟨0, l :: ls, rfl, fun x hx => by
        rcases List.mem_cons.1 hx with rfl | hx
        · omega
        · have := h'.1 x hx; omega⟩
def ks (m D : Nat) (ls : List Nat) : Nat := sN (ls.map fun l => m ^ (D - l))
theorem ks_append (m D : Nat) (a b : List Nat) : ks m D (a ++ b) = ks m D a + ks m D b := by unfold ks; rw [List.map_append, sN_append]
theorem ks_cons (m D l : Nat) (b : List Nat) : ks m D (l :: b) = m ^ (D - l) + ks m D b := rfl
theorem ks_rep (m D : Nat) : ∀ k, ks m D (List.replicate k D) = k
  | 0 => rfl
  | k + 1 => by rw [List.replicate_succ, ks_cons, ks_rep m D k, Nat.sub_self, Nat.pow_zero]; omega
theorem ks_perm (m D : Nat) {a b : List Nat} (h : a.Perm b) : ks m D a = ks m D b := sN_perm (h.map _)
theorem ks_up (m D : Nat) : ∀ r : List Nat, (∀ l ∈ r, l < D + 1) → ks m (D + 1) r = m * ks m D r
  | [], _ => by simp [ks, sN]
  | l :: r, h => by
    have h1 := h l (by simp)
    have ih := ks_up m D r (fun x hx => h x (by simp [hx]))
    rw [ks_cons, ks_cons, ih, Nat.mul_add, show D + 1 - l = (D - l) + 1 by omega, Nat.pow_succ, Nat.mul_comm m (m ^ (D - l))]
theorem pow3_odd : ∀ n : Nat, 3 ^ n % 2 = 1
  | 0 => rfl
  | n + 1 => by have := pow3_odd n; rw [Nat.pow_succ]; omega
theorem ks_odd (D : Nat) : ∀ r : List Nat, ks 3 D r % 2 = r.length % 2
  | [] => rfl
  | l :: r => by
    have h1 := pow3_odd (D - l)
    have ih := ks_odd D r
    rw [ks_cons, List.length_cons]; omega
theorem least_step (m t : Nat) (ws : List Int) (hs : ws.Pairwise (fun x y => x ≤ y)) (h0 : ∀ w ∈ ws, 0 ≤ w) (h2 : 2 ≤ ws.length) (ht : TakeOk m t ws.length) : ∀ (N D : Nat) (ls : List Nat), D + sN ls ≤ N → ls.length = ws.length → (∀ l ∈ ls, l ≤ D) → ks m D ls ≤ m ^ D →
    ∃ (E : Nat) (r : List Nat), r.length = (ws.drop t).length ∧ (∀ l ∈ r, l ≤ E + 1) ∧ ks m (E + 1) r + m ≤ m ^ (E + 1) ∧ (E : Int) * sI (ws.take t) + dot (ws.drop t) r + sI (ws.take t) ≤ dot ws ls := by
  intro N
  induction N with
  | zero =>
    intro D ls hN hl hD hk
    exfalso
    have hD0 : D = 0 := by omega
    subst hD0
    have : ks m 0 ls = ls.length := by
      have : ls = List.replicate ls.length 0 := List.eq_replicate_iff.2 ⟨rfl, fun l hl => by have := hD l hl; omega⟩
      rw [this, ks_rep, List.length_replicate]
    rw [this, Nat.pow_zero] at hk
    omega
  | succ N ih =>
    intro D ls hN hl hD hk
    obtain ⟨l1, p1, p2, p3⟩ := rearr ws ls hl hs
    have hl1 : l1.length = ws.length := by rw [p1.length_eq]; exact hl
    have hD1 : ∀ l ∈ l1, l ≤ D := fun l h => hD l (p1.subset h)
    rw [← ks_perm m D p1] at hk
    rw [← sN_perm p1] at hN
    obtain ⟨k, r, rfl, hr⟩ := desc_cut D l1 p2 hD1
    rw [ks_append, ks_rep] at hk
    have hlen : k + r.length = ws.length := by rw [← hl1]; simp
    cases D with
    | zero =>
      exfalso
      have : r = [] := by
        cases r with
        | nil => rfl
        | cons x r => have := hr x (by simp); omega
      subst this
      simp [ks, sN] at hk hlen
      omega
    | succ D =>
      have hup := ks_up m D r hr
      rw [hup] at hk
      have hpow : m ^ (D + 1) = m * m ^ D := by rw [Nat.pow_succ, Nat.mul_comm]
      rw [hpow] at hk
      have hm : 2 ≤ m ∧ m ≤ 3 := by rcases ht with ⟨a, b⟩ | ⟨a, b⟩ <;> omega
      have htk : 2 ≤ t ∧ t ≤ m := by rcases ht with ⟨a, b⟩ | ⟨a, ⟨b, c⟩ | ⟨b, c⟩⟩ <;> omega
      by_cases hk0 : k = 0
      · subst hk0
        simp only [List.replicate_zero, List.nil_append] at *
        have hk' : ks m D r ≤ m ^ D := by
          rw [Nat.zero_add] at hk
          exact Nat.le_of_mul_le_mul_left hk (by omega)
        rcases ih D r (by omega) hl1 (fun l h => by have := hr l h; omega) hk' with ⟨E, q, c1, c2, c3, c4⟩
        exact ⟨E, q, c1, c2, c3, by omega⟩
      · obtain ⟨A, hA⟩ : ∃ A, A = ks m D r := ⟨_, rfl⟩
        obtain ⟨B, hB⟩ : ∃ B, B = m ^ D := ⟨_, rfl⟩
        have hodd : m = 3 → (A % 2 = r.length % 2 ∧ B % 2 = 1) := fun e => by subst e; exact ⟨by rw [hA]; exact ks_odd D r, by rw [hB]; exact pow3_odd D⟩
        rw [← hA, ← hB] at hk
        by_cases hkt : k < t
        · -- one of the longest is shortened
          obtain ⟨k', rfl⟩ : ∃ k', k = k' + 1 := ⟨k - 1, by omega⟩
          have hk2 : k' + m + m * A ≤ m * B := by
            rcases ht with ⟨a, b⟩ | ⟨a, ⟨b, c⟩ | ⟨b, c⟩⟩
            · subst a; subst b; omega
            · subst a; subst b; have := hodd rfl; omega
            · subst a; subst b; have := hodd rfl; omega
          have e1 : List.replicate (k' + 1) (D + 1) ++ r = List.replicate k' (D + 1) ++ (D + 1) :: r := by
            rw [List.replicate_succ', List.append_assoc]; rfl
          have hks : ks m (D + 1) (List.replicate k' (D + 1) ++ D :: r) ≤ m ^ (D + 1) := by
            rw [ks_append, ks_rep, ks_cons, hup, ← hA, hpow, ← hB, show D + 1 - D = 1 by omega, Nat.pow_one]
            omega
          rw [e1] at hN p3
          have hsn : D + 1 + sN (List.replicate k' (D + 1) ++ D :: r) ≤ N := by
            rw [sN_append] at hN ⊢
            simp only [sN] at hN ⊢
            omega
          have hcost : dot ws (List.replicate k' (D + 1) ++ D :: r) ≤ dot ws (List.replicate k' (D + 1) ++ (D + 1) :: r) := by
            obtain ⟨w1, w2, hw, hw1⟩ : ∃ w1 w2, ws = w1 ++ w2 ∧ w1.length = k' := ⟨ws.take k', ws.drop k', (List.take_append_drop _ _).symm, by rw [List.length_take]; omega⟩
            have hne : w2 ≠ [] := by
              rintro rfl
              rw [hw, List.append_nil] at hlen
              omega
            obtain ⟨v, w3, rfl⟩ := List.exists_cons_of_ne_nil hne
            have hv := h0 v (by rw [hw]; simp)
            rw [hw, dot_append _ _ _ _ (by simp [hw1]), dot_append _ _ _ _ (by simp [hw1])]
            simp only [dot]
            have e : ((D + 1 : Nat) : Int) * v = (D : Int) * v + v := by rw [Int.natCast_add, Int.add_mul]; simp
            omega
          rcases ih (D + 1) (List.replicate k' (D + 1) ++ D :: r) hsn (by simp at hlen ⊢; omega) (fun l h => by
              rcases List.mem_append.1 h with h | h
              · rw [(List.mem_replicate.1 h).2]; exact Nat.le_refl _
              · rcases List.mem_cons.1 h with rfl | h
                · omega
                · have := hr l h; omega) hks with ⟨E, q, c1, c2, c3, c4⟩
          exact ⟨E, q, c1, c2, c3, by omega⟩
        · -- the least ones are merged
          refine ⟨D, List.replicate (k - t) (D + 1) ++ r, ?_, fun l h => ?_, ?_, ?_⟩
          · rw [List.length_append, List.length_replicate, List.length_drop]; omega
          · rcases List.mem_append.1 h with h | h
            · rw [(List.mem_replicate.1 h).2]; exact Nat.le_refl _
            · have := hr l h; omega
          · rw [ks_append, ks_rep, hup, ← hA, hpow, ← hB]
            rcases ht with ⟨a, b⟩ | ⟨a, ⟨b, c⟩ | ⟨b, c⟩⟩
            · subst a; subst b; omega
            · subst a; subst b; have := hodd rfl; omega
            · subst a; subst b; omega
          · have e1 : List.replicate k (D + 1) ++ r = List.replicate t (D + 1) ++ (List.replicate (k - t) (D + 1) ++ r) := by
              rw [← List.append_assoc, List.replicate_append_replicate, show t + (k - t) = k by omega]
            have htw : (ws.take t).length = t := by rw [List.length_take]; omega
            have e2 : dot ws (List.replicate k (D + 1) ++ r) = ((D + 1 : Nat) : Int) * sI (ws.take t) + dot (ws.drop t) (List.replicate (k - t) (D + 1) ++ r) := by
              rw [e1]
              conv => lhs; rw [← List.take_append_drop t ws]
              rw [dot_append _ _ _ _ (by rw [htw, List.length_replicate])]
              have := dot_rep (D + 1) (ws.take t)
              rw [htw] at this
              rw [this]
            rw [e2] at p3
            have e : ((D + 1 : Nat) : Int) * sI (ws.take t) = (D : Int) * sI (ws.take t) + sI (ws.take t) := by rw [Int.natCast_add, Int.add_mul]; simp
            omega
theorem sI_ge (b : Int) : ∀ l : List Int, (∀ x ∈ l, b ≤ x) → b * (l.length : Int) ≤ sI l
  | [], _ => by simp [sI]
  | x :: t, h => by
    have h1 := h x (by simp)
    have h2 := sI_ge b t (fun y hy => h y (by simp [hy]))
    simp only [sI, List.length_cons]
    have e : b * ((t.length + 1 : Nat) : Int) = b * (t.length : Int) + b := by rw [Int.natCast_add, Int.mul_add]; simp
    omega
theorem sI_mem {l : List Int} (h0 : ∀ x ∈ l, 0 ≤ x) {x : Int} (h : x ∈ l) : x ≤ sI l := by
  obtain ⟨a, b, rfl⟩ := List.append_of_mem h
  rw [sI_append]
  have h1 := sI_nonneg a (fun y hy => h0 y (by simp [hy]))
  have h2 := sI_nonneg b (fun y hy => h0 y (by simp [hy]))
  simp only [sI]; omega
theorem next_sum (list : List Int) (take many : Nat) (hu : list.Pairwise (fun x y => x ≤ y)) (h0 : ∀ x ∈ list, 0 ≤ x) (h1 : 1 ≤ take ∧ take ≤ list.length ∧ take ≤ many) (h2 : many ≤ (sortI (list.drop take ++ [sI (list.take take)])).length) : sI (list.take take) ≤ sI ((sortI (list.drop take ++ [sI (list.take take)])).take many) := by
  obtain ⟨S, hS⟩ : ∃ S, S = sI (list.take take) := ⟨_, rfl⟩
  rw [← hS] at h2 ⊢
  have hx1 : ∀ x ∈ list.take take, 0 ≤ x := fun x h => h0 x (List.mem_of_mem_take h)
  have hS0 : 0 ≤ S := hS ▸ sI_nonneg _ hx1
  have hmem : ∀ y ∈ (sortI (list.drop take ++ [S])).take many, y ∈ list.drop take ∨ y = S := fun y hy => by
    have := (sortI_perm _).subset (List.mem_of_mem_take hy)
    rcases List.mem_append.1 this with h | h
    · exact Or.inl h
    · exact Or.inr (by simpa using h)
  have hn : ∀ y ∈ (sortI (list.drop take ++ [S])).take many, 0 ≤ y := fun y hy => by
    rcases hmem y hy with h | h
    · exact h0 y (List.mem_of_mem_drop h)
    · omega
  by_cases c : S ∈ (sortI (list.drop take ++ [S])).take many
  · exact sI_mem hn c
  · have hlt : take - 1 < list.length := by omega
    obtain ⟨mx, hmx⟩ : ∃ mx, mx = list[take - 1] := ⟨_, rfl⟩
    have hmx0 : 0 ≤ mx := hmx ▸ h0 _ (List.getElem_mem hlt)
    have up : ∀ x ∈ list.take take, x ≤ mx := fun x hx => by
      obtain ⟨i, hi, rfl⟩ := List.getElem_of_mem hx
      rw [List.length_take] at hi
      rw [List.getElem_take, hmx]
      by_cases e : i = take - 1
      · subst e; exact Int.le_refl _
      · exact List.pairwise_iff_getElem.1 hu i (take - 1) (by omega) hlt (by omega)
    have dn : ∀ x ∈ (sortI (list.drop take ++ [S])).take many, mx ≤ x := fun x hx => by
      rcases hmem x hx with h | h
      · obtain ⟨i, hi, rfl⟩ := List.getElem_of_mem h
        rw [List.length_drop] at hi
        rw [List.getElem_drop, hmx]
        exact List.pairwise_iff_getElem.1 hu (take - 1) (take + i) hlt (by omega) (by omega)
      · subst h; exact absurd hx c
    have a := sI_le mx _ up
    have b := sI_ge mx _ dn
    have la : (list.take take).length = take := by rw [List.length_take]; omega
    have lb : ((sortI (list.drop take ++ [S])).take many).length = many := by rw [List.length_take]; omega
    rw [la] at a
    rw [lb] at b
    have d : mx * (take : Int) ≤ mx * (many : Int) := Int.mul_le_mul_of_nonneg_left (by omega) hmx0
    omega
theorem merge_least (many : Nat) : ∀ (n : Nat) (list out : List Int) (take : Nat), 1 ≤ list.length → list.length ≤ n → list.length ≤ 12 → out.length + list.length ≤ 12 → list.Pairwise (fun x y => x ≤ y) → TakeOk many take list.length → (∀ x ∈ list, 0 ≤ x) → sI list ≤ 10000 →
    ∃ cs : List Int, Ev (fun k => impl_mergeRun.l0 k many list out take) (out ++ cs) ∧ cs.length + 1 ≤ list.length ∧ (∀ x ∈ cs, 0 ≤ x ∧ x ≤ 10000) ∧ cs.Pairwise (fun x y => x ≤ y) ∧ (list.length = 1 → cs = []) ∧ (2 ≤ list.length → ∃ tl, cs = sI (list.take take) :: tl) ∧ (2 ≤ list.length → ∃ a, cs = a ++ [sI list]) ∧ (∀ (D : Nat) (ls : List Nat), ls.length = list.length → (∀ l ∈ ls, l ≤ D) → ks many D ls ≤ many ^ D → sI cs ≤ dot list ls)
  | 0, list, out, take, h0, hn, hl, ho, hu, ht, hx, hs => by omega
  | n + 1, list, out, take, h0, hn, hl, ho, hu, ht, hx, hs => by
    by_cases h1 : 1 < list.length
    · have htk : 2 ≤ take ∧ take ≤ list.length ∧ take ≤ many := by
        rcases ht with ⟨a, b⟩ | ⟨a, ⟨b, c⟩ | ⟨b, c⟩⟩ <;> omega
      have hdt : sI list = sI (list.take take) + sI (list.drop take) := by rw [← sI_append, List.take_append_drop]
      have hx1 : ∀ x ∈ list.take take, 0 ≤ x := fun x h => hx x (List.mem_of_mem_take h)
      have hx2 : ∀ x ∈ list.drop take, 0 ≤ x := fun x h => hx x (List.mem_of_mem_drop h)
      have hn1 := sI_nonneg _ hx1
      have hn2 := sI_nonneg _ hx2
      have hS0 : sumW (list.take take) 0 = sI (list.take take) := by rw [sumW_sI _ 0 hx1 (by omega) (by omega)]; omega
      have hnext := next_sum list take many hu hx ⟨by omega, htk.2.1, htk.2.2⟩
      have hstep := least_step many take list hu hx (by omega) ht
      obtain ⟨S, hS⟩ : ∃ S, S = sI (list.take take) := ⟨_, rfl⟩
      rw [← hS] at hnext
      have hlen : (sortI (list.drop take ++ [S])).length = list.length - take + 1 := by rw [sortI_len]; simp
      have htk' : TakeOk many many (list.length - take + 1) := by
        rcases ht with ⟨a, b⟩ | ⟨a, ⟨b, c⟩ | ⟨b, c⟩⟩
        · exact Or.inl ⟨a, by omega⟩
        · exact Or.inr ⟨a, Or.inr ⟨a, by omega⟩⟩
        · exact Or.inr ⟨a, Or.inr ⟨a, by omega⟩⟩
      have hx' : ∀ x ∈ sortI (list.drop take ++ [S]), 0 ≤ x := fun x h => by
        have h := (sortI_perm _).subset h
        rcases List.mem_append.1 h with h | h
        · exact hx2 x h
        · rw [List.mem_singleton] at h; omega
      have hsum : sI (sortI (list.drop take ++ [S])) = sI list := by
        rw [sI_perm (sortI_perm _), sI_append]
        simp only [sI, Int.add_zero]
        omega
      obtain ⟨cs, r2, r5, r4, r7, r8, r9, r10, r11⟩ := merge_least many n (sortI (list.drop take ++ [S])) (out ++ [S]) many (by omega) (by omega) (by omega) (by simp; omega) (sortI_up _) (by rw [hlen]; exact htk') hx' (by omega)
      rw [List.append_assoc] at r2
      refine ⟨S :: cs, Ev.succ ?_, by simp only [List.length_cons]; omega, ?_, ?_, by omega, fun _ => ⟨cs, by rw [hS]⟩, fun _ => ?_, ?_⟩
      · simp only [impl_mergeRun.l0]
        rw [hS, ← hS0] at r2
        rw [hS, ← hS0]
        exact Ev.pos h1 (Ev.pos (by omega) r2)
      · intro x h
        rcases List.mem_cons.1 h with rfl | h
        · omega
        · exact r4 x h
      · refine List.pairwise_cons.2 ⟨fun x hx => ?_, r7⟩
        by_cases c : (sortI (list.drop take ++ [S])).length = 1
        · rw [r8 c] at hx; cases hx
        · have c2 : 2 ≤ (sortI (list.drop take ++ [S])).length := by omega
          have hm2 : many ≤ (sortI (list.drop take ++ [S])).length := by
            rcases htk' with ⟨a, b⟩ | ⟨a, ⟨b, c⟩ | ⟨b, c⟩⟩ <;> omega
          have hS' := hnext hm2
          obtain ⟨tl, rfl⟩ := r9 c2
          rcases List.mem_cons.1 hx with rfl | hx
          · exact hS'
          · exact Int.le_trans hS' ((List.pairwise_cons.1 r7).1 x hx)
      · by_cases c : (sortI (list.drop take ++ [S])).length = 1
        · rw [r8 c]
          refine ⟨[], ?_⟩
          have hd : list.drop take = [] := by
            rw [← List.length_eq_zero_iff, List.length_drop]; omega
          have e1 : sI (list.drop take) = 0 := by rw [hd]; rfl
          rw [show sI list = S by omega]; rfl
        · obtain ⟨a, ha⟩ := r10 (by omega)
          exact ⟨S :: a, by rw [ha, hsum]; rfl⟩
      · intro D ls hl1 hl2 hl3
        obtain ⟨E, q, c1, c2, c3, c4⟩ := hstep (D + sN ls) D ls (Nat.le_refl _) hl1 hl2 hl3
        rw [← hS] at c4
        have hzl : (list.drop take).length = q.length := c1.symm
        obtain ⟨ps, hp1, hp2⟩ := perm_lift (sortI_perm (list.drop take ++ [S])).symm ((list.drop take).zip q ++ [(S, E)]) (by
          rw [List.map_append, List.map_fst_zip (by omega)]; rfl)
        have e1 : (ps.map Prod.snd).Perm (q ++ [E]) := by
          have := (hp1.map Prod.snd).symm
          rw [List.map_append, List.map_snd_zip (by omega)] at this
          exact this
        have hc := r11 (E + 1) (ps.map Prod.snd) (by rw [List.length_map, ← hp2, List.length_map]) (fun l hl => by
            rcases List.mem_append.1 (e1.subset hl) with h | h
            · exact c2 l h
            · rw [List.mem_singleton] at h; omega) (by
            rw [ks_perm many (E + 1) e1, ks_append]
            have : ks many (E + 1) [E] = many := by rw [ks_cons, show E + 1 - E = 1 by omega, Nat.pow_one]; rfl
            omega)
        have e2 : dot (sortI (list.drop take ++ [S])) (ps.map Prod.snd) = (E : Int) * S + dot (list.drop take) q := by
          rw [← hp2, ← dot_pairs, ← sI_perm (hp1.map _), List.map_append, sI_append, ← dot_zip _ _ c1]
          simp only [List.map_cons, List.map_nil, sI]
          omega
        rw [e2] at hc
        simp only [sI]
        omega
    · refine ⟨[], Ev.succ ?_, by simp; omega, by simp, by simp, fun _ => rfl, fun h => by omega, fun h => by omega, fun D ls hl1 hl2 hl3 => ?_⟩
      · simp only [impl_mergeRun.l0]; exact Ev.neg (by omega) (Ev.pure (by simp))
      · match list, ls, h0, h1, hl1, hx with
        | [x], [l], _, _, _, hx =>
          have := hx x (by simp)
          simp only [sI, dot, Int.add_zero]
          exact Int.mul_nonneg (by omega) this
        | x :: y :: t, _, _, h1, _, _ => exact absurd (show 1 < (x :: y :: t).length by simp) h1
theorem ks_scale (m L : Nat) (hL : L ≤ 11) : ∀ ls : List Nat, (∀ l ∈ ls, l ≤ L) → ks m 11 ls = m ^ (11 - L) * ks m L ls
  | [], _ => by simp [ks, sN]
  | l :: ls, h => by
    have h1 := h l (by simp)
    rw [ks_cons, ks_cons, ks_scale m L hL ls (fun x hx => h x (by simp [hx])), Nat.mul_add, ← Nat.pow_add, show 11 - L + (L - l) = 11 - l by omega]
theorem ks_set (m D : Nat) : ∀ (ls : List Nat) (i v : Nat) (h : i < ls.length), ks m D (ls.set i v) + m ^ (D - ls[i]) = ks m D ls + m ^ (D - v)
  | l :: ls, 0, v, h => by simp only [List.set_cons_zero, List.getElem_cons_zero, ks_cons]; omega
  | l :: ls, i + 1, v, h => by
    have ih := ks_set m D ls i v (by simpa using h)
    simp only [List.set_cons_succ, List.getElem_cons_succ, ks_cons]; omega
theorem dot_set : ∀ (ws : List Int) (ls : List Nat) (i v : Nat) (h : i < ls.length) (h' : i < ws.length), dot ws (ls.set i v) = dot ws ls + ((v : Int) - (ls[i] : Int)) * ws[i]
  | w :: ws, l :: ls, 0, v, h, h' => by
    simp only [List.set_cons_zero, List.getElem_cons_zero, dot, Int.sub_mul]; omega
  | w :: ws, l :: ls, i + 1, v, h, h' => by
    have ih := dot_set ws ls i v (by simpa using h) (by simpa using h')
    simp only [List.set_cons_succ, List.getElem_cons_succ, dot, ih]; omega
theorem full_deep (m : Nat) (hm : m = 2 ∨ m = 3) : ∀ (L : Nat) (ls : List Nat), (∀ l ∈ ls, l ≤ L) → L ∈ ls → ks m L ls ≤ m ^ L → m ^ L ≤ ks m L ls + (m - 2) → L + 1 ≤ ls.length
  | 0, ls, _, h, _, _ => List.length_pos_of_mem h
  | L + 1, ls, hle, hin, h1, h2 => by
    obtain ⟨ls', p1, p2, -⟩ := rearr (ls.map fun _ => (0 : Int)) ls (by simp) (by rw [List.pairwise_map]; exact List.pairwise_of_forall (fun _ _ => Int.le_refl _))
    obtain ⟨k, r, rfl, hr⟩ := desc_cut (L + 1) ls' p2 (fun l hl => hle l (p1.subset hl))
    have hk : 1 ≤ k := by
      refine Nat.lt_of_not_le fun h0 => ?_
      have : k = 0 := by omega
      subst this
      have := p1.symm.subset hin
      simp at this
      have := hr _ this
      omega
    have hup := ks_up m L r hr
    rw [← ks_perm m (L + 1) p1, ks_append, ks_rep, hup, Nat.pow_succ, Nat.mul_comm (m ^ L) m] at h1 h2
    rw [← p1.length_eq, List.length_append, List.length_replicate]
    have hne : ∀ j, 1 ≤ j → j + ks m L r = m ^ L → L + 1 ≤ j + r.length := fun j hj he => by
      have := full_deep m hm L (List.replicate j L ++ r) (fun l hl => by
        rcases List.mem_append.1 hl with h | h
        · rw [(List.mem_replicate.1 h).2]; exact Nat.le_refl _
        · have := hr l h; omega) (by
        refine List.mem_append_left _ (List.mem_replicate.2 ⟨by omega, rfl⟩)) (by rw [ks_append, ks_rep]; omega) (by rw [ks_append, ks_rep]; omega)
      rw [List.length_append, List.length_replicate] at this
      exact this
    generalize ks m L r = A at h1 h2 hne
    generalize m ^ L = X at h1 h2 hne
    rcases hm with rfl | rfl
    · have := hne (k / 2) (by omega) (by omega)
      omega
    · have := hne ((k + 2) / 3) (by omega) (by omega)
      omega
structure Opt (m : Nat) (w : List Int) (ls : List Nat) : Prop where
  len : ls.length = w.length
  each : ∀ l ∈ ls, 1 ≤ l ∧ l ≤ 11
  fit : ks m 11 ls ≤ m ^ 11
  least : ∀ ls' : List Nat, ls'.length = w.length → (∀ l ∈ ls', 1 ≤ l ∧ l ≤ 11) → ks m 11 ls' ≤ m ^ 11 → dot w ls ≤ dot w ls'
theorem Opt.heavy {m : Nat} {w : List Int} {ls : List Nat} (h : Opt m w ls) (i j : Nat) (hi : i < w.length) (hj : j < w.length) (hw : w[j] < w[i]) : ls[i]'(by rw [h.len]; exact hi) ≤ ls[j]'(by rw [h.len]; exact hj) := by
  have hi' : i < ls.length := by rw [h.len]; exact hi
  have hj' : j < ls.length := by rw [h.len]; exact hj
  refine Nat.le_of_not_lt fun hlt => ?_
  have hij : i ≠ j := by rintro rfl; omega
  have e1 := ks_set m 11 ls i ls[j] hi'
  have e2 := ks_set m 11 (ls.set i ls[j]) j ls[i] (by simpa using hj')
  rw [List.getElem_set_ne hij] at e2
  have d1 := dot_set w ls i ls[j] hi' hi
  have d2 := dot_set w (ls.set i ls[j]) j ls[i] (by simpa using hj') hj
  rw [List.getElem_set_ne hij] at d2
  have hle := h.least ((ls.set i ls[j]).set j ls[i]) (by simp [h.len]) (fun l hl => by
    rcases List.mem_or_eq_of_mem_set hl with hl | rfl
    · rcases List.mem_or_eq_of_mem_set hl with hl | rfl
      · exact h.each l hl
      · exact h.each _ (List.getElem_mem hj')
    · exact h.each _ (List.getElem_mem hi')) (by have := h.fit; omega)
  obtain ⟨d, hd⟩ : ∃ d : Nat, ls[i] = ls[j] + (d + 1) := ⟨ls[i] - ls[j] - 1, by omega⟩
  have q1 : ((ls[j] : Int) - (ls[i] : Int)) = -((d + 1 : Nat) : Int) := by omega
  have q2 : ((ls[i] : Int) - (ls[j] : Int)) = ((d + 1 : Nat) : Int) := by omega
  rw [q1] at d1
  rw [q2, d1] at d2
  have q3 : -((d + 1 : Nat) : Int) * w[i] + ((d + 1 : Nat) : Int) * w[j] = -(((d + 1 : Nat) : Int) * (w[i] - w[j])) := by rw [Int.mul_sub, Int.neg_mul]; omega
  have q4 : 0 < ((d + 1 : Nat) : Int) * (w[i] - w[j]) := Int.mul_pos (by omega) (by omega)
  omega
theorem Opt.deep {m : Nat} (hm : m = 2 ∨ m = 3) {w : List Int} {ls : List Nat} (h : Opt m w ls) (hw : ∀ x ∈ w, 1 ≤ x) (h2 : 2 ≤ w.length) : ∀ l ∈ ls, l + 1 ≤ w.length := by
  obtain ⟨L, hL, hmax⟩ := max_of ls (by rintro rfl; have := h.len; simp at this; omega)
  have hL11 := (h.each L hL).2
  have key : L + 1 ≤ w.length := by
    refine Nat.le_of_not_lt fun hlt => ?_
    have hs := ks_scale m L hL11 ls hmax
    have hpos : 0 < m ^ (11 - L) := Nat.pow_pos (by omega)
    have hp : m ^ 11 = m ^ (11 - L) * m ^ L := by rw [← Nat.pow_add, show 11 - L + L = 11 by omega]
    have hfit := h.fit
    rw [hs, hp] at hfit
    have hfit' := Nat.le_of_mul_le_mul_left hfit hpos
    have hno : ¬ m ^ L ≤ ks m L ls + (m - 2) := fun hc => by
      have := full_deep m hm L ls hmax hL hfit' hc
      rw [h.len] at this; omega
    obtain ⟨i, hi, hli⟩ := List.getElem_of_mem hL
    have hi' : i < w.length := by rw [← h.len]; exact hi
    have e1 := ks_set m L ls i (L - 1) hi
    rw [hli, Nat.sub_self, Nat.pow_zero, show L - (L - 1) = 1 by omega, Nat.pow_one] at e1
    have hlt' : ∀ l ∈ ls.set i (L - 1), l ≤ L := fun l hl => by
      rcases List.mem_or_eq_of_mem_set hl with hl | rfl
      · exact hmax l hl
      · omega
    have d1 := dot_set w ls i (L - 1) hi hi'
    rw [hli] at d1
    have hwi := hw _ (List.getElem_mem hi')
    have hle := h.least (ls.set i (L - 1)) (by simp [h.len]) (fun l hl => by
      rcases List.mem_or_eq_of_mem_set hl with hl | rfl
      · exact h.each l hl
      · omega) (by
      rw [ks_scale m L hL11 _ hlt', hp]
      exact Nat.mul_le_mul_left _ (by omega))
    have q : (((L - 1 : Nat) : Int) - (L : Int)) * w[i] = -w[i] := by
      rw [show ((L - 1 : Nat) : Int) - (L : Int) = -1 by omega]; omega
    omega
  intro l hl
  have := hmax l hl
  omega
theorem solL_inv (m : Nat) (x : Int) (rec : Int → Int → List (List Int)) (s c : Int) : ∀ (d l : Nat) (t : List Int), t ∈ solL m x rec s c d l → ∃ l' t', l ≤ l' ∧ l' < l + d ∧ 0 ≤ s - ((m ^ (11 - l') : Nat) : Int) ∧ t = (l' : Int) :: t' ∧ t' ∈ rec (s - ((m ^ (11 - l') : Nat) : Int)) (c - (l' : Int) * x)
  | 0, l, t, h => by simp [solL] at h
  | d + 1, l, t, h => by
    rw [solL] at h
    rcases List.mem_append.1 h with h | h
    · split at h
      · rename_i hc
        obtain ⟨t', ht', rfl⟩ := List.mem_map.1 h
        exact ⟨l, t', Nat.le_refl l, by omega, hc.2, rfl, ht'⟩
      · cases h
    · obtain ⟨l', t', h1, h2, h3, h4, h5⟩ := solL_inv m x rec s c d (l + 1) t h
      exact ⟨l', t', by omega, by omega, h3, h4, h5⟩
theorem sols_inv (m : Nat) : ∀ (ws : List Int) (s c : Int) (t : List Int), 0 ≤ s → t ∈ sols m ws s c → ∃ ls : List Nat, t = ls.map (fun (x : Nat) => (x : Int)) ∧ ls.length = ws.length ∧ (∀ l ∈ ls, 1 ≤ l ∧ l ≤ 11) ∧ ((ks m 11 ls : Nat) : Int) ≤ s ∧ dot ws ls = c
  | [], s, c, t, hs, h => by
    rw [sols] at h
    split at h
    · rename_i hc
      rw [List.mem_singleton] at h
      subst h; subst hc
      exact ⟨[], rfl, rfl, by simp, by simpa [ks, sN] using hs, rfl⟩
    · cases h
  | x :: xs, s, c, t, hs, h => by
    rw [sols] at h
    obtain ⟨l', t', h1, h2, h3, rfl, h5⟩ := solL_inv m x (sols m xs) s c 11 1 t h
    obtain ⟨ls, rfl, g1, g2, g3, g4⟩ := sols_inv m xs _ _ t' h3 h5
    refine ⟨l' :: ls, rfl, by simp [g1], fun l hl => ?_, ?_, ?_⟩
    · rcases List.mem_cons.1 hl with rfl | hl
      · omega
      · exact g2 l hl
    · rw [ks_cons]; omega
    · rw [dot, g4]; omega
theorem ev_one {α : Type} {g : Nat → Option α} {a b : α} (h1 : Ev g a) (h2 : Ev g b) : a = b := by
  obtain ⟨n, hn⟩ := h1
  obtain ⟨m, hm⟩ := h2
  have e1 := hn (max n m) (Nat.le_max_left _ _)
  have e2 := hm (max n m) (Nat.le_max_right _ _)
  exact Option.some.inj (e1.symm.trans e2)
theorem best_run (l : List Int) (m : Nat) (h1 : 1 ≤ l.length) (hl : l.length ≤ 12) (hm : 2 ≤ m ∧ m ≤ 3) (hx : ∀ x ∈ l, 1 ≤ x ∧ x ≤ 100) : ∃ (r : List Int) (B : Int), Ev (fun k => impl_mergeRun.f k l (m : Int)) r ∧ Ev (fun k => impl_bestCost.f k l (m : Int)) B ∧ r.length + 1 ≤ l.length ∧ r.Pairwise (fun x y => x ≤ y) ∧ (∀ x ∈ r, 0 ≤ x ∧ x ≤ 10000) ∧ (l.length = 1 → r = [] ∧ B = sI l) ∧ (2 ≤ l.length → B = sI r ∧ ∃ a, r = a ++ [sI l]) ∧ ∀ ls : List Nat, ls.length = l.length → (∀ x ∈ ls, 1 ≤ x ∧ x ≤ 11) → ks m 11 ls ≤ m ^ 11 → B ≤ dot l ls := by
  obtain ⟨t, ht⟩ : ∃ t : Nat, t = if (m : Int) = 3 ∧ l.length % 2 = 0 then 2 else m := ⟨_, rfl⟩
  have hlen := sortI_len l
  have htk : TakeOk m t (sortI l).length := by
    rw [hlen, ht]
    unfold TakeOk
    by_cases c : (m : Int) = 3 ∧ l.length % 2 = 0
    · rw [if_pos c]; omega
    · rw [if_neg c]; omega
  have hsl : sI (sortI l) = sI l := sI_perm (sortI_perm l)
  have hsum : sI (sortI l) ≤ 10000 := by
    rw [hsl]
    have := sI_le 100 l (fun x h => (hx x h).2)
    omega
  obtain ⟨r, r2, r5, r4, r7, r8, r9, r10, r11⟩ := merge_least m 12 (sortI l) [] t (by omega) (by omega) (by omega) (by simp; omega) (sortI_up l) htk (fun x h => by have := hx x ((sortI_perm l).subset h); omega) hsum
  rw [List.nil_append] at r2
  rw [hlen] at r5 r8 r10
  have hrun : Ev (fun k => impl_mergeRun.f k l (m : Int)) r := by
    unfold impl_mergeRun.f
    rw [Int.toNat_natCast, ← ht]
    exact Ev.pos (by omega) r2
  by_cases e : l.length = 1
  · obtain rfl := r8 e
    match l, e with
    | [x], _ =>
      have e0 : rd [x] 0 = x := by simp [rd]
      have hx0 := hx x (by simp)
      refine ⟨[], x, hrun, ?_, by simp, by simp, by simp, fun _ => ⟨rfl, by simp [sI]⟩, fun h => by simp at h, fun ls h h' _ => ?_⟩
      · unfold impl_bestCost.f
        exact Ev.pos (by simp) (Ev.pos (by simp) (Ev.pure e0))
      · match ls, h with
        | [y], _ =>
          have hy := h' y (by simp)
          simp only [dot, Int.add_zero]
          have : 1 * x ≤ (y : Int) * x := Int.mul_le_mul_of_nonneg_right (by omega) (by omega)
          omega
  · have hb := sI_le 10000 r (fun x h => (r4 x h).2)
    have hb0 := sI_nonneg r (fun x h => (r4 x h).1)
    obtain ⟨-, s2⟩ := bestSum2 r (by omega) r4 r.length 0 0 (by omega) (by omega) (by rw [List.drop_zero]; omega)
    rw [List.drop_zero, Int.zero_add] at s2
    refine ⟨r, sI r, hrun, ?_, r5, r7, r4, fun h => absurd h e, fun h => ⟨rfl, ?_⟩, fun ls h h' hk => ?_⟩
    · unfold impl_bestCost.f
      exact Ev.neg (by omega) (Ev.bind hrun s2)
    · obtain ⟨a, ha⟩ := r10 h
      exact ⟨a, by rw [ha, hsl]⟩
    · obtain ⟨ps, hp1, hp2⟩ := perm_lift (sortI_perm l).symm (l.zip ls) (List.map_fst_zip (by omega))
      have e1 : (ps.map Prod.snd).Perm ls := by
        have := (hp1.map Prod.snd).symm
        rw [List.map_snd_zip (by omega)] at this
        exact this
      have := r11 11 (ps.map Prod.snd) (by rw [List.length_map, ← hp2, List.length_map]) (fun x hx => (h' x (e1.subset hx)).2) (by rw [ks_perm m 11 e1]; exact hk)
      have e2 : dot (sortI l) (ps.map Prod.snd) = dot l ls := by
        rw [← hp2, ← dot_pairs, ← sI_perm (hp1.map _), ← dot_zip _ _ h]
      rw [e2] at this
      exact this
theorem wrapU63 (n : Int) (h0 : 0 ≤ n) (h1 : n < 2 ^ 63) : IntKind.u64.wrap n = n := by rw [IntKind.wrap_u64]; omega
def OkL (l : List Int) : Prop := ∀ x ∈ l, 0 ≤ x ∧ x < 256
theorem okL_of {l : List Int} (h : ∀ x ∈ l, (Lit.int .u8 x).wf = true) : OkL l := fun x hx => by
  have h1 := h x hx
  have h2 : (decide (IntKind.u8.min ≤ x) && decide (x ≤ IntKind.u8.max)) = true := h1
  have e1 : IntKind.u8.min = 0 := by decide
  have e2 : IntKind.u8.max = 255 := by decide
  rw [e1, e2, Bool.and_eq_true, decide_eq_true_eq, decide_eq_true_eq] at h2
  omega
theorem rd_ok {l : List Int} (h : OkL l) (i : Int) : 0 ≤ rd l i ∧ rd l i < 256 := by
  unfold rd
  rw [List.getD_eq_getElem?_getD]
  cases e : l[i.toNat]? with
  | none => simp
  | some x => exact h x (List.mem_of_getElem? e)
theorem byte_of_seed (y : Int) : 0 ≤ wrap64 (Go.bits .and .u64 (IntKind.u64.wrap y / 1099511627776) 255) ∧ wrap64 (Go.bits .and .u64 (IntKind.u64.wrap y / 1099511627776) 255) < 256 := by
  have h1 : 0 ≤ IntKind.u64.wrap y ∧ IntKind.u64.wrap y < 18446744073709551616 := by rw [IntKind.wrap_u64]; omega
  generalize IntKind.u64.wrap y = z at h1
  obtain ⟨h1, h2⟩ := h1
  have h := bits_mask .u64 63 (by decide) wrapU63 8 (by decide) (z / 1099511627776) (by omega) (by omega)
  have e : ((2 : Int) ^ 8 - 1) = 255 := by decide
  have e2 : ((2 : Int) ^ 8) = 256 := by decide
  rw [e, e2] at h
  rw [h, w64 (by omega) (by omega)]
  omega
theorem next_ev {l : List Int} (hl : OkL l) (at0 sd : Int) (h0 : 0 ≤ at0) (h1 : at0 ≤ 4611686018427387904) : ∃ x sd', spec_l1Cur_next.f l at0 sd = some (x, at0 + 1, sd') ∧ 0 ≤ x ∧ x < 256 := by
  have hr := rd_ok hl at0
  have e : Aside0 (wrap64 (at0 + 1) = at0 + 1) := ⟨w64 (by omega) (by omega)⟩
  have e2 : Aside0 (wrap64 (rd l at0) = rd l at0) := ⟨w64 (by omega) (by omega)⟩
  unfold spec_l1Cur_next.f
  rw [e.out, e2.out]
  by_cases c1 : at0 < (l.length : Int)
  · rw [if_pos c1, if_pos h0, if_pos (by omega)]
    exact ⟨_, _, rfl, hr.1, hr.2⟩
  · rw [if_neg c1]
    by_cases c2 : at0 + 1 ≤ (l.length : Int)
    · rw [if_pos c2]; exact ⟨_, _, rfl, by omega, by omega⟩
    · rw [if_neg c2]; exact ⟨_, _, rfl, (byte_of_seed _).1, (byte_of_seed _).2⟩
theorem pick_ev {l : List Int} (hl : OkL l) (at0 sd n : Int) (h0 : 0 ≤ at0) (h1 : at0 ≤ 2305843009213693952) : ∃ x at' sd', spec_l1Cur_pick.f l at0 sd n = some (x, at', sd') ∧ 0 ≤ x ∧ (1 ≤ n → x < n) ∧ at0 ≤ at' ∧ at' ≤ at0 + 2 := by
  unfold spec_l1Cur_pick.f
  by_cases c1 : n ≤ 1
  · rw [if_pos c1]; exact ⟨_, _, _, rfl, by omega, by omega, by omega, by omega⟩
  · rw [if_neg c1]
    obtain ⟨x, s1, e1, hx, hx2⟩ := next_ev hl at0 sd h0 (by omega)
    rw [e1]
    simp only [Option.bind_some]
    by_cases c2 : n > 200
    · rw [if_pos c2]
      obtain ⟨y, s2, e2, hy, hy2⟩ := next_ev hl (at0 + 1) s1 (by omega) (by omega)
      rw [e2]
      simp only [Option.bind_some]
      rw [if_neg (by omega)]
      have e3 : Aside0 (wrap64 (wrap64 (x * 256) + y) = x * 256 + y) := ⟨by rw [w64 (i := x * 256) (by omega) (by omega), w64 (by omega) (by omega)]⟩
      rw [e3.out]
      exact ⟨_, _, _, rfl, Int.tmod_nonneg _ (by omega), fun _ => Int.tmod_lt_of_pos _ (by omega), by omega, by omega⟩
    · rw [if_neg c2, if_neg (by omega)]
      exact ⟨_, _, _, rfl, Int.tmod_nonneg _ (by omega), fun _ => Int.tmod_lt_of_pos _ (by omega), by omega, by omega⟩
theorem one_ev {l : List Int} (hl : OkL l) (at0 sd n : Int) (h0 : 0 ≤ at0) (h1 : at0 ≤ 2305843009213693952) : ∃ b at' sd', spec_l1Cur_one.f l at0 sd n = some (b, at', sd') ∧ at0 ≤ at' ∧ at' ≤ at0 + 2 := by
  obtain ⟨x, at', s', e, -, -, h2, h3⟩ := pick_ev hl at0 sd n h0 h1
  unfold spec_l1Cur_one.f
  rw [e]
  exact ⟨_, _, _, rfl, h2, h3⟩
theorem among_ev {l : List Int} (hl : OkL l) (at0 sd : Int) (list : List Int) (hn : 1 ≤ list.length) (hs : list.length ≤ 1000) (h0 : 0 ≤ at0) (h1 : at0 ≤ 2305843009213693952) : ∃ x at' sd', spec_l1Cur_among.f l at0 sd list = some (x, at', sd') ∧ x ∈ list ∧ at0 ≤ at' ∧ at' ≤ at0 + 2 := by
  obtain ⟨i, at', sd', e, p1, p2, p3, p4⟩ := pick_ev hl at0 sd (list.length : Int) h0 h1
  obtain ⟨j, rfl⟩ := Int.eq_ofNat_of_zero_le p1
  have hj : j < list.length := by have := p2 (by omega); omega
  refine ⟨list[j], at', sd', ?_, List.getElem_mem hj, p3, p4⟩
  unfold spec_l1Cur_among.f
  rw [e, Option.bind_some, if_pos (by omega), if_pos (by omega), rd_nat list j hj]
theorem letters_ev {l : List Int} (hl : OkL l) (at0 sd : Int) (h0 : 0 ≤ at0) (h1 : at0 ≤ 2305843009213693952) : ∃ x at' sd', spec_l1Cur_letters.f l at0 sd = some (x, at', sd') ∧ at0 ≤ at' ∧ at' ≤ at0 + 2 := by
  obtain ⟨x, at', sd', e, -, p1, p2⟩ := among_ev hl at0 sd [2, 2, 2, 3, 3, 2, 3, 1, 4] (by decide) (by decide) h0 h1
  refine ⟨x, at', sd', ?_, p1, p2⟩
  unfold spec_l1Cur_letters.f
  rw [e, Option.bind_some]
theorem weights_l1 {l : List Int} (hl : OkL l) : ∀ (d : Nat) (x : List Int) (at0 sd : Int), x.length + d = 14 → 0 ≤ at0 → at0 + 2 * (d : Int) ≤ 1152921504606846000 → ∃ r at' sd', Ev (fun k => spec_l1Cur_weights.l1 k x l at0 sd) (r, at', sd') ∧ r.length ≤ 14 ∧ at0 ≤ at' ∧ at' ≤ at0 + 2 * d + 2
  | 0, x, at0, sd, hx, h0, h1 => by
    obtain ⟨i, at', sd', e, p1, p2, p3, p4⟩ := pick_ev hl at0 sd 2 h0 (by omega)
    have hi := p2 (by omega)
    refine ⟨x, at', sd', Ev.succ ?_, by omega, p3, by omega⟩
    simp only [spec_l1Cur_weights.l1]
    exact Ev.known (fun _ => e) (Ev.neg (by simp only; rw [w64 (by omega) (by omega)]; omega) (Ev.now _))
  | d + 1, x, at0, sd, hx, h0, h1 => by
    obtain ⟨i, at', sd', e, p1, p2, p3, p4⟩ := pick_ev hl at0 sd 2 h0 (by omega)
    have hi := p2 (by omega)
    by_cases c : (x.length : Int) < wrap64 (12 + i)
    · obtain ⟨r, at2, sd2, e2, q1, q2, q3⟩ := weights_l1 hl d (x ++ [1]) at' sd' (by simp; omega) (by omega) (by omega)
      refine ⟨r, at2, sd2, Ev.succ ?_, q1, by omega, by omega⟩
      simp only [spec_l1Cur_weights.l1]
      exact Ev.known (fun _ => e) (Ev.pos c (Ev.pos (by omega) e2))
    · refine ⟨x, at', sd', Ev.succ ?_, by omega, p3, by omega⟩
      simp only [spec_l1Cur_weights.l1]
      exact Ev.known (fun _ => e) (Ev.neg c (Ev.now _))
theorem weights_end {l : List Int} (hl : OkL l) (x : List Int) (kind : Int) (at0 sd : Int) (hx1 : 1 ≤ x.length) (hx : x.length ≤ 12) (h0 : 0 ≤ at0) (h1 : at0 ≤ 1152921504606845000) : ∃ r at' sd', Ev (fun k => spec_l1Cur_weights.l0 k x kind 0 l at0 sd) (r, at', sd') ∧ r.length ≤ 14 ∧ at0 ≤ at' ∧ at' ≤ at0 + 100 := by
  obtain ⟨i, at', sd', e, p1, p2, p3, p4⟩ := pick_ev hl at0 sd 18 h0 (by omega)
  by_cases c0 : i = 0
  · obtain ⟨j, at2, sd2, e2, q1, q2, q3, q4⟩ := pick_ev hl at' sd' (x.length : Int) (by omega) (by omega)
    obtain ⟨y, at3, sd3, e3, -, r1, r2⟩ := among_ev hl at2 sd2 [0, -1, 101, 4611686018427387904] (by decide) (by decide) (by omega) (by omega)
    have hj := q2 (by omega)
    refine ⟨x.set j.toNat y, at3, sd3, Ev.succ ?_, by simp; omega, by omega, by omega⟩
    simp only [spec_l1Cur_weights.l0]
    exact Ev.neg (by omega) (Ev.known (fun _ => e) (Ev.pos c0 (Ev.known (fun _ => e2) (Ev.known (fun _ => e3) (Ev.pos q1 (Ev.pos hj (Ev.now _)))))))
  · by_cases c1 : i = 1
    · refine ⟨[], at', sd', Ev.succ ?_, by simp, p3, by omega⟩
      simp only [spec_l1Cur_weights.l0]
      exact Ev.neg (by omega) (Ev.known (fun _ => e) (Ev.neg c0 (Ev.pos c1 (Ev.now _))))
    · by_cases c2 : i = 2
      · obtain ⟨r, at2, sd2, e2, q1, q2, q3⟩ := weights_l1 hl (14 - x.length) x at' sd' (by omega) (by omega) (by omega)
        refine ⟨r, at2, sd2, Ev.succ ?_, q1, by omega, by omega⟩
        simp only [spec_l1Cur_weights.l0]
        exact Ev.neg (by omega) (Ev.known (fun _ => e) (Ev.neg c0 (Ev.neg c1 (Ev.pos c2 e2))))
      · refine ⟨x, at', sd', Ev.succ ?_, by omega, p3, by omega⟩
        simp only [spec_l1Cur_weights.l0]
        exact Ev.neg (by omega) (Ev.known (fun _ => e) (Ev.neg c0 (Ev.neg c1 (Ev.neg c2 (Ev.now _)))))
theorem weights_l0 {l : List Int} (hl : OkL l) (kind : Int) : ∀ (d : Nat) (x : List Int) (at0 sd : Int), x.length + d ≤ 12 → 1 ≤ x.length + d → 0 ≤ at0 → at0 + 2 * (d : Int) ≤ 1152921504606845000 → ∃ r at' sd', Ev (fun k => spec_l1Cur_weights.l0 k x kind (d : Int) l at0 sd) (r, at', sd') ∧ r.length ≤ 14 ∧ at0 ≤ at' ∧ at' ≤ at0 + 2 * d + 100
  | 0, x, at0, sd, hx, hx1, h0, h1 => by
    obtain ⟨r, at', sd', e, p1, p2, p3⟩ := weights_end hl x kind at0 sd (by omega) (by omega) h0 (by omega)
    exact ⟨r, at', sd', e, p1, p2, by omega⟩
  | d + 1, x, at0, sd, hx, hx1, h0, h1 => by
    have ed : Aside0 (wrap64 (((d + 1 : Nat) : Int) - 1) = (d : Int)) := ⟨by rw [w64 (by omega) (by omega)]; omega⟩
    by_cases c0 : kind = 0
    · obtain ⟨i, at', sd', e, p1, p2, p3, p4⟩ := pick_ev hl at0 sd 3 h0 (by omega)
      obtain ⟨r, at2, sd2, e2, q1, q2, q3⟩ := weights_l0 hl kind d (x ++ [wrap64 (1 + i)]) at' sd' (by simp; omega) (by simp; omega) (by omega) (by omega)
      refine ⟨r, at2, sd2, Ev.succ ?_, q1, by omega, by omega⟩
      simp only [spec_l1Cur_weights.l0, ed.out]
      exact Ev.pos (by omega) (Ev.pos c0 (Ev.known (fun _ => e) (Ev.pos (by omega) e2)))
    · by_cases c1 : kind = 1
      · obtain ⟨i, at', sd', e, p1, p2, p3, p4⟩ := pick_ev hl at0 sd 6 h0 (by omega)
        obtain ⟨r, at2, sd2, e2, q1, q2, q3⟩ := weights_l0 hl kind d (x ++ [shl .i64 1 i]) at' sd' (by simp; omega) (by simp; omega) (by omega) (by omega)
        refine ⟨r, at2, sd2, Ev.succ ?_, q1, by omega, by omega⟩
        simp only [spec_l1Cur_weights.l0, ed.out]
        exact Ev.pos (by omega) (Ev.neg c0 (Ev.pos c1 (Ev.known (fun _ => e) (Ev.pos p1 (Ev.pos (by omega) e2)))))
      · obtain ⟨i, at', sd', e, p1, p2, p3, p4⟩ := pick_ev hl at0 sd 100 h0 (by omega)
        obtain ⟨r, at2, sd2, e2, q1, q2, q3⟩ := weights_l0 hl kind d (x ++ [wrap64 (1 + i)]) at' sd' (by simp; omega) (by simp; omega) (by omega) (by omega)
        refine ⟨r, at2, sd2, Ev.succ ?_, q1, by omega, by omega⟩
        simp only [spec_l1Cur_weights.l0, ed.out]
        exact Ev.pos (by omega) (Ev.neg c0 (Ev.neg c1 (Ev.known (fun _ => e) (Ev.pos (by omega) e2))))
theorem weights_ev {l : List Int} (hl : OkL l) (at0 sd most : Int) (hm1 : 1 ≤ most) (hm : most ≤ 12) (h0 : 0 ≤ at0) (h1 : at0 ≤ 1152921504606844000) : ∃ r at' sd', Ev (fun k => spec_l1Cur_weights.f k l at0 sd most) (r, at', sd') ∧ r.length ≤ 14 ∧ at0 ≤ at' ∧ at' ≤ at0 + 200 := by
  obtain ⟨kind, at', sd', e, p1, p2, p3, p4⟩ := pick_ev hl at0 sd 3 h0 (by omega)
  obtain ⟨i, at2, sd2, e2, q1, q2, q3, q4⟩ := pick_ev hl at' sd' most (by omega) (by omega)
  obtain ⟨n, rfl⟩ := Int.eq_ofNat_of_zero_le q1
  have hn := q2 hm1
  obtain ⟨r, at3, sd3, e3, r1, r2, r3⟩ := weights_l0 hl kind (n + 1) [] at2 sd2 (by simp; omega) (by simp) (by omega) (by omega)
  refine ⟨r, at3, sd3, ?_, r1, by omega, by omega⟩
  unfold spec_l1Cur_weights.f
  refine Ev.known (fun _ => e) (Ev.known (fun _ => e2) ?_)
  have ed : wrap64 (1 + (n : Int)) = ((n + 1 : Nat) : Int) := by rw [w64 (by omega) (by omega)]; omega
  simp only [ed]
  exact e3
theorem lengths_l0 {l : List Int} (hl : OkL l) (n : Nat) (hn : n ≤ 14) : ∀ (d i : Nat) (x : List Int) (at0 sd : Int), i + d = n → x.length = i → 0 ≤ at0 → at0 + 2 * (d : Int) ≤ 1152921504606845000 → ∃ r at' sd', Ev (fun k => spec_l1Cur_lengthsFor.l0 k x (n : Int) (i : Int) l at0 sd) (r, at', sd') ∧ r.length ≤ 14
  | 0, i, x, at0, sd, hd, hx, h0, h1 => by
    by_cases c0 : (x.length : Int) > 0
    · obtain ⟨b, at', sd', e, p1, p2⟩ := one_ev hl at0 sd 8 h0 (by omega)
      cases b with
      | true =>
        obtain ⟨y, at2, sd2, e2, -, q1, q2⟩ := among_ev hl at' sd' [0, 8, 11, 12, 4611686018427387904] (by decide) (by decide) (by omega) (by omega)
        refine ⟨x.set (0 : Int).toNat y, at2, sd2, Ev.succ ?_, by simp; omega⟩
        simp only [spec_l1Cur_lengthsFor.l0]
        exact Ev.neg (by omega) (Ev.pos c0 (Ev.known (fun _ => e) (Ev.pos rfl (Ev.known (fun _ => e2) (Ev.pos c0 (Ev.now _))))))
      | false =>
        refine ⟨x, at', sd', Ev.succ ?_, by omega⟩
        simp only [spec_l1Cur_lengthsFor.l0]
        exact Ev.neg (by omega) (Ev.pos c0 (Ev.known (fun _ => e) (Ev.neg (by simp) (Ev.now _))))
    · refine ⟨x, at0, sd, Ev.succ ?_, by omega⟩
      simp only [spec_l1Cur_lengthsFor.l0]
      exact Ev.neg (by omega) (Ev.neg c0 (Ev.now _))
  | d + 1, i, x, at0, sd, hd, hx, h0, h1 => by
    obtain ⟨y, at', sd', e, p1, p2, p3, p4⟩ := pick_ev hl at0 sd 4 h0 (by omega)
    obtain ⟨r, at2, sd2, e2, q1⟩ := lengths_l0 hl n hn d (i + 1) (x ++ [wrap64 (1 + y)]) at' sd' (by omega) (by simp; omega) (by omega) (by omega)
    refine ⟨r, at2, sd2, Ev.succ ?_, q1⟩
    simp only [spec_l1Cur_lengthsFor.l0, w1 (show 0 ≤ (i : Int) by omega) (show (i : Int) < 9223372036854775807 by omega)]
    exact Ev.pos (by omega) (Ev.known (fun _ => e) (Ev.pos (by omega) e2))
theorem lengthsFor_ev {l : List Int} (hl : OkL l) (at0 sd : Int) (w : List Int) (m : Int) (hw : w.length ≤ 14) (h0 : 0 ≤ at0) (h1 : at0 ≤ 1152921504606843000) : ∃ r at' sd', Ev (fun k => spec_l1Cur_lengthsFor.f k l at0 sd w m) (r, at', sd') ∧ r.length ≤ 14 := by
  have a1 := beAsked_ev w m (by omega)
  have free : ∀ at1 sd1, 0 ≤ at1 → at1 ≤ 1152921504606844000 → ∃ r at' sd', Ev (fun k => spec_l1Cur_lengthsFor.j0 k w m false l at1 sd1) (r, at', sd') ∧ r.length ≤ 14 := fun at1 sd1 g0 g1 => by
    obtain ⟨r, at2, sd2, e, q⟩ := lengths_l0 hl w.length hw w.length 0 [] at1 sd1 (by omega) rfl g0 (by omega)
    refine ⟨r, at2, sd2, Ev.succ ?_, q⟩
    simp only [spec_l1Cur_lengthsFor.j0]
    exact Ev.neg (by simp) e
  unfold spec_l1Cur_lengthsFor.f
  generalize hA : ((decide (2 ≤ m ∧ m ≤ 3)) && (decide (1 ≤ (w.length : Int) ∧ (w.length : Int) ≤ 12) && w.all fun x => decide (1 ≤ x ∧ x ≤ 100))) = A at a1
  cases A with
  | false =>
    obtain ⟨r, at2, sd2, e, q⟩ := free at0 sd h0 (by omega)
    exact ⟨r, at2, sd2, Ev.bind a1 (Ev.neg (by simp) e), q⟩
  | true =>
    simp only [Bool.and_eq_true, decide_eq_true_eq, List.all_eq_true] at hA
    by_cases h6 : (w.length : Int) ≤ 6
    · obtain ⟨b, at1, sd1, e1, p1, p2⟩ := one_ev hl at0 sd 3 h0 (by omega)
      cases b with
      | true =>
        obtain ⟨r, at2, sd2, e, q⟩ := free at1 sd1 (by omega) (by omega)
        exact ⟨r, at2, sd2, Ev.bind a1 (Ev.pos rfl (Ev.pos h6 (Ev.known (fun _ => e1) e))), q⟩
      | false =>
        obtain ⟨mn, rfl⟩ : ∃ n : Nat, m = (n : Int) := ⟨m.toNat, by omega⟩
        obtain ⟨S, hne, hlen, s1, -⟩ := search_same w mn (by omega) (by omega) (by omega) hA.2.2
        match S, hne, hlen, s1 with
        | a :: t, _, hlen, s1 =>
          have ha := hlen a (by simp)
          have hup : (upd [] 0 (a :: t)).1 = a := by simp [upd]
          have hown : spec_l1Own.f a = some a := l1Own_ev a (by omega)
          obtain ⟨b2, at2, sd2, e2, q1, q2⟩ := one_ev hl at1 sd1 3 (by omega) (by omega)
          cases b2 with
          | false =>
            refine ⟨a, at2, sd2, Ev.bind a1 (Ev.pos rfl (Ev.pos h6 (Ev.known (fun _ => e1) (Ev.succ ?_)))), by omega⟩
            simp only [spec_l1Cur_lengthsFor.j0]
            refine Ev.pos (by simp) (Ev.bind s1 ?_)
            rw [hup]
            exact Ev.known (fun _ => hown) (Ev.known (fun _ => e2) (Ev.neg (by simp) (Ev.now _)))
          | true =>
            obtain ⟨j, at3, sd3, e3, r1, r2, r3, r4⟩ := pick_ev hl at2 sd2 (a.length : Int) (by omega) (by omega)
            obtain ⟨y, at4, sd4, e4, t1, t2, t3, t4⟩ := pick_ev hl at3 sd3 4 (by omega) (by omega)
            have hj := r2 (by omega)
            refine ⟨a.set j.toNat (wrap64 (1 + y)), at4, sd4, Ev.bind a1 (Ev.pos rfl (Ev.pos h6 (Ev.known (fun _ => e1) (Ev.succ ?_)))), by simp; omega⟩
            simp only [spec_l1Cur_lengthsFor.j0]
            refine Ev.pos (by simp) (Ev.bind s1 ?_)
            rw [hup]
            exact Ev.known (fun _ => hown) (Ev.known (fun _ => e2) (Ev.pos rfl (Ev.known (fun _ => e3) (Ev.known (fun _ => e4) (Ev.pos r1 (Ev.pos hj (Ev.now _)))))))
    · obtain ⟨r, at2, sd2, e, q⟩ := free at0 sd h0 (by omega)
      exact ⟨r, at2, sd2, Ev.bind a1 (Ev.pos rfl (Ev.neg h6 e)), q⟩
theorem ySame_l0 (l : List Int) (hl : l.length ≤ 1048576) : ∀ (d i : Nat), i + d = l.length → Ev (fun k => laws_ySame.l0 k l l (l.length : Int) (i : Int)) true
  | 0, i, hd => Ev.succ (by simp only [laws_ySame.l0]; exact Ev.neg (by omega) (Ev.now _))
  | d + 1, i, hd => by
    have ih := ySame_l0 l hl d (i + 1) (by omega)
    refine Ev.succ ?_
    simp only [laws_ySame.l0, w1 (show 0 ≤ (i : Int) by omega) (show (i : Int) < 9223372036854775807 by omega)]
    exact Ev.pos (by omega) (Ev.pos (by omega) (Ev.pos (by omega) (Ev.pos (by omega) (Ev.pos trivial ih))))
theorem ySame_ev (l : List Int) (hl : l.length ≤ 1048576) : Ev (fun k => laws_ySame.f k l l) true := by
  unfold laws_ySame.f
  exact Ev.pos rfl (by simpa using ySame_l0 l hl l.length 0 (by omega))
theorem ySum_l0 (ys : List Int) (hl : ys.length ≤ 1000) (hy : ∀ y ∈ ys, 0 ≤ y ∧ y ≤ 10000) : ∀ (d i : Nat) (s : Int), i + d = ys.length → 0 ≤ s → s + sI (ys.drop i) ≤ 1000000000 → Ev (fun k => laws_ySum.l0 k s ys (ys.length : Int) (i : Int)) (s + sI (ys.drop i))
  | 0, i, s, hd, _, _ => by
    rw [List.drop_of_length_le (by omega)]
    exact Ev.succ (by simp only [laws_ySum.l0]; exact Ev.neg (by omega) (Ev.pure (by simp [sI])))
  | d + 1, i, s, hd, h0, hb => by
    have hi : i < ys.length := by omega
    rw [List.drop_eq_getElem_cons hi] at hb ⊢
    simp only [sI] at hb ⊢
    have hyi := hy _ (List.getElem_mem hi)
    have hn := sI_nonneg (ys.drop (i + 1)) (fun x h => (hy x (List.mem_of_mem_drop h)).1)
    have h1 := ySum_l0 ys hl hy d (i + 1) (s + ys[i]) (by omega) (by omega) (by omega)
    rw [show s + ys[i] + sI (ys.drop (i + 1)) = s + (ys[i] + sI (ys.drop (i + 1))) by omega] at h1
    have wi := w1 (show 0 ≤ (i : Int) by omega) (show (i : Int) < 9223372036854775807 by omega)
    have ws : Aside0 (wrap64 (s + ys[i]) = s + ys[i]) := ⟨w64 (by omega) (by omega)⟩
    refine Ev.succ ?_
    simp only [laws_ySum.l0, rd_nat ys i hi, ws.out, wi]
    exact Ev.pos (by omega) (Ev.pos (by omega) (Ev.pos (by omega) h1))
theorem ySum_ev (ys : List Int) (hl : ys.length ≤ 1000) (hy : ∀ y ∈ ys, 0 ≤ y ∧ y ≤ 10000) : Ev (fun k => laws_ySum.f k ys) (sI ys) := by
  have hb := sI_le 10000 ys (fun x h => (hy x h).2)
  have := ySum_l0 ys hl hy ys.length 0 0 (by omega) (by omega) (by rw [List.drop_zero]; omega)
  rw [List.drop_zero, Int.zero_add] at this
  exact this
def askB (w : List Int) (m : Int) : Bool := decide (1 ≤ (w.length : Int) ∧ (w.length : Int) ≤ 12) && w.all (fun x => decide (1 ≤ x ∧ x ≤ 100)) && decide (2 ≤ m ∧ m ≤ 3)
theorem askB_of {w : List Int} {m : Int} (h : askB w m = true) : 1 ≤ w.length ∧ w.length ≤ 12 ∧ (∀ x ∈ w, 1 ≤ x ∧ x ≤ 100) ∧ ∃ n : Nat, m = (n : Int) ∧ 2 ≤ n ∧ n ≤ 3 := by
  unfold askB at h
  simp only [Bool.and_eq_true, decide_eq_true_eq, List.all_eq_true] at h
  exact ⟨by omega, by omega, h.1.2, m.toNat, by omega, by omega, by omega⟩
theorem implBest_ev (w : List Int) (m : Int) (hw : w.length ≤ 1048576) (B : Int) (h : askB w m = true → Ev (fun k => impl_bestCost.f k w m) B) : Ev (fun k => impl_BestCost.f k w m) (if askB w m = true then (B, true) else (0, false)) := by
  have a2 := impl_areWeights_ev w hw
  have a3 := areLetters_eq m
  unfold impl_BestCost.f
  unfold askB at h ⊢
  generalize (decide (1 ≤ (w.length : Int) ∧ (w.length : Int) ≤ 12) && w.all fun x => decide (1 ≤ x ∧ x ≤ 100)) = A at a2 h ⊢
  generalize decide (2 ≤ m ∧ m ≤ 3) = C at a3 h ⊢
  cases A with
  | false => exact Ev.bind a2 (Ev.neg (by simp) (Ev.now _))
  | true =>
    cases C with
    | false => exact Ev.bind a2 (Ev.pos rfl (Ev.known (fun _ => a3) (Ev.neg (by simp) (Ev.now _))))
    | true => exact Ev.bind a2 (Ev.pos rfl (Ev.known (fun _ => a3) (Ev.pos rfl (Ev.bind (h rfl) (Ev.now _)))))
theorem implRun_ev (w : List Int) (m : Int) (hw : w.length ≤ 1048576) (r : List Int) (h : askB w m = true → Ev (fun k => impl_mergeRun.f k w m) r) : Ev (fun k => impl_MergeRun.f k w m) (if askB w m = true then (r, true) else ([], false)) := by
  have a2 := impl_areWeights_ev w hw
  have a3 := areLetters_eq m
  unfold impl_MergeRun.f
  unfold askB at h ⊢
  generalize (decide (1 ≤ (w.length : Int) ∧ (w.length : Int) ≤ 12) && w.all fun x => decide (1 ≤ x ∧ x ≤ 100)) = A at a2 h ⊢
  generalize decide (2 ≤ m ∧ m ≤ 3) = C at a3 h ⊢
  cases A with
  | false => exact Ev.bind a2 (Ev.neg (by simp) (Ev.now _))
  | true =>
    cases C with
    | false => exact Ev.bind a2 (Ev.pos rfl (Ev.known (fun _ => a3) (Ev.neg (by simp) (Ev.now _))))
    | true => exact Ev.bind a2 (Ev.pos rfl (Ev.known (fun _ => a3) (Ev.pos rfl (Ev.bind (h rfl) (Ev.now _)))))
theorem specRun_ev (w : List Int) (m : Int) (hw : w.length ≤ 1048576) (r : List Int) (h : askB w m = true → Ev (fun k => spec_beMerge.f k w m) r) : Ev (fun k => spec_MergeRun.f k w m) (if askB w m = true then (r, true) else ([], false)) := by
  have a1 := beAsked_ev w m hw
  unfold spec_MergeRun.f
  have e : (decide (2 ≤ m ∧ m ≤ 3) && (decide (1 ≤ (w.length : Int) ∧ (w.length : Int) ≤ 12) && w.all fun x => decide (1 ≤ x ∧ x ≤ 100))) = askB w m := by unfold askB; rw [Bool.and_comm]
  rw [e] at a1
  cases hA : askB w m with
  | false => rw [hA] at a1; exact Ev.bind a1 (Ev.neg (by simp) (Ev.now _))
  | true => rw [hA] at a1; exact Ev.bind a1 (Ev.pos rfl (Ev.bind (h hA) (Ev.now _)))
theorem pair_up : ∀ (l : List Int), l.Pairwise (fun x y => x ≤ y) → bmUp l = true := by
  intro l hl
  unfold bmUp
  rw [List.all_eq_true]
  intro i hi
  have hi' := List.mem_range.1 hi
  by_cases c : i = 0
  · rw [decide_eq_true c, Bool.true_or]
  · have e : (i : Int) - 1 = ((i - 1 : Nat) : Int) := by omega
    rw [e, rd_nat l i hi', rd_nat l (i - 1) (by omega)]
    have := List.pairwise_iff_getElem.1 hl (i - 1) i (by omega) hi' (by omega)
    rw [decide_eq_false (show ¬ l[i] < l[i - 1] by omega)]
    simp
theorem s2_ev {l1 : List Int} (hl : OkL l1) (h3 : Ev (fun k => bm_s3 k l1) true) : Ev (fun k => bm_s2 k l1) true := by
  obtain ⟨w, at1, sd1, e1, hw, p1, p2⟩ := weights_ev hl 0 0 12 (by omega) (by omega) (by omega) (by omega)
  obtain ⟨m, at2, sd2, e2, -, -⟩ := letters_ev hl at1 sd1 (by omega) (by omega)
  have d : Ev (fun k => spec_DrawMergeRun.f k l1) (w, m) := by
    unfold spec_DrawMergeRun.f
    exact Ev.bind e1 (Ev.known (fun _ => e2) (Ev.now _))
  unfold bm_s2
  refine Ev.bind d ?_
  simp only
  cases hA : askB w m with
  | false =>
    have i1 := implRun_ev w m (by omega) [] (fun h => by rw [hA] at h; cases h)
    have i2 := specRun_ev w m (by omega) [] (fun h => by rw [hA] at h; cases h)
    rw [hA] at i1 i2
    exact Ev.bind i1 (Ev.bind i2 (Ev.bind (ySame_ev [] (by simp)) (Ev.pos ⟨rfl, rfl⟩ (Ev.neg (by simp) h3))))
  | true =>
    obtain ⟨g1, g2, g3, n, rfl, g4, g5⟩ := askB_of hA
    obtain ⟨r, B, b1, b2, b3, b4, b5, b6, b7, -⟩ := best_run w n g1 g2 ⟨g4, g5⟩ g3
    obtain ⟨r', D, c1, c2, -⟩ := merge_same2 w n g1 g2 ⟨g4, g5⟩ g3
    obtain rfl := ev_one b1 c2
    have i1 := implRun_ev w (n : Int) (by omega) r (fun _ => b1)
    have i2 := specRun_ev w (n : Int) (by omega) r (fun _ => c1)
    have i3 := implBest_ev w (n : Int) (by omega) B (fun _ => b2)
    rw [hA, if_pos rfl] at i1 i2 i3
    have s1 := ySum_ev r (by omega) b5
    have s2 := ySum_ev w (by omega) (fun x hx => by have := g3 x hx; omega)
    refine Ev.bind i1 (Ev.bind i2 (Ev.bind (ySame_ev r (by omega)) (Ev.pos ⟨rfl, rfl⟩ (Ev.pos rfl (Ev.bind i3 (Ev.bind s1 (Ev.bind s2 (Ev.pos ⟨rfl, ?_, pair_up r b4⟩ h3))))))))
    by_cases c : w.length = 1
    · obtain ⟨rfl, hB⟩ := b6 c
      right
      refine ⟨c, rfl, ?_⟩
      match w, c, hB with
      | [x], _, hB => rw [hB]; simp [sI, rd]
    · obtain ⟨hB, a, ha⟩ := b7 (by omega)
      left
      have hlen : r.length = a.length + 1 := by rw [ha]; simp
      refine ⟨by omega, hB.symm, by show 1 ≤ r.length; omega, ?_⟩
      have e : (r.length : Int) - 1 = ((a.length : Nat) : Int) := by omega
      rw [e, rd_nat r a.length (by omega)]
      simp [ha]
theorem search_is (l : List Int) (m : Nat) (h1 : 1 ≤ l.length) (hl : l.length ≤ 6) (hm : 2 ≤ m ∧ m ≤ 3) (hx : ∀ x ∈ l, 1 ≤ x ∧ x ≤ 100) : ∃ B : Int, Ev (fun k => spec_beBest.f k l (m : Int)) B ∧ Ev (fun k => impl_bestCost.f k l (m : Int)) B ∧ sols m l ((m ^ 11 : Nat) : Int) B ≠ [] ∧ Ev (fun k => spec_beFind.f k l (m : Int)) (upd [] 0 (sols m l ((m ^ 11 : Nat) : Int) B)) ∧ Ev (fun k => impl_allBest.f k l (m : Int)) (sols m l ((m ^ 11 : Nat) : Int) B) := by
  obtain ⟨B, ps, b1, b2, b3, b4, p1, p2, p3, p4⟩ := best_fits l m h1 (by omega) hm hx
  have hp := pow_small (m := m) (n := 11) hm (by omega)
  have k1 := krPower_ev m 11 (by omega) (by omega) (by omega)
  have k2 := power_ev m 11 (by omega) (by omega) (by omega)
  have h6 : (11 : Nat) ^ l.length ≤ 1771561 := by
    have : (11 : Nat) ^ 6 = 1771561 := by decide
    rw [← this]
    exact Nat.pow_le_pow_right (by omega) hl
  have s1 := seek_ev l hl hx m hm l.length [] ((m ^ 11 : Nat) : Int) B [] 0 (by simp) (by omega) (by omega) b3 b4 (by omega) (by omega)
  have s2 := add_ev l hl hx m hm B b4 l.length [] 0 ((m ^ 11 : Nat) : Int) [] (by simp) (by omega) (by omega) (by omega) (by omega) (by simp; omega)
  have hmap : ∀ A : List (List Int), A.map (([] : List Int) ++ ·) = A := fun A => by simp
  rw [List.length_nil, List.drop_zero, hmap] at s1 s2
  rw [List.nil_append, Int.sub_zero] at s2
  have hmem := sols_mem m ps ((m ^ 11 : Nat) : Int) B p2 (fun p hp => by have := hx p.1 (by rw [← p1]; exact List.mem_map_of_mem hp); omega) (by omega) p4
  rw [p1] at hmem
  refine ⟨B, b1, b2, fun h => by rw [h] at hmem; simp at hmem, ?_, ?_⟩
  · unfold spec_beFind.f
    exact Ev.bind k1 (Ev.bind b1 s1)
  · unfold impl_allBest.f
    exact Ev.bind b2 (Ev.bind k2 s2)
theorem isSearched_ev (l : List Int) (hl : l.length ≤ 1048576) : Ev (fun k => impl_isSearched.f k l) ((decide (1 ≤ (l.length : Int) ∧ (l.length : Int) ≤ 12) && l.all fun x => decide (1 ≤ x ∧ x ≤ 100)) && decide ((l.length : Int) ≤ 6)) := by
  unfold impl_isSearched.f
  have a2 := impl_areWeights_ev l hl
  generalize (decide (1 ≤ (l.length : Int) ∧ (l.length : Int) ≤ 12) && l.all fun x => decide (1 ≤ x ∧ x ≤ 100)) = A at a2 ⊢
  cases A with
  | false => exact Ev.bind a2 (Ev.neg (by simp) (Ev.pure (by simp)))
  | true => exact Ev.bind a2 (Ev.pos rfl (Ev.pure (by simp)))
theorem specBest_ev (w : List Int) (m : Int) (hw : w.length ≤ 1048576) (B : Int) (h : askB w m = true → Ev (fun k => spec_beBest.f k w m) B) : Ev (fun k => spec_BestCost.f k w m) (if askB w m = true then (B, true) else (0, false)) := by
  have a1 := beAsked_ev w m hw
  unfold spec_BestCost.f
  have e : (decide (2 ≤ m ∧ m ≤ 3) && (decide (1 ≤ (w.length : Int) ∧ (w.length : Int) ≤ 12) && w.all fun x => decide (1 ≤ x ∧ x ≤ 100))) = askB w m := by unfold askB; rw [Bool.and_comm]
  rw [e] at a1
  cases hA : askB w m with
  | false => rw [hA] at a1; exact Ev.bind a1 (Ev.neg (by simp) (Ev.now _))
  | true => rw [hA] at a1; exact Ev.bind a1 (Ev.pos rfl (Ev.bind (h hA) (Ev.now _)))
theorem first_told (w : List Int) (m : Int) (hw : w.length ≤ 14) : ∃ (p : List Int × Bool) (n : Int) (c : Int) (three : Bool), Ev (fun k => impl_FirstBest.f k w m) p ∧ Ev (fun k => spec_FirstBest.f k w m) p ∧ Ev (fun k => impl_CountBest.f k w m) (n, p.2) ∧ Ev (fun k => spec_CountBest.f k w m) (n, p.2) ∧ Ev (fun k => impl_BestCost.f k w m) (c, three) ∧ Ev (fun k => spec_BestCost.f k w m) (c, three) ∧ p.1.length ≤ 14 ∧ (p.2 = true → three = true ∧ w.length ≤ 6 ∧ 1 ≤ n ∧ askB w m = true ∧ ∃ (mm : Nat) (ls : List Nat), m = (mm : Int) ∧ Opt mm w ls ∧ p.1 = ls.map (fun (x : Nat) => (x : Int)) ∧ c = dot w ls ∧ Ev (fun k => impl_bestCost.f k w m) c) := by
  have a1 := beAsked_ev w m (by omega)
  have a2 := isSearched_ev w (by omega)
  have a3 := areLetters_eq m
  have e : (decide (2 ≤ m ∧ m ≤ 3) && (decide (1 ≤ (w.length : Int) ∧ (w.length : Int) ≤ 12) && w.all fun x => decide (1 ≤ x ∧ x ≤ 100))) = askB w m := by unfold askB; rw [Bool.and_comm]
  rw [e] at a1
  have hle : ∀ B C : Bool, (B && C) = askB w m → True := fun _ _ _ => trivial
  cases hA : askB w m with
  | false =>
    rw [hA] at a1
    have b1 := implBest_ev w m (by omega) 0 (fun h => by rw [hA] at h; cases h)
    have b2 := specBest_ev w m (by omega) 0 (fun h => by rw [hA] at h; cases h)
    rw [hA] at b1 b2
    refine ⟨([], false), 0, 0, false, ?_, ?_, ?_, ?_, b1, b2, by simp, fun h => by cases h⟩
    · unfold impl_FirstBest.f
      unfold askB at hA
      generalize (decide (1 ≤ (w.length : Int) ∧ (w.length : Int) ≤ 12) && w.all fun x => decide (1 ≤ x ∧ x ≤ 100)) = A at a2 hA
      generalize decide (2 ≤ m ∧ m ≤ 3) = C at a3 hA
      cases A with
      | false => exact Ev.bind a2 (Ev.neg (by simp) (Ev.now _))
      | true =>
        obtain rfl : C = false := by simpa using hA
        exact Ev.bind a2 (Ev.cases (fun _ => Ev.known (fun _ => a3) (Ev.neg (by simp) (Ev.now _))) (fun _ => Ev.now _))
    · unfold spec_FirstBest.f
      exact Ev.bind a1 (Ev.neg (by simp) (Ev.now _))
    · unfold impl_CountBest.f
      unfold askB at hA
      generalize (decide (1 ≤ (w.length : Int) ∧ (w.length : Int) ≤ 12) && w.all fun x => decide (1 ≤ x ∧ x ≤ 100)) = A at a2 hA
      generalize decide (2 ≤ m ∧ m ≤ 3) = C at a3 hA
      cases A with
      | false => exact Ev.bind a2 (Ev.neg (by simp) (Ev.now _))
      | true =>
        obtain rfl : C = false := by simpa using hA
        exact Ev.bind a2 (Ev.cases (fun _ => Ev.known (fun _ => a3) (Ev.neg (by simp) (Ev.now _))) (fun _ => Ev.now _))
    · unfold spec_CountBest.f
      exact Ev.bind a1 (Ev.neg (by simp) (Ev.now _))
  | true =>
    rw [hA] at a1
    obtain ⟨g1, g2, g3, mm, rfl, g4, g5⟩ := askB_of hA
    have hAw : (decide (1 ≤ (w.length : Int) ∧ (w.length : Int) ≤ 12) && w.all fun x => decide (1 ≤ x ∧ x ≤ 100)) = true := by unfold askB at hA; rw [Bool.and_eq_true] at hA; exact hA.1
    rw [hAw, Bool.true_and] at a2
    rw [decide_eq_true (show 2 ≤ (mm : Int) ∧ (mm : Int) ≤ 3 by omega)] at a3
    obtain ⟨r, B, -, b2, -, -, -, -, -, b8⟩ := best_run w mm g1 g2 ⟨g4, g5⟩ g3
    obtain ⟨B', ps, c1, c2, -⟩ := best_fits w mm g1 g2 ⟨g4, g5⟩ g3
    obtain rfl := ev_one b2 c2
    have d1 := implBest_ev w (mm : Int) (by omega) B (fun _ => b2)
    have d2 := specBest_ev w (mm : Int) (by omega) B (fun _ => c1)
    rw [hA, if_pos rfl] at d1 d2
    by_cases h6 : (w.length : Int) ≤ 6
    · rw [decide_eq_true h6] at a2
      obtain ⟨B2, x1, x2, hne, s1, s2⟩ := search_is w mm g1 (by omega) ⟨g4, g5⟩ g3
      obtain rfl := ev_one b2 x2
      have hin := sols_inv mm w ((mm ^ 11 : Nat) : Int) B
      generalize sols mm w ((mm ^ 11 : Nat) : Int) B = S at hne s1 s2 hin
      match S, hne, s1, s2, hin with
      | a :: t, _, s1, s2, hin =>
        obtain ⟨ls, rfl, q1, q2, q3, q4⟩ := hin a (by omega) (by simp)
        have e0 : rd_L2 (ls.map (fun (x : Nat) => (x : Int)) :: t) 0 = ls.map (fun (x : Nat) => (x : Int)) := by simp [rd_L2]
        refine ⟨(ls.map (fun (x : Nat) => (x : Int)), true), ((ls.map (fun (x : Nat) => (x : Int)) :: t).length : Int), B, true, ?_, ?_, ?_, ?_, d1, d2, by simp; omega, fun _ => ⟨rfl, by omega, by simp; omega, rfl, mm, ls, rfl, ⟨q1, q2, by omega, fun ls' l1 l2 l3 => by rw [q4]; exact b8 ls' l1 l2 l3⟩, rfl, q4.symm, b2⟩⟩
        · unfold impl_FirstBest.f
          exact Ev.bind a2 (Ev.pos rfl (Ev.known (fun _ => a3) (Ev.pos rfl (Ev.bind s2 (Ev.pos (by simp) (Ev.pure (by rw [e0])))))))
        · unfold spec_FirstBest.f
          exact Ev.bind a1 (Ev.pos rfl (Ev.neg (by omega) (Ev.bind s1 (Ev.pure (by simp [upd])))))
        · unfold impl_CountBest.f
          exact Ev.bind a2 (Ev.pos rfl (Ev.known (fun _ => a3) (Ev.pos rfl (Ev.bind s2 (Ev.now _)))))
        · unfold spec_CountBest.f
          refine Ev.bind a1 (Ev.pos rfl (Ev.neg (by omega) (Ev.bind s1 (Ev.pure ?_))))
          rw [upd_cnt]; simp
    · rw [decide_eq_false h6] at a2
      refine ⟨([], false), 0, B, true, ?_, ?_, ?_, ?_, d1, d2, by simp, fun h => by cases h⟩
      · unfold impl_FirstBest.f
        exact Ev.bind a2 (Ev.neg (by simp) (Ev.now _))
      · unfold spec_FirstBest.f
        exact Ev.bind a1 (Ev.pos rfl (Ev.pos (by omega) (Ev.now _)))
      · unfold impl_CountBest.f
        exact Ev.bind a2 (Ev.neg (by simp) (Ev.now _))
      · unfold spec_CountBest.f
        exact Ev.bind a1 (Ev.pos rfl (Ev.pos (by omega) (Ev.now _)))
theorem impl_areDeep__1_l0 (l : List Int) (hl : l.length ≤ 1048576) : ∀ (d i : Nat), i + d = l.length → ∃ r, Ev (fun k => slices_IndexFunc_int_int__at_impl_areDeep__1.l0 k l (l.length : Int) (i : Int)) r ∧ decide (r ≥ 0) = (l.drop i).any fun x => !decide (1 ≤ x ∧ x ≤ 11)
  | 0, i, hd => ⟨-1, Ev.step (f := fun _ => some (-1)) (fun k => by simp only [slices_IndexFunc_int_int__at_impl_areDeep__1.l0]; rw [if_neg (by omega)]) (Ev.now _), by rw [List.drop_of_length_le (by omega)]; rfl⟩
  | d + 1, i, hd => by
    have h1 : i < l.length := by omega
    obtain ⟨r, ih, hr⟩ := impl_areDeep__1_l0 l hl d (i + 1) (by omega)
    have hs : ∀ k, slices_IndexFunc_int_int__at_impl_areDeep__1.l0 (k + 1) l (l.length : Int) (i : Int) = if (!decide (1 ≤ l[i] ∧ l[i] ≤ 11)) = true then some (i : Int) else slices_IndexFunc_int_int__at_impl_areDeep__1.l0 k l (l.length : Int) ((i + 1 : Nat) : Int) := by
      intro k
      simp only [slices_IndexFunc_int_int__at_impl_areDeep__1.l0, impl_areDeep__1.f, impl_in_eq]; rw [if_pos (by omega), if_pos (by omega), if_pos (by omega), w1 (by omega) (by omega), rd_nat l i h1]; simp
    rw [List.drop_eq_getElem_cons h1, List.any_cons]
    by_cases h : (!decide (1 ≤ l[i] ∧ l[i] ≤ 11)) = true
    · exact ⟨i, Ev.step hs (Ev.pos h (Ev.now _)), by rw [h]; simp⟩
    · exact ⟨r, Ev.step hs (Ev.neg h ih), by rw [hr, Bool.eq_false_iff.mpr h, Bool.false_or]⟩
theorem impl_areDeep__1_contains (l : List Int) (hl : l.length ≤ 1048576) : Ev (fun k => slices_ContainsFunc_int_int__at_impl_areDeep__1.f k l) (l.any fun x => !decide (1 ≤ x ∧ x ≤ 11)) := by
  obtain ⟨r, h, hr⟩ := impl_areDeep__1_l0 l hl l.length 0 (by omega)
  unfold slices_ContainsFunc_int_int__at_impl_areDeep__1.f slices_IndexFunc_int_int__at_impl_areDeep__1.f
  refine Ev.bind (by simpa using h) (Ev.pure ?_)
  simpa using hr
theorem impl_areDeep_ev (l : List Int) (hl : l.length ≤ 1048576) : Ev (fun k => impl_areDeep.f k l) (decide (1 ≤ (l.length : Int) ∧ (l.length : Int) ≤ 12) && l.all fun x => decide (1 ≤ x ∧ x ≤ 11)) := by
  unfold impl_areDeep.f
  refine Ev.known (fun n => impl_in_eq _ _ _) (Ev.cases (fun h => ?_) (fun h => ?_))
  · refine Ev.bind (impl_areDeep__1_contains l hl) (Ev.pure ?_)
    rw [h, Bool.true_and, List.any_eq_not_all_not, Bool.not_not]; simp
  · refine Ev.pure ?_
    rw [Bool.eq_false_iff.mpr h, Bool.false_and]
theorem beLengths_ev (l : List Int) (hl : l.length ≤ 1048576) : Ev (fun k => spec_beLengths.f k l) (decide (1 ≤ (l.length : Int) ∧ (l.length : Int) ≤ 12) && l.all fun x => decide (1 ≤ x ∧ x ≤ 11)) := by
  unfold spec_beLengths.f
  refine Ev.known (fun n => spec_in _ _ _) (Ev.cases (fun h => ?_) (fun h => ?_))
  · exact Ev.bind (spec_all l _ _ hl) (Ev.pure (by rw [h, Bool.true_and]))
  · exact Ev.pure (by rw [Bool.eq_false_iff.mpr h, Bool.false_and])
theorem cost_l0_eq : ∀ (k : Nat) (a : List Int) (b : Int) (c : List Int) (d e : Int), impl_costOf.l0 k a b c d e = spec_beCost.l0 k a b c d e
  | 0, _, _, _, _, _ => rfl
  | k + 1, a, b, c, d, e => by simp only [impl_costOf.l0, spec_beCost.l0, cost_l0_eq k]
def kr (m e : Nat) (L : List Nat) : Nat := (L.map fun x => m ^ (e - x)).sum
theorem kr_snoc (m e : Nat) (L : List Nat) (x : Nat) : kr m e (L ++ [x]) = kr m e L + m ^ (e - x) := by simp [kr]
theorem kr_le {m e : Nat} (hm : 2 ≤ m ∧ m ≤ 3) (he : e ≤ 11) : ∀ L : List Nat, kr m e L ≤ L.length * 177147
  | [] => by simp [kr]
  | x :: L => by
    have h1 := kr_le hm he L
    have h2 := (pow_small (n := e - x) hm (by omega)).2
    have h3 : kr m e (x :: L) = m ^ (e - x) + kr m e L := by simp [kr]
    rw [h3, List.length_cons, Nat.add_mul]
    omega
theorem kr_take {m e : Nat} (hm : 2 ≤ m ∧ m ≤ 3) (he : e ≤ 11) (L : List Nat) (hL : L.length ≤ 12) (i : Nat) : kr m e (L.take i) ≤ 2125764 := by
  have h1 := kr_le hm he (L.take i)
  have h2 : (L.take i).length ≤ 12 := by rw [List.length_take]; omega
  have h3 := Nat.mul_le_mul_right 177147 h2
  omega
theorem kr_perm (m e : Nat) {L M : List Nat} (h : L.Perm M) : kr m e L = kr m e M := (h.map _).sum_nat
theorem kr_up (m : Nat) : ∀ (L : List Nat), (∀ x ∈ L, x ≤ 8) → kr m 11 L = kr m 8 L * m ^ 3
  | [], _ => by simp [kr]
  | x :: L, h => by
    have ih := kr_up m L (fun y hy => h y (by simp [hy]))
    have hx := h x (by simp)
    have h1 : kr m 11 (x :: L) = m ^ (11 - x) + kr m 11 L := by simp [kr]
    have h2 : kr m 8 (x :: L) = m ^ (8 - x) + kr m 8 L := by simp [kr]
    rw [h1, h2, ih, Nat.add_mul, ← Nat.pow_add, show 8 - x + 3 = 11 - x by omega]
def intsOf (L : List Nat) : List Int := L.map fun (x : Nat) => (x : Int)
theorem ints_len (L : List Nat) : (intsOf L).length = L.length := by simp [intsOf]
theorem ints_at (L : List Nat) (i : Nat) (h : i < L.length) : rd (intsOf L) (i : Int) = ((L[i] : Nat) : Int) := by
  rw [rd_nat _ i (by rw [ints_len]; exact h)]
  simp [intsOf]
theorem beFit_l0 (m : Nat) (hm : 2 ≤ m ∧ m ≤ 3) (L : List Nat) (hL : L.length ≤ 12) (hb : ∀ x ∈ L, 1 ≤ x ∧ x ≤ 11) : ∀ (d i : Nat), i + d = L.length → Ev (fun k => spec_beFit.l0 k (m : Int) (((m ^ 11 : Nat) : Int) - ((kr m 11 (L.take i) : Nat) : Int)) (intsOf L) (L.length : Int) (i : Int)) (decide (kr m 11 L ≤ m ^ 11))
  | 0, i, hd => by
    refine Ev.succ ?_
    simp only [spec_beFit.l0]
    exact Ev.neg (by omega) (Ev.pure (by rw [List.take_of_length_le (by omega)]; exact decide_eq_decide.2 (by omega)))
  | d + 1, i, hd => by
    have h1 : i < L.length := by omega
    have hx := hb _ (List.getElem_mem h1)
    have ih := beFit_l0 m hm L hL hb d (i + 1) (by omega)
    have hp := pow_small (n := 11 - L[i]) hm (by omega)
    have hq := pow_small (n := 11) hm (by omega)
    have hk := kr_take hm (e := 11) (by omega) L hL i
    have hpe := krPower_ev m (11 - L[i]) (by omega) (by omega) (by omega)
    rw [List.take_succ_eq_append_getElem h1, kr_snoc] at ih
    have e1 : Aside0 (wrap64 (11 - ((L[i] : Nat) : Int)) = ((11 - L[i] : Nat) : Int)) := ⟨by rw [w64 (by omega) (by omega)]; omega⟩
    have e2 : Aside0 (wrap64 (((m ^ 11 : Nat) : Int) - ((kr m 11 (L.take i) : Nat) : Int) - ((m ^ (11 - L[i]) : Nat) : Int)) = ((m ^ 11 : Nat) : Int) - ((kr m 11 (L.take i) + m ^ (11 - L[i]) : Nat) : Int)) := ⟨by rw [w64 (by omega) (by omega)]; omega⟩
    refine Ev.succ ?_
    simp only [spec_beFit.l0, ints_at L i h1, e1.out, w1 (show 0 ≤ (i : Int) by omega) (show (i : Int) < 9223372036854775807 by omega)]
    refine Ev.pos (by omega) (Ev.pos (by omega) (Ev.pos (by rw [ints_len]; omega) (Ev.bind hpe ?_)))
    simp only [e2.out]
    exact ih
theorem beFit_ev (m : Nat) (hm : 2 ≤ m ∧ m ≤ 3) (L : List Nat) (hL : L.length ≤ 12) (hb : ∀ x ∈ L, 1 ≤ x ∧ x ≤ 11) : Ev (fun k => spec_beFit.f k (intsOf L) (m : Int)) (decide (kr m 11 L ≤ m ^ 11)) := by
  have hq := pow_small (n := 11) hm (by omega)
  have h := beFit_l0 m hm L hL hb L.length 0 (by omega)
  unfold spec_beFit.f
  refine Ev.bind (krPower_ev m 11 (by omega) (by omega) (by omega)) ?_
  rw [ints_len]
  simpa [kr] using h
theorem kr_ks (m e : Nat) : ∀ L : List Nat, kr m e L = ks m e L
  | [] => rfl
  | x :: L => by
    have h3 : kr m e (x :: L) = m ^ (e - x) + kr m e L := by simp [kr]
    rw [h3, ks_cons, kr_ks m e L]
theorem ints_of (l : List Int) (h : ∀ x ∈ l, 1 ≤ x) : l = intsOf (l.map Int.toNat) := by
  unfold intsOf
  rw [List.map_map]
  conv => lhs; rw [← List.map_id l]
  apply List.map_congr_left
  intro x hx
  have := h x hx
  simp
  omega
theorem room_l0 (m : Nat) (hm : 2 ≤ m ∧ m ≤ 3) (L : List Nat) (hL : L.length ≤ 12) (hb : ∀ x ∈ L, 1 ≤ x ∧ x ≤ 11) : ∀ (d i : Nat), i + d = L.length → Ev (fun k => impl_room.l0 k (m : Int) (((m ^ 11 : Nat) : Int) - ((kr m 11 (L.take i) : Nat) : Int)) (intsOf L) (L.length : Int) (i : Int)) (((m ^ 11 : Nat) : Int) - ((kr m 11 L : Nat) : Int))
  | 0, i, hd => by
    refine Ev.succ ?_
    simp only [impl_room.l0]
    exact Ev.neg (by omega) (Ev.pure (by rw [List.take_of_length_le (by omega)]))
  | d + 1, i, hd => by
    have h1 : i < L.length := by omega
    have hx := hb _ (List.getElem_mem h1)
    have ih := room_l0 m hm L hL hb d (i + 1) (by omega)
    have hp := pow_small (n := 11 - L[i]) hm (by omega)
    have hq := pow_small (n := 11) hm (by omega)
    have hk := kr_take hm (e := 11) (by omega) L hL i
    have hpe := power_ev m (11 - L[i]) (by omega) (by omega) (by omega)
    rw [List.take_succ_eq_append_getElem h1, kr_snoc] at ih
    have e1 : Aside0 (wrap64 (11 - ((L[i] : Nat) : Int)) = ((11 - L[i] : Nat) : Int)) := ⟨by rw [w64 (by omega) (by omega)]; omega⟩
    have e2 : Aside0 (wrap64 (((m ^ 11 : Nat) : Int) - ((kr m 11 (L.take i) : Nat) : Int) - ((m ^ (11 - L[i]) : Nat) : Int)) = ((m ^ 11 : Nat) : Int) - ((kr m 11 (L.take i) + m ^ (11 - L[i]) : Nat) : Int)) := ⟨by rw [w64 (by omega) (by omega)]; omega⟩
    refine Ev.succ ?_
    simp only [impl_room.l0, ints_at L i h1, e1.out, w1 (show 0 ≤ (i : Int) by omega) (show (i : Int) < 9223372036854775807 by omega)]
    refine Ev.pos (by omega) (Ev.pos (by omega) (Ev.pos (by rw [ints_len]; omega) (Ev.bind hpe ?_)))
    simp only [e2.out]
    exact ih
theorem room_ev (m : Nat) (hm : 2 ≤ m ∧ m ≤ 3) (L : List Nat) (hL : L.length ≤ 12) (hb : ∀ x ∈ L, 1 ≤ x ∧ x ≤ 11) : Ev (fun k => impl_room.f k (intsOf L) (m : Int)) (((m ^ 11 : Nat) : Int) - ((kr m 11 L : Nat) : Int)) := by
  have hq := pow_small (n := 11) hm (by omega)
  have h := room_l0 m hm L hL hb L.length 0 (by omega)
  unfold impl_room.f
  refine Ev.bind (power_ev m 11 (by omega) (by omega) (by omega)) ?_
  rw [ints_len]
  simpa [kr] using h
theorem cost_l0 (w : List Int) (L : List Nat) (hl : L.length = w.length) (h12 : w.length ≤ 12) (hw : ∀ x ∈ w, 1 ≤ x ∧ x ≤ 100) (hb : ∀ x ∈ L, 1 ≤ x ∧ x ≤ 11) : ∀ (d i : Nat) (s : Int), i + d = w.length → 0 ≤ s → s ≤ 1200 * (i : Int) → Ev (fun k => impl_costOf.l0 k (intsOf L) s w (w.length : Int) (i : Int)) (s + dot (w.drop i) (L.drop i))
  | 0, i, s, hd, _, _ => by
    rw [List.drop_of_length_le (by omega)]
    exact Ev.succ (by simp only [impl_costOf.l0]; exact Ev.neg (by omega) (Ev.pure (by simp [dot])))
  | d + 1, i, s, hd, h0, hs => by
    have hi : i < w.length := by omega
    have hi' : i < L.length := by omega
    rw [List.drop_eq_getElem_cons hi, List.drop_eq_getElem_cons hi']
    simp only [dot]
    have hp := mul_le_1100 (l := L[i]) (x := w[i]) (by have := hb _ (List.getElem_mem hi'); omega) (hw _ (List.getElem_mem hi))
    have hc : w[i] * ((L[i] : Nat) : Int) = ((L[i] : Nat) : Int) * w[i] := Int.mul_comm _ _
    generalize hP : ((L[i] : Nat) : Int) * w[i] = P at hp hc
    have h1 := cost_l0 w L hl h12 hw hb d (i + 1) (s + P) (by omega) (by omega) (by omega)
    rw [show s + P + dot (w.drop (i + 1)) (L.drop (i + 1)) = s + (P + dot (w.drop (i + 1)) (L.drop (i + 1))) by omega] at h1
    have wi := w1 (show 0 ≤ (i : Int) by omega) (show (i : Int) < 9223372036854775807 by omega)
    have e1 : Aside0 (wrap64 P = P) := ⟨w64 (by omega) (by omega)⟩
    have e2 : Aside0 (wrap64 (s + P) = s + P) := ⟨w64 (by omega) (by omega)⟩
    refine Ev.succ ?_
    simp only [impl_costOf.l0, rd_nat w i hi, ints_at L i hi', hc, e1.out, e2.out, wi]
    exact Ev.pos (by omega) (Ev.pos (by omega) (Ev.pos (by omega) (Ev.pos (by rw [ints_len]; omega) h1)))
theorem cost_ev (w : List Int) (L : List Nat) (hl : L.length = w.length) (h12 : w.length ≤ 12) (hw : ∀ x ∈ w, 1 ≤ x ∧ x ≤ 100) (hb : ∀ x ∈ L, 1 ≤ x ∧ x ≤ 11) : Ev (fun k => impl_costOf.f k w (intsOf L)) (dot w L) ∧ Ev (fun k => spec_beCost.f k w (intsOf L)) (dot w L) := by
  have h := cost_l0 w L hl h12 hw hb w.length 0 0 (by omega) (by omega) (by omega)
  rw [List.drop_zero, List.drop_zero, Int.zero_add] at h
  exact ⟨h, Ev.congr (fun k => (cost_l0_eq k _ _ _ _ _).symm) h⟩
def deepB (l : List Int) : Bool := decide (1 ≤ (l.length : Int) ∧ (l.length : Int) ≤ 12) && l.all fun x => decide (1 ≤ x ∧ x ≤ 11)
theorem deepB_of {l : List Int} (h : deepB l = true) : ∃ L : List Nat, l = intsOf L ∧ ∀ x ∈ L, 1 ≤ x ∧ x ≤ 11 := by
  unfold deepB at h
  simp only [Bool.and_eq_true, decide_eq_true_eq, List.all_eq_true] at h
  refine ⟨l.map Int.toNat, ints_of l (fun x hx => (h.2 x hx).1), fun x hx => ?_⟩
  obtain ⟨y, hy, rfl⟩ := List.mem_map.1 hx
  have := h.2 y hy
  omega
theorem deepB_ints {L : List Nat} (h1 : 1 ≤ L.length) (h2 : L.length ≤ 12) (hb : ∀ x ∈ L, 1 ≤ x ∧ x ≤ 11) : deepB (intsOf L) = true := by
  unfold deepB
  simp only [Bool.and_eq_true, decide_eq_true_eq, List.all_eq_true, ints_len]
  refine ⟨by omega, fun x hx => ?_⟩
  obtain ⟨y, hy, rfl⟩ := List.mem_map.1 hx
  have := hb y hy
  omega
theorem implDeep (l : List Int) (hl : l.length ≤ 1048576) : Ev (fun k => impl_areDeep.f k l) (deepB l) := impl_areDeep_ev l hl
theorem specDeep (l : List Int) (hl : l.length ≤ 1048576) : Ev (fun k => spec_beLengths.f k l) (deepB l) := beLengths_ev l hl
def weighB (w : List Int) : Bool := decide (1 ≤ (w.length : Int) ∧ (w.length : Int) ≤ 12) && w.all fun x => decide (1 ≤ x ∧ x ≤ 100)
theorem implWeigh (w : List Int) (hl : w.length ≤ 1048576) : Ev (fun k => impl_areWeights.f k w) (weighB w) := impl_areWeights_ev w hl
theorem specWeigh (w : List Int) (hl : w.length ≤ 1048576) : Ev (fun k => spec_beWeights.f k w) (weighB w) := beWeights_ev w hl
theorem specAsk (w : List Int) (m : Int) (hl : w.length ≤ 1048576) : Ev (fun k => spec_beAsked.f k w m) (askB w m) := by
  have h := beAsked_ev w m hl
  rw [Bool.and_comm] at h
  exact h
theorem ask_split (w : List Int) (m : Int) : askB w m = (weighB w && decide (2 ≤ m ∧ m ≤ 3)) := rfl
theorem weighB_of {w : List Int} (h : weighB w = true) : 1 ≤ w.length ∧ w.length ≤ 12 ∧ ∀ x ∈ w, 1 ≤ x ∧ x ≤ 100 := by
  unfold weighB at h
  simp only [Bool.and_eq_true, decide_eq_true_eq, List.all_eq_true] at h
  exact ⟨by omega, by omega, h.2⟩
theorem costOf_told (w l : List Int) (hw : w.length ≤ 1048576) (hl : l.length ≤ 1048576) : ∃ r, Ev (fun k => impl_CostOf.f k w l) r ∧ Ev (fun k => spec_CostOf.f k w l) r ∧ (weighB w = true → deepB l = true → l.length = w.length → ∃ L : List Nat, l = intsOf L ∧ (∀ x ∈ L, 1 ≤ x ∧ x ≤ 11) ∧ r = (dot w L, true)) := by
  unfold spec_CostOf.f impl_CostOf.f
  have a1 := specWeigh w hw
  have a2 := implWeigh w hw
  have b1 := specDeep l hl
  have b2 := implDeep l hl
  cases hA : weighB w with
  | false =>
    rw [hA] at a1 a2
    exact ⟨(0, false), Ev.bind a2 (Ev.neg (by simp) (Ev.now _)), Ev.bind a1 (Ev.neg (by simp) (Ev.now _)), fun h => by cases h⟩
  | true =>
    rw [hA] at a1 a2
    cases hB : deepB l with
    | false =>
      rw [hB] at b1 b2
      exact ⟨(0, false), Ev.bind a2 (Ev.pos rfl (Ev.bind b2 (Ev.neg (by simp) (Ev.now _)))), Ev.bind a1 (Ev.pos rfl (Ev.bind b1 (Ev.neg (by simp) (Ev.now _)))), fun _ h => by cases h⟩
    | true =>
      rw [hB] at b1 b2
      by_cases e : l.length = w.length
      · obtain ⟨g1, g2, g3⟩ := weighB_of hA
        obtain ⟨L, rfl, hb⟩ := deepB_of hB
        rw [ints_len] at e
        obtain ⟨c1, c2⟩ := cost_ev w L e g2 g3 hb
        exact ⟨(dot w L, true), Ev.bind a2 (Ev.pos rfl (Ev.bind b2 (Ev.pos rfl (Ev.pos (by rw [ints_len]; omega) (Ev.bind c1 (Ev.now _)))))), Ev.bind a1 (Ev.pos rfl (Ev.bind b1 (Ev.pos rfl (Ev.pos (by rw [ints_len]; omega) (Ev.bind c2 (Ev.now _)))))), fun _ _ _ => ⟨L, rfl, hb, rfl⟩⟩
      · exact ⟨(0, false), Ev.bind a2 (Ev.pos rfl (Ev.bind b2 (Ev.pos rfl (Ev.neg (by omega) (Ev.now _))))), Ev.bind a1 (Ev.pos rfl (Ev.bind b1 (Ev.pos rfl (Ev.neg (by omega) (Ev.now _))))), fun _ _ h => absurd h e⟩
theorem areBest_told (w l : List Int) (m : Int) (hw : w.length ≤ 1048576) (hl : l.length ≤ 1048576) : ∃ r, Ev (fun k => impl_AreBest.f k w l m) r ∧ Ev (fun k => spec_AreBest.f k w l m) r ∧ (r.2 = true → askB w m = true ∧ deepB l = true ∧ l.length = w.length) ∧ (askB w m = true → deepB l = true → l.length = w.length → ∃ (n : Nat) (L : List Nat) (B : Int), m = (n : Int) ∧ l = intsOf L ∧ (∀ x ∈ L, 1 ≤ x ∧ x ≤ 11) ∧ Ev (fun k => impl_bestCost.f k w m) B ∧ r = (if kr n 11 L ≤ n ^ 11 then (dot w L == B, true) else (false, true))) := by
  have no1 : Ev (fun k => spec_AreBest.j0 k w l m true) (false, false) := Ev.succ (by simp only [spec_AreBest.j0]; exact Ev.pos (by simp) (Ev.now _))
  have no2 : Ev (fun k => impl_AreBest.j0 k w l m true) (false, false) := Ev.succ (by simp only [impl_AreBest.j0]; exact Ev.pos (by simp) (Ev.now _))
  unfold spec_AreBest.f impl_AreBest.f
  have a1 := specAsk w m hw
  have a2 := implWeigh w hw
  have a3 := areLetters_eq m
  have b1 := specDeep l hl
  have b2 := implDeep l hl
  rw [ask_split]
  rw [ask_split] at a1
  cases hA : weighB w with
  | false =>
    rw [hA] at a1 a2
    rw [Bool.false_and] at a1
    exact ⟨(false, false), Ev.bind a2 (Ev.neg (by simp) no2), Ev.bind a1 (Ev.neg (by simp) no1), fun h => by simp at h, fun h => by simp at h⟩
  | true =>
    rw [hA] at a1 a2
    rw [Bool.true_and] at a1
    by_cases e : l.length = w.length
    · have e1 : ((l.length : Int) != (w.length : Int)) = false := by rw [e]; simp
      rw [e1]
      cases hM : decide (2 ≤ m ∧ m ≤ 3) with
      | false =>
        rw [hM] at a1 a3
        refine ⟨(false, false), Ev.bind a2 (Ev.pos rfl (Ev.bind b2 (Ev.cases (fun _ => Ev.pos (by omega) (Ev.known (fun _ => a3) no2)) (fun _ => no2)))), Ev.bind a1 (Ev.neg (by simp) no1), fun h => by simp at h, fun h => by simp at h⟩
      | true =>
        rw [hM] at a1 a3
        cases hB : deepB l with
        | false =>
          rw [hB] at b1 b2
          exact ⟨(false, false), Ev.bind a2 (Ev.pos rfl (Ev.bind b2 (Ev.neg (by simp) no2))), Ev.bind a1 (Ev.pos rfl (Ev.bind b1 (Ev.neg (by simp) no1))), fun h => by simp at h, fun _ h => by simp at h⟩
        | true =>
          rw [hB] at b1 b2
          obtain ⟨g1, g2, g3⟩ := weighB_of hA
          obtain ⟨L, rfl, hb⟩ := deepB_of hB
          have e' := e
          rw [ints_len] at e'
          obtain ⟨c1, c2⟩ := cost_ev w L e' g2 g3 hb
          have hM' : 2 ≤ m ∧ m ≤ 3 := by simpa using hM
          obtain ⟨n, rfl⟩ : ∃ n : Nat, m = (n : Int) := ⟨m.toNat, by omega⟩
          obtain ⟨B, ps, x1, x2, -⟩ := best_fits w n g1 g2 (by omega) g3
          have f1 := beFit_ev n (by omega) L (by omega) hb
          have f2 := room_ev n (by omega) L (by omega) hb
          refine ⟨(if kr n 11 L ≤ n ^ 11 then (dot w L == B, true) else (false, true)), Ev.bind a2 (Ev.pos rfl (Ev.bind b2 (Ev.pos rfl (Ev.pos (by omega) (Ev.known (fun _ => a3) (Ev.succ ?_)))))), Ev.bind a1 (Ev.pos rfl (Ev.bind b1 (Ev.pos rfl (Ev.succ ?_)))), fun _ => ⟨rfl, rfl, e⟩, fun _ _ _ => ⟨n, L, B, rfl, rfl, hb, x2, rfl⟩⟩
          · simp only [impl_AreBest.j0]
            refine Ev.neg (by simp) (Ev.bind f2 ?_)
            by_cases c : kr n 11 L ≤ n ^ 11
            · rw [if_pos c]; exact Ev.pos (by omega) (Ev.bind c1 (Ev.bind x2 (Ev.now _)))
            · rw [if_neg c]; exact Ev.neg (by omega) (Ev.now _)
          · simp only [spec_AreBest.j0]
            refine Ev.neg (by simp) (Ev.bind f1 ?_)
            by_cases c : kr n 11 L ≤ n ^ 11
            · rw [if_pos c, decide_eq_true c]; exact Ev.pos rfl (Ev.bind c2 (Ev.bind x1 (Ev.now _)))
            · rw [if_neg c, decide_eq_false c]; exact Ev.neg (by simp) (Ev.now _)
    · have e1 : ((l.length : Int) != (w.length : Int)) = true := by simp; omega
      rw [e1]
      refine ⟨(false, false), Ev.bind a2 (Ev.pos rfl (Ev.bind b2 (Ev.cases (fun _ => Ev.neg (by omega) no2) (fun _ => no2)))), Ev.bind a1 (Ev.cases (fun _ => Ev.bind b1 (Ev.cases (fun _ => no1) (fun _ => no1))) (fun _ => no1)), fun h => by simp at h, fun _ _ h => absurd h e⟩
theorem s3_ev {l1 : List Int} (hl : OkL l1) : Ev (fun k => bm_s3 k l1) true := by
  obtain ⟨w, at1, sd1, e1, hw, p1, p2⟩ := weights_ev hl 0 0 6 (by omega) (by omega) (by omega) (by omega)
  obtain ⟨m, at2, sd2, e2, p3, p4⟩ := letters_ev hl at1 sd1 (by omega) (by omega)
  obtain ⟨l, at3, sd3, e3, hl3⟩ := lengthsFor_ev hl at2 sd2 w m hw (by omega) (by omega)
  have d : Ev (fun k => spec_DrawAreBest.f k l1) (w, l, m) := by
    unfold spec_DrawAreBest.f
    exact Ev.bind e1 (Ev.known (fun _ => e2) (Ev.bind e3 (Ev.now _)))
  obtain ⟨v, at4, sd4, e4, hv, p5, p6⟩ := weights_ev hl 0 0 8 (by omega) (by omega) (by omega) (by omega)
  obtain ⟨u, at5, sd5, e5, hu⟩ := lengthsFor_ev hl at4 sd4 v 2 hv (by omega) (by omega)
  have d2 : Ev (fun k => spec_DrawCostOf.f k l1) (v, u) := by
    unfold spec_DrawCostOf.f
    exact Ev.bind e4 (Ev.bind e5 (Ev.now _))
  obtain ⟨a, a1, a2, a3, a4⟩ := areBest_told w l m (by omega) (by omega)
  obtain ⟨c, c1, c2, -⟩ := costOf_told v u (by omega) (by omega)
  unfold bm_s3
  refine Ev.bind d (Ev.bind a1 (Ev.bind a2 (Ev.bind d2 (Ev.bind c1 (Ev.bind c2 (Ev.pos ⟨rfl, rfl⟩ (Ev.cases (fun h => ?_) (fun _ => Ev.now _))))))))
  obtain ⟨h1, h2, h3⟩ := a3 h
  obtain ⟨n, L, B, rfl, rfl, hb, hB, rfl⟩ := a4 h1 h2 h3
  obtain ⟨o, o1, -, o3⟩ := costOf_told w (intsOf L) (by omega) (by omega)
  have hA : weighB w = true := by rw [ask_split, Bool.and_eq_true] at h1; exact h1.1
  obtain ⟨L', e, -, rfl⟩ := o3 hA h2 h3
  have b1 := implBest_ev w (n : Int) (by omega) B (fun _ => hB)
  rw [h1, if_pos rfl] at b1
  refine Ev.bind b1 (Ev.bind o1 (Ev.pos ⟨rfl, rfl, fun hh => ?_⟩ (Ev.now _)))
  have eL : L' = L := by
    unfold intsOf at e
    exact (List.map_inj_right (fun x y h => by omega)).1 e.symm
  subst eL
  split at hh
  · simpa using hh
  · cases hh
abbrev ch (s : ByteArray) : List UInt8 := s.data.toList
theorem ch_length (s : ByteArray) : (ch s).length = s.size := Array.length_toList
theorem ch_extract (s : ByteArray) (a b : Nat) : ch (s.extract a b) = ((ch s).drop a).take (b - a) := by
  simp [ch, ByteArray.data_extract, Array.toList_extract, List.extract_eq_take_drop]
theorem begins_test (a w : ByteArray) (h : w.size ≤ a.size) : ((a.extract 0 w.size).toList == w.toList) = (ch w).isPrefixOf (ch a) := by
  rw [ByteArray.toList_eq, ByteArray.toList_eq]
  change (ch (a.extract 0 w.size) == ch w) = _
  rw [ch_extract, List.drop_zero, Nat.sub_zero, ← ch_length w, Bool.eq_iff_iff, beq_iff_eq, List.isPrefixOf_iff_prefix, List.prefix_iff_eq_take]
  exact eq_comm
theorem prefix_long (a w : ByteArray) (h : ¬ w.size ≤ a.size) : (ch w).isPrefixOf (ch a) = false := by
  rw [Bool.eq_false_iff]
  intro hp
  have := (List.isPrefixOf_iff_prefix.1 hp).length_le
  rw [ch_length, ch_length] at this
  exact h this
theorem rdOf_nat (l : List ByteArray) (i : Nat) (h : i < l.length) : rdOf ByteArray.empty l (i : Int) = l[i] := by
  unfold rdOf; simp [List.getD_eq_getElem?_getD, h]
def plLt (l : List Int) (x y : Nat) : Bool := decide (l.getD x 0 < l.getD y 0 ∨ (l.getD x 0 = l.getD y 0 ∧ x < y))
def finLt {n : Nat} (l : List Int) (x y : Fin (n + 1)) : Bool := plLt l x.val y.val
theorem finLt_swo {n : Nat} (l : List Int) : Go.Sort.SWO (finLt (n := n) l) where
  irrefl x := by unfold finLt plLt; rw [decide_eq_false_iff_not]; omega
  trans x y z h1 h2 := by
    unfold finLt plLt at *
    rw [decide_eq_true_eq] at *
    omega
  ntrans x y z h1 h2 := by
    unfold finLt plLt at *
    rw [decide_eq_false_iff_not] at *
    omega
theorem later_eq {n : Nat} (l : List Int) (hl : ∀ x, -1000 ≤ l.getD x 0 ∧ l.getD x 0 ≤ 1000) (x y : Fin (n + 1)) (h : y.val < x.val) : ltOf (cmpP l) x y = finLt l x y := by
  have hx := hl x.val
  have hy := hl y.val
  unfold ltOf cmpP finLt plLt
  rw [w64 (by omega) (by omega)]
  exact decide_eq_decide.2 (by omega)
theorem inner_eq {n : Nat} (l : List Int) (hl : ∀ x, -1000 ≤ l.getD x 0 ∧ l.getD x 0 ≤ 1000) : ∀ (j : Nat) (d : Array (Fin (n + 1))), j < d.size → (∀ p, p < j → (d[p]!).val < (d[j]!).val) → Go.Sort.insInner (ltOf (cmpP l)) 0 j d = Go.Sort.insInner (finLt l) 0 j d
  | 0, d, _, _ => by unfold Go.Sort.insInner; rfl
  | j + 1, d, hj, h => by
    unfold Go.Sort.insInner
    rw [later_eq l hl _ _ (h j (by omega))]
    split
    · refine inner_eq l hl j _ (by rw [Go.Sort.swp_size]; omega) (fun p hp => ?_)
      rw [Go.Sort.swp_other d (j + 1) j p (by omega) (by omega), Go.Sort.swp_right d (j + 1) j (by omega)]
      exact h p (by omega)
    · rfl
theorem inner_all {α : Type} [Inhabited α] (lt : α → α → Bool) : ∀ (j : Nat) (d : Array α), j < d.size → (∀ p, j < p → (Go.Sort.insInner lt 0 j d)[p]! = d[p]!) ∧ ∀ Q : α → Prop, (∀ p, p ≤ j → Q d[p]!) → ∀ p, p ≤ j → Q (Go.Sort.insInner lt 0 j d)[p]!
  | 0, d, _ => by unfold Go.Sort.insInner; exact ⟨fun _ _ => rfl, fun Q h => h⟩
  | j + 1, d, hj => by
    unfold Go.Sort.insInner
    split
    · obtain ⟨h1, h2⟩ := inner_all lt j (Go.Sort.swp d (j + 1) j) (by rw [Go.Sort.swp_size]; omega)
      refine ⟨fun p hp => ?_, fun Q hQ p hp => ?_⟩
      · rw [h1 p (by omega), Go.Sort.swp_other d (j + 1) j p (by omega) (by omega)]
      · by_cases hpj : p = j + 1
        · subst hpj
          rw [h1 (j + 1) (by omega), Go.Sort.swp_left d (j + 1) j hj (by omega)]
          exact hQ j (by omega)
        · refine h2 Q (fun q hq => ?_) p (by omega)
          by_cases hqj : q = j
          · subst hqj
            rw [Go.Sort.swp_right d (q + 1) q (by omega)]
            exact hQ _ (Nat.le_refl _)
          · rw [Go.Sort.swp_other d (j + 1) j q (by omega) hqj]
            exact hQ q (by omega)
    · exact ⟨fun _ _ => rfl, fun Q h => h⟩
theorem outer_eq {n : Nat} (l : List Int) (hl : ∀ x, -1000 ≤ l.getD x 0 ∧ l.getD x 0 ≤ 1000) : ∀ (t i : Nat) (d : Array (Fin (n + 1))), d.size = n + 1 → i + t = n + 1 → (∀ p, i ≤ p → p < n + 1 → (d[p]!).val = p) → (∀ p, p < i → (d[p]!).val < i) →
    Go.Sort.insOuter (ltOf (cmpP l)) 0 (n + 1) i d = Go.Sort.insOuter (finLt l) 0 (n + 1) i d
  | 0, i, d, _, hi, _, _ => by
    rw [Go.Sort.insOuter, if_neg (by omega)]
    rw [Go.Sort.insOuter, if_neg (by omega)]
  | t + 1, i, d, hs, hi, h1, h2 => by
    have e := inner_eq l hl i d (by omega) (fun p hp => by rw [h1 i (Nat.le_refl _) (by omega)]; exact h2 p hp)
    obtain ⟨k1, k2⟩ := inner_all (finLt l) i d (by omega)
    rw [Go.Sort.insOuter, if_pos (by omega), e]
    conv => rhs; rw [Go.Sort.insOuter, if_pos (by omega)]
    refine outer_eq l hl t (i + 1) _ (by rw [insInner_size]; exact hs) (by omega) (fun p hp hp2 => ?_) (fun p hp => ?_)
    · rw [k1 p (by omega)]
      exact h1 p (by omega) hp2
    · refine k2 (fun x => x.val < i + 1) (fun q hq => ?_) p (by omega)
      by_cases hqi : q = i
      · subst hqi
        rw [h1 q (Nat.le_refl _) (by omega)]
        omega
      · have := h2 q (by omega)
        omega
theorem allP_at (n p : Nat) (hp : p < n + 1) : ((allP n)[p]!).val = p := by
  rw [getElem!_pos (allP n) p (by rw [allP_size]; exact hp)]
  simp [allP]
theorem stable_eq {n : Nat} (l : List Int) (hl : ∀ x, -1000 ≤ l.getD x 0 ∧ l.getD x 0 ≤ 1000) : stableP l (allP n) = Go.Sort.insertionSort (finLt l) (allP n) 0 (n + 1) := by
  unfold stableP Go.Sort.insertionSort
  rw [allP_size]
  refine outer_eq l hl n (0 + 1) (allP n) (allP_size n) (by omega) (fun p _ hp => allP_at n p hp) (fun p hp => ?_)
  obtain rfl : p = 0 := by omega
  rw [allP_at n 0 (by omega)]
  omega
theorem extract_all {α : Type} (d : Array α) {m : Nat} (h : d.size = m) : d.extract 0 m = d := by subst h; simp
theorem places_sorted (n : Nat) (l : List Int) (hl : ∀ x, -1000 ≤ l.getD x 0 ∧ l.getD x 0 ≤ 1000) : (impl_WordsFor.places l n).Pairwise (fun x y => plLt l y x = false) ∧ (impl_WordsFor.places l n).Perm (List.range (n + 1)) := by
  unfold impl_WordsFor.places
  rw [stable_eq l hl]
  have hsz := allP_size n
  obtain ⟨⟨p1, -, p3⟩, hs⟩ := Go.Sort.insertionSort_holds (lt := finLt (n := n) l) (finLt_swo l) (allP n) 0 (n + 1) (by omega) (by omega)
  generalize Go.Sort.insertionSort (finLt l) (allP n) 0 (n + 1) = d at p1 p3 hs
  have hd : d.size = n + 1 := by omega
  constructor
  · rw [List.pairwise_map, List.pairwise_iff_getElem]
    intro i j hi hj hij
    have hi' : i < d.size := by simpa using hi
    have hj' : j < d.size := by simpa using hj
    have := hs i j (by omega) hij (by omega)
    rw [getElem!_pos d i hi', getElem!_pos d j hj'] at this
    simpa [finLt] using this
  · have e1 : (d.extract 0 (n + 1)) = d := extract_all d hd
    have e2 : ((allP n).extract 0 (n + 1)) = allP n := extract_all _ hsz
    rw [e1, e2] at p3
    refine (p3.map _).trans ?_
    have : (allP n).toList.map (fun i => i.val) = List.range (n + 1) := by
      apply List.ext_getElem
      · simp [allP]
      · intro j h1 h2
        simp only [allP, List.getElem_map, List.getElem_range, Array.getElem_toList, Array.getElem_ofFn, id]
    rw [this]
theorem impl_areLengths__1_l0 (l : List Int) (hl : l.length ≤ 1048576) : ∀ (d i : Nat), i + d = l.length → ∃ r, Ev (fun k => slices_IndexFunc_int_int__at_impl_areLengths__1.l0 k l (l.length : Int) (i : Int)) r ∧ decide (r ≥ 0) = (l.drop i).any fun x => !decide (1 ≤ x ∧ x ≤ 8)
  | 0, i, hd => ⟨-1, Ev.step (f := fun _ => some (-1)) (fun k => by simp only [slices_IndexFunc_int_int__at_impl_areLengths__1.l0]; rw [if_neg (by omega)]) (Ev.now _), by rw [List.drop_of_length_le (by omega)]; rfl⟩
  | d + 1, i, hd => by
    have h1 : i < l.length := by omega
    obtain ⟨r, ih, hr⟩ := impl_areLengths__1_l0 l hl d (i + 1) (by omega)
    have hs : ∀ k, slices_IndexFunc_int_int__at_impl_areLengths__1.l0 (k + 1) l (l.length : Int) (i : Int) = if (!decide (1 ≤ l[i] ∧ l[i] ≤ 8)) = true then some (i : Int) else slices_IndexFunc_int_int__at_impl_areLengths__1.l0 k l (l.length : Int) ((i + 1 : Nat) : Int) := by
      intro k
      simp only [slices_IndexFunc_int_int__at_impl_areLengths__1.l0, impl_areLengths__1.f, impl_in_eq]; rw [if_pos (by omega), if_pos (by omega), if_pos (by omega), w1 (by omega) (by omega), rd_nat l i h1]; simp
    rw [List.drop_eq_getElem_cons h1, List.any_cons]
    by_cases h : (!decide (1 ≤ l[i] ∧ l[i] ≤ 8)) = true
    · exact ⟨i, Ev.step hs (Ev.pos h (Ev.now _)), by rw [h]; simp⟩
    · exact ⟨r, Ev.step hs (Ev.neg h ih), by rw [hr, Bool.eq_false_iff.mpr h, Bool.false_or]⟩
theorem impl_areLengths__1_contains (l : List Int) (hl : l.length ≤ 1048576) : Ev (fun k => slices_ContainsFunc_int_int__at_impl_areLengths__1.f k l) (l.any fun x => !decide (1 ≤ x ∧ x ≤ 8)) := by
  obtain ⟨r, h, hr⟩ := impl_areLengths__1_l0 l hl l.length 0 (by omega)
  unfold slices_ContainsFunc_int_int__at_impl_areLengths__1.f slices_IndexFunc_int_int__at_impl_areLengths__1.f
  refine Ev.bind (by simpa using h) (Ev.pure ?_)
  simpa using hr
theorem impl_parts_l0 (m : Nat) (hm : 2 ≤ m ∧ m ≤ 3) (L : List Nat) (hL : L.length ≤ 12) (hb : ∀ x ∈ L, 1 ≤ x ∧ x ≤ 8) : ∀ (d i : Nat), i + d = L.length → Ev (fun k => impl_parts.l0 k (m : Int) ((kr m 8 (L.take i) : Nat) : Int) (intsOf L) (L.length : Int) (i : Int)) ((kr m 8 L : Nat) : Int)
  | 0, i, hd => by
    refine Ev.succ ?_
    simp only [impl_parts.l0]
    exact Ev.neg (by omega) (Ev.pure (by rw [List.take_of_length_le (by omega)]))
  | d + 1, i, hd => by
    have h1 : i < L.length := by omega
    have hx := hb _ (List.getElem_mem h1)
    have ih := impl_parts_l0 m hm L hL hb d (i + 1) (by omega)
    have hp := pow_small (n := 8 - L[i]) hm (by omega)
    have hk := kr_take hm (e := 8) (by omega) L hL i
    have hpe := power_ev m (8 - L[i]) (by omega) (by omega) (by omega)
    rw [List.take_succ_eq_append_getElem h1, kr_snoc] at ih
    have e1 : Aside0 (wrap64 (8 - ((L[i] : Nat) : Int)) = ((8 - L[i] : Nat) : Int)) := ⟨by rw [w64 (by omega) (by omega)]; omega⟩
    have e2 : Aside0 (wrap64 (((kr m 8 (L.take i) : Nat) : Int) + ((m ^ (8 - L[i]) : Nat) : Int)) = ((kr m 8 (L.take i) + m ^ (8 - L[i]) : Nat) : Int)) := ⟨by rw [w64 (by omega) (by omega)]; omega⟩
    refine Ev.succ ?_
    simp only [impl_parts.l0, ints_at L i h1, e1.out, w1 (show 0 ≤ (i : Int) by omega) (show (i : Int) < 9223372036854775807 by omega)]
    refine Ev.pos (by omega) (Ev.pos (by omega) (Ev.pos (by rw [ints_len]; omega) (Ev.bind hpe ?_)))
    simp only [e2.out]
    exact ih
theorem impl_parts_ev (m : Nat) (hm : 2 ≤ m ∧ m ≤ 3) (L : List Nat) (hL : L.length ≤ 12) (hb : ∀ x ∈ L, 1 ≤ x ∧ x ≤ 8) : Ev (fun k => impl_parts.f k (intsOf L) (m : Int)) ((kr m 8 L : Nat) : Int) := by
  have h := impl_parts_l0 m hm L hL hb L.length 0 (by omega)
  unfold impl_parts.f
  rw [ints_len]
  exact h
def digs (m : Nat) : Nat → Nat → List UInt8
  | 0, _ => []
  | l + 1, n => digs m l (n / m) ++ [UInt8.ofNat (97 + n % m)]
theorem digs_length (m : Nat) : ∀ l n, (digs m l n).length = l
  | 0, _ => rfl
  | l + 1, n => by rw [digs, List.length_append, digs_length m l]; rfl
def numsOf (l : List UInt8) : List Int := l.map fun c => (c.toNat : Int)
theorem strOfNums_nums (l : List UInt8) : strOfNums (numsOf l) = ⟨l.toArray⟩ := by
  apply ByteArray.ext
  simp [strOfNums, numsOf, Function.comp_def]
theorem abc_at (r : Nat) (h : r < 3) : bt (⟨#[97, 98, 99]⟩ : ByteArray) (r : Int) = ((UInt8.ofNat (97 + r)).toNat : Int) := by
  match r, h with
  | 0, _ => decide
  | 1, _ => decide
  | 2, _ => decide
theorem wordAt_l0 (m : Nat) (hm : 2 ≤ m) (hm3 : m ≤ 3) : ∀ (d n : Nat) (acc : List UInt8), d ≤ 1048576 → n < 4611686018427387904 → Ev (fun k => impl_wordAt.l0 k (n : Int) (m : Int) (List.replicate d 0 ++ numsOf acc) ((d : Int) - 1)) (⟨(digs m d n ++ acc).toArray⟩ : ByteArray)
  | 0, n, acc, hd, hn => by
    refine Ev.succ ?_
    simp only [impl_wordAt.l0]
    exact Ev.neg (by omega) (Ev.pure (by simp [strOfNums_nums, digs]))
  | d + 1, n, acc, hd, hn => by
    have h2 : n / m ≤ n := Nat.div_le_self _ _
    have hr : n % m < m := Nat.mod_lt _ (by omega)
    have ih := wordAt_l0 m hm hm3 d (n / m) (UInt8.ofNat (97 + n % m) :: acc) (by omega) (by omega)
    have e1 : Int.tmod (n : Int) (m : Int) = ((n % m : Nat) : Int) := (Int.ofNat_tmod n m).symm
    have e2 : Aside0 (wrap64 (Int.tdiv (n : Int) (m : Int)) = ((n / m : Nat) : Int)) := ⟨by
      rw [← Int.ofNat_tdiv]; generalize n / m = q at h2 ⊢; exact w64 (by omega) (by omega)⟩
    have e3 : Aside0 (wrap64 (((d + 1 : Nat) : Int) - 1 - 1) = (d : Int) - 1) := ⟨by rw [w64 (by omega) (by omega)]; omega⟩
    have e4 : (((d + 1 : Nat) : Int) - 1).toNat = d := by omega
    have e5 : (List.replicate (d + 1) (0 : Int) ++ numsOf acc).set d (((UInt8.ofNat (97 + n % m)).toNat : Int)) = List.replicate d 0 ++ numsOf (UInt8.ofNat (97 + n % m) :: acc) := by
      rw [List.set_append_left _ _ (by simp), List.replicate_succ', List.set_append_right _ _ (by simp)]
      simp [numsOf]
    refine Ev.succ ?_
    simp only [impl_wordAt.l0, e1, e2.out, e3.out, e4, abc_at _ (show n % m < 3 by omega), e5]
    refine Ev.pos (by omega) (Ev.neg (by omega) (Ev.pos (by omega) (Ev.pos (by omega) (Ev.pos (by omega) (Ev.pos (by simp; omega) ?_)))))
    rw [digs, List.append_assoc]; exact ih
theorem wordAt_ev (m : Nat) (hm : 2 ≤ m) (hm3 : m ≤ 3) (d n : Nat) (hd : d ≤ 1048576) (hn : n < 4611686018427387904) : Ev (fun k => impl_wordAt.f k (n : Int) (d : Int) (m : Int)) (⟨(digs m d n).toArray⟩ : ByteArray) := by
  have h := wordAt_l0 m hm hm3 d n [] hd hn
  have e : Aside0 (wrap64 ((d : Int) - 1) = (d : Int) - 1) := ⟨w64 (by omega) (by omega)⟩
  unfold impl_wordAt.f
  rw [e.out]
  refine Ev.pos (by omega) (Ev.pos (by omega) ?_)
  simpa [numsOf] using h
def wds (m : Nat) : List Nat → Nat → List ByteArray
  | [], _ => []
  | x :: L, A => ⟨(digs m x (A / m ^ (8 - x))).toArray⟩ :: wds m L (A + m ^ (8 - x))
theorem wds_len (m : Nat) : ∀ (L : List Nat) (A : Nat), (wds m L A).length = L.length
  | [], _ => rfl
  | x :: L, A => by rw [wds, List.length_cons, wds_len m L, List.length_cons]
theorem impl_fpc_l0 (m : Nat) (hm : 2 ≤ m ∧ m ≤ 3) (L : List Nat) (hL : L.length ≤ 12) (hb : ∀ x ∈ L, 1 ≤ x ∧ x ≤ 8) : ∀ (d i : Nat) (acc : List ByteArray), i + d = L.length → acc.length ≤ i → Ev (fun k => impl_FirstPrefixCode.l0 k (m : Int) acc ((kr m 8 (L.take i) : Nat) : Int) (intsOf L) (L.length : Int) (i : Int)) (acc ++ wds m (L.drop i) (kr m 8 (L.take i)), true)
  | 0, i, acc, hd, ha => by
    refine Ev.succ ?_
    simp only [impl_FirstPrefixCode.l0]
    exact Ev.neg (by omega) (Ev.pure (by rw [List.drop_of_length_le (by omega), wds, List.append_nil]))
  | d + 1, i, acc, hd, ha => by
    have h1 : i < L.length := by omega
    have hx := hb _ (List.getElem_mem h1)
    have hp := pow_small (n := 8 - L[i]) hm (by omega)
    have hk := kr_take hm (e := 8) (by omega) L hL i
    have hpe := power_ev m (8 - L[i]) (by omega) (by omega) (by omega)
    have hdv : kr m 8 (L.take i) / m ^ (8 - L[i]) ≤ kr m 8 (L.take i) := Nat.div_le_self _ _
    have hwa := wordAt_ev m hm.1 hm.2 L[i] (kr m 8 (L.take i) / m ^ (8 - L[i])) (by omega) (by omega)
    have ih := impl_fpc_l0 m hm L hL hb d (i + 1) (acc ++ [⟨(digs m L[i] (kr m 8 (L.take i) / m ^ (8 - L[i]))).toArray⟩]) (by omega) (by rw [List.length_append]; simp; omega)
    rw [List.take_succ_eq_append_getElem h1, kr_snoc, List.append_assoc] at ih
    rw [List.drop_eq_getElem_cons h1, wds]
    have e1 : Aside0 (wrap64 (8 - ((L[i] : Nat) : Int)) = ((8 - L[i] : Nat) : Int)) := ⟨by rw [w64 (by omega) (by omega)]; omega⟩
    have e2 : Aside0 (wrap64 (((kr m 8 (L.take i) : Nat) : Int) + ((m ^ (8 - L[i]) : Nat) : Int)) = ((kr m 8 (L.take i) + m ^ (8 - L[i]) : Nat) : Int)) := ⟨by rw [w64 (by omega) (by omega)]; omega⟩
    have e3 : Aside0 (wrap64 (Int.tdiv ((kr m 8 (L.take i) : Nat) : Int) ((m ^ (8 - L[i]) : Nat) : Int)) = ((kr m 8 (L.take i) / m ^ (8 - L[i]) : Nat) : Int)) := ⟨by rw [← Int.ofNat_tdiv]; generalize kr m 8 (L.take i) / m ^ (8 - L[i]) = q at hdv; exact w64 (by omega) (by omega)⟩
    refine Ev.succ ?_
    simp only [impl_FirstPrefixCode.l0, ints_at L i h1, e1.out, w1 (show 0 ≤ (i : Int) by omega) (show (i : Int) < 9223372036854775807 by omega)]
    refine Ev.pos (by omega) (Ev.pos (by omega) (Ev.pos (by rw [ints_len]; omega) (Ev.bind hpe ?_)))
    simp only [e3.out]
    refine Ev.neg (by omega) (Ev.bind hwa (Ev.pos (by omega) (Ev.bind hpe ?_)))
    simp only [e2.out]
    exact ih
theorem isSorted_l0 (L : List Nat) (hL : L.length ≤ 12) (hu : L.Pairwise fun x y => x ≤ y) : ∀ (i : Nat), i < L.length → Ev (fun k => slices_IsSorted_int_int.l0 k (intsOf L) (i : Int)) true
  | 0, _ => by
    refine Ev.succ ?_
    simp only [slices_IsSorted_int_int.l0]
    exact Ev.neg (by omega) (Ev.now _)
  | i + 1, h1 => by
    have ih := isSorted_l0 L hL hu i (by omega)
    have hle : L[i] ≤ L[i + 1] := List.pairwise_iff_getElem.1 hu i (i + 1) (by omega) h1 (by omega)
    have e1 : Aside0 (wrap64 (((i + 1 : Nat) : Int) - 1) = (i : Int)) := ⟨by rw [w64 (by omega) (by omega)]; omega⟩
    have hless : cmp_Less_int.f ((L[i + 1] : Nat) : Int) ((L[i] : Nat) : Int) = some false := by
      unfold cmp_Less_int.f cmp_isNaN_int.f
      simp
      omega
    refine Ev.succ ?_
    simp only [slices_IsSorted_int_int.l0, ints_at L (i + 1) h1, e1.out, ints_at L i (show i < L.length by omega)]
    exact Ev.pos (by omega) (Ev.pos (by omega) (Ev.pos (by rw [ints_len]; omega) (Ev.pos (by omega) (Ev.pos (by rw [ints_len]; omega) (Ev.known (fun _ => hless) (Ev.neg (by simp) ih))))))
theorem impl_fpc (m : Nat) (hm : 2 ≤ m ∧ m ≤ 3) (L : List Nat) (h1 : 1 ≤ L.length) (hL : L.length ≤ 12) (hb : ∀ x ∈ L, 1 ≤ x ∧ x ≤ 8) (hu : L.Pairwise fun x y => x ≤ y) : Ev (fun k => impl_FirstPrefixCode.f k (intsOf L) (m : Int)) (if kr m 8 L ≤ m ^ 8 then (wds m L 0, true) else ([], false)) := by
  have hq := pow_small (n := 8) hm (by omega)
  unfold impl_FirstPrefixCode.f impl_areLengths.f impl_canBePrefix.f
  have hany : ((intsOf L).any fun x => !decide (1 ≤ x ∧ x ≤ 8)) = false := by
    rw [List.any_eq_false]
    intro x hx
    obtain ⟨y, hy, rfl⟩ := List.mem_map.1 hx
    have := hb y hy
    rw [decide_eq_true (by omega)]
    simp
  have hc := impl_areLengths__1_contains (intsOf L) (by rw [ints_len]; omega)
  rw [hany] at hc
  have hl := isSorted_l0 L hL hu (L.length - 1) (by omega)
  have e1 : Aside0 (wrap64 ((L.length : Int) - 1) = ((L.length - 1 : Nat) : Int)) := ⟨by rw [w64 (by omega) (by omega)]; omega⟩
  have hs : Ev (fun k => slices_IsSorted_int_int.f k (intsOf L)) true := by
    unfold slices_IsSorted_int_int.f
    rw [ints_len, e1.out]
    exact hl
  have hw := impl_fpc_l0 m hm L hL hb L.length 0 [] (by omega) (by simp)
  refine Ev.known (fun _ => by rw [areLetters_eq]) (Ev.pos (decide_eq_true (by omega)) (Ev.bind (a := true) (Ev.pos (by rw [ints_len]; omega) (Ev.bind hs (Ev.pos rfl (Ev.bind hc (Ev.now _))))) (Ev.pos rfl (Ev.bind (Ev.bind (impl_parts_ev m hm L hL hb) (Ev.bind (power_ev m 8 (by omega) (by omega) (by omega)) (Ev.now _))) (Ev.succ ?_)))))
  simp only [impl_FirstPrefixCode.j0]
  by_cases hk : kr m 8 L ≤ m ^ 8
  · rw [if_pos hk]
    refine Ev.neg (by rw [decide_eq_true (show ((kr m 8 L : Nat) : Int) ≤ ((m ^ 8 : Nat) : Int) by omega)]; simp) ?_
    rw [ints_len]
    simpa [kr] using hw
  · rw [if_neg hk]
    exact Ev.pos (by rw [decide_eq_false (show ¬ ((kr m 8 L : Nat) : Int) ≤ ((m ^ 8 : Nat) : Int) by omega)]; rfl) (Ev.now _)
theorem yBegins_eq (a w : ByteArray) : laws_yBegins.f a w = some ((ch w).isPrefixOf (ch a)) := by
  unfold laws_yBegins.f
  by_cases h : w.size ≤ a.size
  · rw [if_pos (by omega), if_pos (by omega), begins_test a w h]
  · rw [if_neg (by omega), prefix_long a w h]
def Free (ws : List ByteArray) : Prop := ∀ i j (hi : i < ws.length) (hj : j < ws.length), i ≠ j → (ch ws[j]).isPrefixOf (ch ws[i]) = false
theorem yPrefix_l1 (ws : List ByteArray) (hl : ws.length ≤ 1048576) (hf : Free ws) (x7 : List ByteArray) (x8 : Int) (i : Nat) (hi : i < ws.length) (next : Ev (fun k => laws_yPrefix.l0 k ws x7 x8 ((i : Int) + 1)) true) : ∀ (d j : Nat), j + d = ws.length → Ev (fun k => laws_yPrefix.l1 k ws (i : Int) ws[i] x7 x8 (i : Int) ws (ws.length : Int) (j : Int)) true
  | 0, j, hd => by
    have wi := w1 (show 0 ≤ (i : Int) by omega) (show (i : Int) < 9223372036854775807 by omega)
    refine Ev.succ ?_
    simp only [laws_yPrefix.l1, wi]
    exact Ev.neg (by omega) next
  | d + 1, j, hd => by
    have hj : j < ws.length := by omega
    have ih := yPrefix_l1 ws hl hf x7 x8 i hi next d (j + 1) (by omega)
    have wj := w1 (show 0 ≤ (j : Int) by omega) (show (j : Int) < 9223372036854775807 by omega)
    refine Ev.succ ?_
    simp only [laws_yPrefix.l1, rdOf_nat ws j hj, wj, yBegins_eq]
    refine Ev.pos (by omega) (Ev.pos (by omega) (Ev.pos (by omega) ?_))
    by_cases c : i = j
    · exact Ev.pos (by omega) ih
    · refine Ev.neg (by omega) (Ev.known (fun _ => rfl) ?_)
      rw [hf i j hi hj c]
      exact Ev.neg (by simp) ih
theorem yPrefix_l0 (ws : List ByteArray) (hl : ws.length ≤ 1048576) (hf : Free ws) : ∀ (d i : Nat), i + d = ws.length → Ev (fun k => laws_yPrefix.l0 k ws ws (ws.length : Int) (i : Int)) true
  | 0, i, hd => by
    refine Ev.succ ?_
    simp only [laws_yPrefix.l0]
    exact Ev.neg (by omega) (Ev.now _)
  | d + 1, i, hd => by
    have hi : i < ws.length := by omega
    have ih := yPrefix_l0 ws hl hf d (i + 1) (by omega)
    refine Ev.succ ?_
    simp only [laws_yPrefix.l0, rdOf_nat ws i hi]
    exact Ev.pos (by omega) (Ev.pos (by omega) (Ev.pos (by omega) (yPrefix_l1 ws hl hf ws _ i hi ih ws.length 0 (by omega))))
theorem yPrefix_ev (ws : List ByteArray) (hl : ws.length ≤ 1048576) (hf : Free ws) : Ev (fun k => laws_yPrefix.f k ws) true := yPrefix_l0 ws hl hf ws.length 0 (by omega)
theorem digs_take (m l : Nat) : ∀ d n, (digs m (l + d) n).take l = digs m l (n / m ^ d)
  | 0, n => by rw [Nat.add_zero, Nat.pow_zero, Nat.div_one, List.take_of_length_le (by rw [digs_length]; exact Nat.le_refl _)]
  | d + 1, n => by
    rw [← Nat.add_assoc, digs, List.take_append_of_le_length (by rw [digs_length]; omega), digs_take m l d, Nat.div_div_eq_div_mul, Nat.pow_succ, Nat.mul_comm m]
theorem digs_inj (m : Nat) (hm : 1 ≤ m ∧ m ≤ 3) : ∀ (l a b : Nat), a < m ^ l → b < m ^ l → digs m l a = digs m l b → a = b
  | 0, a, b, ha, hb, _ => by simp at ha hb; omega
  | l + 1, a, b, ha, hb, h => by
    rw [digs, digs] at h
    obtain ⟨h1, h2⟩ := List.append_inj h (by rw [digs_length, digs_length])
    have e1 := digs_inj m hm l (a / m) (b / m) (Nat.div_lt_of_lt_mul (by rw [Nat.mul_comm, ← Nat.pow_succ]; exact ha)) (Nat.div_lt_of_lt_mul (by rw [Nat.mul_comm, ← Nat.pow_succ]; exact hb)) h1
    have ra : a % m < m := Nat.mod_lt _ (by omega)
    have rb : b % m < m := Nat.mod_lt _ (by omega)
    have h3 := congrArg (fun (x : List UInt8) => x.map UInt8.toNat) h2
    simp only [List.map_cons, List.map_nil, List.cons.injEq, and_true, UInt8.toNat_ofNat'] at h3
    have e2 : a % m = b % m := by omega
    rw [← Nat.div_add_mod a m, ← Nat.div_add_mod b m, e1, e2]
theorem kr_cons (m e x : Nat) (L : List Nat) : kr m e (x :: L) = m ^ (e - x) + kr m e L := by simp [kr]
theorem kr_append (m e : Nat) (a b : List Nat) : kr m e (a ++ b) = kr m e a + kr m e b := by simp [kr]
theorem wds_get (m : Nat) : ∀ (L : List Nat) (A k : Nat) (h : k < L.length), (wds m L A)[k]'(by rw [wds_len]; exact h) = ⟨(digs m L[k] ((A + kr m 8 (L.take k)) / m ^ (8 - L[k]))).toArray⟩
  | x :: L, A, 0, h => by simp [wds, kr]
  | x :: L, A, k + 1, h => by
    simp only [wds, List.getElem_cons_succ, List.take_succ_cons]
    rw [wds_get m L _ k (by simpa using h), kr_cons, Nat.add_assoc]
theorem kr_gap (m : Nat) (S : List Nat) (k k' : Nat) (h : k < k') (hk' : k' ≤ S.length) : kr m 8 (S.take k) + m ^ (8 - S[k]'(by omega)) ≤ kr m 8 (S.take k') := by
  have hk : k < S.length := by omega
  have e : S.take k' = S.take (k + 1) ++ (S.take k').drop (k + 1) := by
    have := (List.take_append_drop (k + 1) (S.take k')).symm
    rw [List.take_take, Nat.min_eq_left (by omega)] at this
    exact this
  rw [e, kr_append, List.take_succ_eq_append_getElem hk, kr_snoc]
  omega
theorem wds_free (m : Nat) (hm : 2 ≤ m ∧ m ≤ 3) (S : List Nat) (hb : ∀ x ∈ S, 1 ≤ x ∧ x ≤ 8) (hu : S.Pairwise fun x y => x ≤ y) (hk : kr m 8 S ≤ m ^ 8) : Free (wds m S 0) := by
  intro i j hi hj hij
  rw [wds_len] at hi hj
  rw [wds_get m S 0 i hi, wds_get m S 0 j hj, Nat.zero_add, Nat.zero_add]
  have hbi := hb _ (List.getElem_mem hi)
  have hbj := hb _ (List.getElem_mem hj)
  have gi := kr_gap m S i S.length hi (Nat.le_refl _)
  have gj := kr_gap m S j S.length hj (Nat.le_refl _)
  rw [List.take_length] at gi gj
  have pj : 0 < m ^ (8 - S[j]) := Nat.pow_pos (by omega)
  have pi : 0 < m ^ (8 - S[i]) := Nat.pow_pos (by omega)
  rw [Bool.eq_false_iff]
  intro hp
  rw [List.isPrefixOf_iff_prefix] at hp
  unfold ch at hp
  simp only [List.toList_toArray] at hp
  have hle := hp.length_le
  rw [digs_length, digs_length] at hle
  have ht := List.prefix_iff_eq_take.1 hp
  rw [digs_length] at ht
  obtain ⟨d, hd⟩ : ∃ d, S[i] = S[j] + d := ⟨S[i] - S[j], by omega⟩
  have e8 : m ^ (8 - S[j]) = m ^ (8 - S[i]) * m ^ d := by rw [← Nat.pow_add]; congr 1; omega
  rw [hd, digs_take, ← hd, Nat.div_div_eq_div_mul, ← e8] at ht
  have hlt : ∀ a, a < m ^ 8 → a / m ^ (8 - S[j]) < m ^ S[j] := fun a ha => Nat.div_lt_of_lt_mul (by rw [← Nat.pow_add, show 8 - S[j] + S[j] = 8 by omega]; exact ha)
  have hq := digs_inj m (by omega) S[j] _ _ (hlt _ (by omega)) (hlt _ (by omega)) ht
  have step : ∀ a b : Nat, a + m ^ (8 - S[j]) ≤ b → a / m ^ (8 - S[j]) = b / m ^ (8 - S[j]) → False := fun a b h1 h2 => by
    have := Nat.div_le_div_right (c := m ^ (8 - S[j])) h1
    rw [Nat.add_div_right _ pj] at this
    omega
  rcases Nat.lt_or_ge i j with c | c
  · have hs : S[i] ≤ S[j] := List.pairwise_iff_getElem.1 hu i j hi hj c
    have es : S[i] = S[j] := by omega
    have g := kr_gap m S i j c (by omega)
    rw [es] at g
    exact step _ _ g hq.symm
  · exact step _ _ (kr_gap m S j i (by omega) (by omega)) hq
theorem fill_other (W : List ByteArray) : ∀ (P : List Nat) (j : Nat) (out : List ByteArray) (x : Nat), x ∉ P → (impl_WordsFor.fill W P j out).getD x ByteArray.empty = out.getD x ByteArray.empty
  | [], j, out, x, _ => rfl
  | p :: P, j, out, x, h => by
    rw [impl_WordsFor.fill, fill_other W P (j + 1) _ x (fun hx => h (by simp [hx]))]
    have hne : p ≠ x := fun e => h (by simp [e])
    simp [List.getD_eq_getElem?_getD, List.getElem?_set_ne hne]
theorem fill_at (W : List ByteArray) : ∀ (P : List Nat) (j : Nat) (out : List ByteArray) (k : Nat) (hk : k < P.length), P.Nodup → (∀ p ∈ P, p < out.length) → (impl_WordsFor.fill W P j out).getD P[k] ByteArray.empty = W.getD (j + k) ByteArray.empty
  | p :: P, j, out, 0, hk, hn, hb => by
    rw [impl_WordsFor.fill]
    have h1 := (List.nodup_cons.1 hn).1
    have hp := hb p (by simp)
    rw [List.getElem_cons_zero, fill_other W P (j + 1) _ p h1]
    simp [List.getD_eq_getElem?_getD, hp]
  | p :: P, j, out, k + 1, hk, hn, hb => by
    rw [impl_WordsFor.fill]
    have := fill_at W P (j + 1) (out.set p (W.getD j ByteArray.empty)) k (by simpa using hk) (List.nodup_cons.1 hn).2 (fun x hx => by rw [List.length_set]; exact hb x (by simp [hx]))
    rw [List.getElem_cons_succ, this, Nat.add_assoc, Nat.add_comm 1 k]
theorem mx_more (a b : Int) : decide (mx a b > 8) = (decide (a > 8) || decide (b > 8)) := by
  unfold mx
  by_cases h1 : a > 8 <;> by_cases h2 : b > 8 <;> simp [h1, h2] <;> omega
theorem max_l0 (l : List Int) (hl : l.length ≤ 1048576) : ∀ (d i : Nat) (x3 : Int), i + d = l.length → ∃ r, Ev (fun k => slices_Max_int_int.l0 k l x3 (i : Int)) r ∧ decide (r > 8) = (decide (x3 > 8) || (l.drop i).any fun x => decide (x > 8))
  | 0, i, x3, hd => ⟨x3, Ev.succ (by simp only [slices_Max_int_int.l0]; exact Ev.neg (by omega) (Ev.now _)), by rw [List.drop_of_length_le (by omega)]; simp⟩
  | d + 1, i, x3, hd => by
    have h1 : i < l.length := by omega
    obtain ⟨r, h, hr⟩ := max_l0 l hl d (i + 1) (mx x3 l[i]) (by omega)
    refine ⟨r, Ev.succ ?_, by rw [hr, mx_more, List.drop_eq_getElem_cons h1, List.any_cons, Bool.or_assoc]⟩
    simp only [slices_Max_int_int.l0, rd_nat l i h1, w1 (show 0 ≤ (i : Int) by omega) (show (i : Int) < 9223372036854775807 by omega)]
    exact Ev.pos (by omega) (Ev.pos (by omega) h)
theorem max_ev (l : List Int) (hl : l.length ≤ 1048576) (h0 : 0 < l.length) : ∃ r, Ev (fun k => slices_Max_int_int.f k l) r ∧ decide (r > 8) = l.any fun x => decide (x > 8) := by
  obtain ⟨r, h, hr⟩ := max_l0 l hl (l.length - 1) 1 l[0] (by omega)
  refine ⟨r, ?_, ?_⟩
  · unfold slices_Max_int_int.f
    have e : rd l 0 = l[0] := rd_nat l 0 h0
    rw [e]
    exact Ev.neg (by omega) (Ev.pos (by omega) h)
  · rw [hr]
    have : l.any (fun x => decide (x > 8)) = (l.drop 0).any (fun x => decide (x > 8)) := by simp
    rw [this, List.drop_eq_getElem_cons h0, List.any_cons]
theorem fill_length (W : List ByteArray) : ∀ (a : List Nat) (k : Nat) (out : List ByteArray), (impl_WordsFor.fill W a k out).length = out.length
  | [], k, out => rfl
  | x :: a, k, out => by rw [impl_WordsFor.fill, fill_length W a, List.length_set]
theorem bx_size (l : List UInt8) : (⟨l.toArray⟩ : ByteArray).size = l.length := by simp [ByteArray.size]
theorem words_told (m : Nat) (hm : 2 ≤ m ∧ m ≤ 3) (L : List Nat) (h1 : 1 ≤ L.length) (hL : L.length ≤ 12) (hb8 : ∀ x ∈ L, 1 ≤ x ∧ x ≤ 8) (hk : kr m 11 L ≤ m ^ 11) : ∃ ws : List ByteArray, Ev (fun k => impl_WordsFor.f k (intsOf L) (m : Int)) (ws, true) ∧ ∃ hw : ws.length = L.length, (∀ i (h : i < L.length), (ws[i]'(by omega)).size = L[i]) ∧ Free ws := by
  have hl : (intsOf L).length ≤ 1048576 := by rw [ints_len]; omega
  have a2 := implDeep (intsOf L) hl
  rw [deepB_ints h1 hL (fun x hx => by have := hb8 x hx; omega)] at a2
  have a4 := areLetters_eq (m : Int)
  rw [decide_eq_true (show 2 ≤ (m : Int) ∧ (m : Int) ≤ 3 by omega)] at a4
  obtain ⟨mxv, hmx, hmxv⟩ := max_ev (intsOf L) hl (by rw [ints_len]; omega)
  have hnm : ¬ mxv > 8 := by
    have : ((intsOf L).any fun x => decide (x > 8)) = false := by
      rw [List.any_eq_false]
      intro x hx
      obtain ⟨y, hy, rfl⟩ := List.mem_map.1 hx
      have := hb8 y hy
      simp
      omega
    rw [this] at hmxv
    simpa using hmxv
  obtain ⟨S, hS⟩ : ∃ S : List Nat, sortI (intsOf L) = intsOf S := ⟨_, ints_of _ (fun x hx => by
    obtain ⟨y, hy, rfl⟩ := List.mem_map.1 ((sortI_perm _).mem_iff.1 hx)
    have := hb8 y hy
    omega)⟩
  have hperm : S.Perm L := by
    have h1 := sortI_perm (intsOf L)
    rw [hS] at h1
    have h2 := h1.map Int.toNat
    unfold intsOf at h2
    rw [List.map_map, List.map_map] at h2
    simpa [Function.comp_def] using h2
  have hup : S.Pairwise fun x y => x ≤ y := by
    have h1 := sortI_up (intsOf L)
    rw [hS] at h1
    unfold intsOf at h1
    rw [List.pairwise_map] at h1
    exact h1.imp (fun h => by omega)
  have hSl := hperm.length_eq
  have hb8S : ∀ x ∈ S, 1 ≤ x ∧ x ≤ 8 := fun x hx => hb8 x (hperm.mem_iff.1 hx)
  have f2 := impl_fpc m hm S (by omega) (by omega) hb8S hup
  have hkS : kr m 8 S ≤ m ^ 8 := by
    rw [kr_up m L (fun x hx => (hb8 x hx).2), ← kr_perm m 8 hperm, show (11 : Nat) = 8 + 3 from rfl, Nat.pow_add] at hk
    exact Nat.le_of_mul_le_mul_right hk (Nat.pow_pos (by omega))
  rw [if_pos hkS] at f2
  have hW : (wds m S 0).length = L.length := by rw [wds_len]; exact hSl
  have hget : ∀ x, (intsOf L).getD x 0 = ((L.getD x 0 : Nat) : Int) := fun x => by
    unfold intsOf
    simp only [List.getD_eq_getElem?_getD, List.getElem?_map]
    cases L[x]? <;> rfl
  obtain ⟨p1, p2⟩ := places_sorted (L.length - 1) (intsOf L) (fun x => by
    rw [hget, List.getD_eq_getElem?_getD]
    by_cases hx : x < L.length
    · have := hb8 _ (List.getElem_mem hx)
      rw [List.getElem?_eq_getElem hx, Option.getD_some]
      omega
    · rw [List.getElem?_eq_none (by omega)]
      simp)
  rw [show L.length - 1 + 1 = L.length by omega] at p2
  have hnd : (impl_WordsFor.places (intsOf L) (L.length - 1)).Nodup := p2.nodup_iff.2 List.nodup_range
  have hPl : (impl_WordsFor.places (intsOf L) (L.length - 1)).length = L.length := by rw [p2.length_eq, List.length_range]
  have hPm : ∀ x, x ∈ impl_WordsFor.places (intsOf L) (L.length - 1) ↔ x < L.length := fun x => by rw [p2.mem_iff, List.mem_range]
  have hPS : (impl_WordsFor.places (intsOf L) (L.length - 1)).map (fun x => L.getD x 0) = S := by
    refine List.Perm.eq_of_pairwise (le := fun x y => x ≤ y) (fun x y _ _ h1 h2 => Nat.le_antisymm h1 h2) ?_ hup ?_
    · rw [List.pairwise_map]
      refine p1.imp ?_
      intro x y h
      unfold plLt at h
      rw [decide_eq_false_iff_not, hget, hget] at h
      omega
    · refine (p2.map _).trans (List.Perm.trans ?_ hperm.symm)
      have : (List.range L.length).map (fun x => L.getD x 0) = L := by
        apply List.ext_getElem
        · simp
        · intro j h1 h2
          simp [List.getD_eq_getElem?_getD, h2]
      rw [this]
  have ev : Ev (fun k => impl_WordsFor.f k (intsOf L) (m : Int)) (impl_WordsFor.fill (wds m S 0) (impl_WordsFor.places (intsOf L) (L.length - 1)) 0 (List.replicate L.length ByteArray.empty), true) := by
    unfold impl_WordsFor.f
    refine Ev.bind a2 (Ev.pos rfl (Ev.bind hmx (Ev.neg hnm (Ev.known (fun _ => a4) (Ev.pos rfl (Ev.pos (by rw [ints_len]; omega) ?_))))))
    rw [hS]
    refine Ev.bind f2 (Ev.pos rfl (Ev.pos (by simp only [hW, ints_len]; omega) (Ev.pure ?_)))
    rw [ints_len]
  have hfl := fill_length (wds m S 0) (impl_WordsFor.places (intsOf L) (L.length - 1)) 0 (List.replicate L.length ByteArray.empty)
  rw [List.length_replicate] at hfl
  have hat : ∀ k (hk : k < (impl_WordsFor.places (intsOf L) (L.length - 1)).length), (impl_WordsFor.fill (wds m S 0) (impl_WordsFor.places (intsOf L) (L.length - 1)) 0 (List.replicate L.length ByteArray.empty)).getD (impl_WordsFor.places (intsOf L) (L.length - 1))[k] ByteArray.empty = (wds m S 0).getD k ByteArray.empty := fun k hk => by
    have := fill_at (wds m S 0) (impl_WordsFor.places (intsOf L) (L.length - 1)) 0 (List.replicate L.length ByteArray.empty) k hk hnd (fun p hp => by rw [List.length_replicate]; exact (hPm p).1 hp)
    rw [Nat.zero_add] at this
    exact this
  generalize impl_WordsFor.fill (wds m S 0) (impl_WordsFor.places (intsOf L) (L.length - 1)) 0 (List.replicate L.length ByteArray.empty) = ws at ev hfl hat
  generalize impl_WordsFor.places (intsOf L) (L.length - 1) = P at hnd hPl hPm hPS hat
  have hfr := wds_free m hm S hb8S hup hkS
  have hsz : ∀ k (hk : k < S.length) (hk' : k < (wds m S 0).length), ((wds m S 0)[k]).size = S[k] := fun k hk _ => by rw [wds_get m S 0 k hk, bx_size, digs_length]
  generalize wds m S 0 = W at hW hat hfr hsz
  have hex : ∀ i (h : i < L.length), ∃ k, ∃ hk : k < P.length, P[k] = i ∧ ws[i]'(by omega) = W[k]'(by omega) := fun i h => by
    obtain ⟨k, hk, e⟩ := List.getElem_of_mem ((hPm i).2 h)
    refine ⟨k, hk, e, ?_⟩
    have := hat k hk
    rw [e] at this
    simpa [List.getD_eq_getElem?_getD, show i < ws.length by omega, show k < W.length by omega] using this
  refine ⟨ws, ev, hfl, fun i h => ?_, fun i j hi hj hij => ?_⟩
  · obtain ⟨k, hk, e, e2⟩ := hex i h
    rw [e2, hsz k (by omega) (by omega)]
    subst hPS
    simp [e, List.getD_eq_getElem?_getD, h]
  · obtain ⟨k, hk, e, e2⟩ := hex i (by omega)
    obtain ⟨k', hk', e', e2'⟩ := hex j (by omega)
    rw [e2, e2']
    exact hfr k k' (by omega) (by omega) (fun h => hij (by subst h; rw [← e, ← e']))
theorem ints_inj {L M : List Nat} (h : intsOf L = intsOf M) : L = M := by
  unfold intsOf at h
  exact (List.map_inj_right (fun x y h => by omega)).1 h
theorem s1_ev {l1 : List Int} (w : List Int) (mm : Nat) (ls : List Nat) (n : Int) (hA : askB w (mm : Int) = true) (h6 : w.length ≤ 6) (hn : 1 ≤ n) (ho : Opt mm w ls) (hc : Ev (fun k => impl_bestCost.f k w (mm : Int)) (dot w ls)) (h2 : Ev (fun k => bm_s2 k l1) true) : Ev (fun k => bm_s1 k l1 w (mm : Int) (intsOf ls) n (dot w ls)) true := by
  obtain ⟨g1, g2, g3, m', e0, g4, g5⟩ := askB_of hA
  obtain rfl : mm = m' := by omega
  clear e0
  have hln := ho.len
  have hb8 : ∀ x ∈ ls, 1 ≤ x ∧ x ≤ 8 := fun x hx => by
    refine ⟨(ho.each x hx).1, ?_⟩
    by_cases c : 2 ≤ w.length
    · have := ho.deep (by omega) (fun y hy => (g3 y hy).1) c x hx
      omega
    · have hp := ho.least [1] (by simp; omega) (by simp) (by
        rw [ks_cons]
        have e : ks mm 11 [] = 0 := rfl
        rw [e, Nat.add_zero, show (11 : Nat) - 1 = 10 from rfl]
        exact Nat.pow_le_pow_right (by omega) (by omega))
      have e1 : w.length = 1 := by omega
      have e2 : ls.length = 1 := by omega
      clear h2 hc ho
      obtain ⟨v, rfl⟩ := List.length_eq_one_iff.1 e1
      obtain ⟨y, rfl⟩ := List.length_eq_one_iff.1 e2
      rw [List.mem_singleton] at hx
      subst hx
      simp only [dot] at hp
      have hv := g3 v (by simp)
      refine Nat.le_of_not_lt fun h => ?_
      have : 9 * v ≤ (x : Int) * v := Int.mul_le_mul_of_nonneg_right (by omega) (by omega)
      omega
  have hdp := deepB_ints (L := ls) (by omega) (by omega) ho.each
  have hWg : weighB w = true := by rw [ask_split, Bool.and_eq_true] at hA; exact hA.1
  have hle : (intsOf ls).length = w.length := by rw [ints_len]; exact hln
  have hfit : kr mm 11 ls ≤ mm ^ 11 := by rw [kr_ks]; exact ho.fit
  obtain ⟨o, o1, -, o3⟩ := costOf_told w (intsOf ls) (by omega) (by omega)
  obtain ⟨L', e, -, rfl⟩ := o3 hWg hdp hle
  obtain rfl := ints_inj e
  clear e
  obtain ⟨a, a1, -, -, a4⟩ := areBest_told w (intsOf ls) (mm : Int) (by omega) (by omega)
  obtain ⟨m', L', B, e1, e2, -, hB, rfl⟩ := a4 hA hdp hle
  obtain rfl : mm = m' := by omega
  obtain rfl := ints_inj e2
  obtain rfl := ev_one hc hB
  clear e1 e2
  rw [if_pos hfit] at a1
  obtain ⟨ws, w1', hwl, w3, w4⟩ := words_told mm ⟨g4, g5⟩ ls (by omega) (by omega) hb8 hfit
  unfold bm_s1
  refine Ev.bind o1 (Ev.bind a1 (Ev.bind w1' (Ev.bind (yPrefix_ev ws (by omega) w4) (Ev.pos ⟨rfl, rfl, by simp, rfl, hn, rfl, rfl, ?_, ?_⟩ h2))))
  · unfold bmLens
    rw [Bool.and_eq_true, List.all_eq_true]
    refine ⟨decide_eq_true (by rw [ints_len]; exact Nat.le_of_eq hwl), fun i hi => ?_⟩
    have hi' : i < ws.length := List.mem_range.1 hi
    have hi2 : i < ls.length := by omega
    simp only [rdOf_nat ws i hi', ints_at ls i hi2, w3 i hi2]
    simp
  · unfold bmHeavy
    rw [Bool.and_eq_true, List.all_eq_true]
    refine ⟨decide_eq_true (by rw [ints_len]; omega), fun i hi => ?_⟩
    rw [List.all_eq_true]
    intro j hj
    have hi' := List.mem_range.1 hi
    have hj' := List.mem_range.1 hj
    rw [rd_nat w i hi', rd_nat w j hj', ints_at ls i (by omega), ints_at ls j (by omega)]
    by_cases c : w[j] < w[i]
    · have := ho.heavy i j hi' hj' c
      rw [decide_eq_false (show ¬ ((ls[j]'(by omega) : Nat) : Int) < ((ls[i]'(by omega) : Nat) : Int) by omega)]
      simp
    · rw [decide_eq_false c]
      simp
theorem FnBestIsMerged : laws_FnBestIsMerged.Pure := by
  intro l0 l1 _ _ w0 _ _ w1'
  have h0 := okL_of w0
  have h1 := okL_of w1'
  clear w0 w1'
  refine Ev.rounds ?_
  have hs2 := s2_ev h1 (s3_ev h1)
  obtain ⟨w, at1, sd1, e1, hw, p1, p2⟩ := weights_ev h0 0 0 5 (by omega) (by omega) (by omega) (by omega)
  obtain ⟨m, at2, sd2, e2, -, -⟩ := letters_ev h0 at1 sd1 (by omega) (by omega)
  have d : Ev (fun k => spec_DrawFirstBest.f k l0) (w, m) := by
    unfold spec_DrawFirstBest.f
    exact Ev.bind e1 (Ev.known (fun _ => e2) (Ev.now _))
  obtain ⟨p, n, c, three, b1, b2, b3, b4, b5, b6, b7, b8⟩ := first_told w m hw
  have main : Ev (fun k => (spec_DrawFirstBest.f k l0).bind fun d => (impl_FirstBest.f k d.1 d.2).bind fun p => (spec_FirstBest.f k d.1 d.2).bind fun p2 => (impl_CountBest.f k d.1 d.2).bind fun n => (spec_CountBest.f k d.1 d.2).bind fun n2 => (impl_BestCost.f k d.1 d.2).bind fun c => (spec_BestCost.f k d.1 d.2).bind fun c2 => (laws_ySame.f k p.1 p2.1).bind fun t => if p2.2 = p.2 ∧ n.2 = p.2 ∧ n2.1 = n.1 ∧ n2.2 = n.2 ∧ c2.1 = c.1 ∧ c2.2 = c.2 ∧ t = true ∧ (p.2 = true → c.2 = true) then (if p.2 = true then bm_s1 k l1 d.1 d.2 p.1 n.1 c.1 else bm_s2 k l1) else none) true := by
    refine Ev.bind d (Ev.bind b1 (Ev.bind b2 (Ev.bind b3 (Ev.bind b4 (Ev.bind b5 (Ev.bind b6 (Ev.bind (ySame_ev p.1 (by omega)) (Ev.pos ⟨rfl, rfl, rfl, rfl, rfl, rfl, rfl, fun h => (b8 h).1⟩ (Ev.cases (fun h => ?_) (fun _ => hs2))))))))))
    obtain ⟨-, c2, c3, c4, mm, ls, rfl, ho, e, rfl, hB⟩ := b8 h
    rw [e]
    exact s1_ev w mm ls n c4 c2 c3 ho hB hs2
  unfold laws_FnBestIsMerged.f laws_big.f
  by_cases c1 : (l0.length : Int) > 1048576
  · rw [if_pos c1]
    exact Ev.known (fun _ => rfl) (Ev.pos rfl (Ev.now _))
  · rw [if_neg c1]
    exact Ev.known (fun _ => rfl) (Ev.cases (fun _ => Ev.now _) (fun _ => main))
end Go.Proofs.YtcdmmpbcjcajlaaGreat.Pure
