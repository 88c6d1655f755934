/- Ordered lengths, their words, their costs and the split ones are what the law says, at all inputs: no condition. -/
import Derived.Test.YtcdmmpbcjcajlaaXFnOrderedCodesx17
namespace Go.Proofs.Ytcdmmpbcjcajlaa.Pure
set_option linter.unusedSimpArgs false
set_option linter.unusedVariables false
open Go.RowKit Go.Proofs.Ytcdmmpbcjcajlaa.Hand Go.Proofs.Ytcdmmpbcjcajlaa.XFnOrderedCodes Go.Proofs.YtcdmmpbcjcajlaaW.PrintWords Go.Proofs.YtcdmmpbcjcajlaaW.PrintLast Go.Proofs.YtcdmmpbcjcajlaaW.PrintMore
theorem oo {P : Prop} (h : P := by omega) : P := h
theorem w1 {i : Int} (h0 : 0 ≤ i) (h : i < 9223372036854775807) : wrap64 (i + 1) = i + 1 := by unfold wrap64; omega
theorem w64 {i : Int} (h0 : -9223372036854775808 ≤ i) (h : i < 9223372036854775808) : wrap64 i = i := by unfold wrap64; omega
theorem rd_nat (l : List Int) (i : Nat) (h : i < l.length) : rd l (i : Int) = l[i] := by
 unfold rd; simp [List.getD_eq_getElem?_getD, h]
theorem Ev.pos {α : Type} {c : Prop} [Decidable c] {g g' : Nat → Option α} {r : α} (h : c) (k : Ev g r) : Ev (fun n => if c then g n else g' n) r :=
 Ev.congr (fun n => if_pos h) k
theorem Ev.neg {α : Type} {c : Prop} [Decidable c] {g g' : Nat → Option α} {r : α} (h : ¬ c) (k : Ev g' r) : Ev (fun n => if c then g n else g' n) r :=
 Ev.congr (fun n => if_neg h) k
theorem Ev.cases {α : Type} {c : Prop} [Decidable c] {g g' : Nat → Option α} {r : α} (h : c → Ev g r) (k : ¬ c → Ev g' r) : Ev (fun n => if c then g n else g' n) r := by
 by_cases e : c
 ·exact Ev.pos e (h e)
 ·exact Ev.neg e (k e)
theorem Ev.known {α β : Type} {g : Nat → Option α} {f : Nat → α → Option β} {a : α} {r : β} (h : ∀ n, g n = some a) (k : Ev (fun n => f n a) r) : Ev (fun n => (g n).bind (f n)) r :=
 Ev.bind ⟨0, fun n _ => h n⟩ k
theorem Ev.pure {α : Type} {r q : α} (h : r = q) : Ev (fun _ => some r) q := h ▸ Ev.now r
theorem Ev.succ {α : Type} {g : Nat → Option α} {r : α} (h : Ev (fun k => g (k + 1)) r) : Ev g r := Ev.step (f := fun k => g (k + 1)) (fun _ => rfl) h
theorem spec_in (a b c : Int) : spec_l1In.f a b c = some (decide (b ≤ a ∧ a ≤ c)) := by
 unfold spec_l1In.f
 by_cases h : a ≥ b
 ·rw [if_pos h]; simp [h]
 ·rw [if_neg h]; simp; omega
theorem spec_all_l0 (a b : Int) (l : List Int) (hl : l.length ≤ 1048576) : ∀ (d i : Nat), i + d = l.length → Ev (fun k => spec_l1All.l0 k a b l (l.length : Int) (i : Int)) ((l.drop i).all fun x => decide (a ≤ x ∧ x ≤ b))
 | 0, i, hd => Ev.step (f := fun _ => some true) (fun k => by simp only [spec_l1All.l0]; rw [if_neg oo]) (Ev.pure (by rw [List.drop_of_length_le oo]; rfl))
 | d + 1, i, hd => by
  have h1 : i < l.length := by omega
  have ih := spec_all_l0 a b l hl d (i + 1) oo
  rw [List.drop_eq_getElem_cons h1, List.all_cons]
  refine Ev.step (f := fun k => if (decide (a ≤ l[i] ∧ l[i] ≤ b)) = true then spec_l1All.l0 k a b l (l.length : Int) ((i + 1 : Nat) : Int) else some false) (fun k => ?_) ?_
  ·simp only [spec_l1All.l0, spec_in]; rw [if_pos oo, if_pos oo, if_pos oo, w1 oo oo, rd_nat l i h1]; simp
  ·refine Ev.cases (fun h => ?_) (fun h => ?_)
   ·rw [h, Bool.true_and]; exact ih
   ·rw [Bool.eq_false_iff.mpr h, Bool.false_and]; exact Ev.now _
theorem spec_all (l : List Int) (a b : Int) (hl : l.length ≤ 1048576) : Ev (fun k => spec_l1All.f k l a b) (l.all fun x => decide (a ≤ x ∧ x ≤ b)) := by
 have h := spec_all_l0 a b l hl l.length 0 oo
 simpa [spec_l1All.f] using h
theorem impl_in_eq (a b c : Int) : impl_in.f a b c = some (decide (b ≤ a ∧ a ≤ c)) := by
 unfold impl_in.f
 by_cases h : b ≤ a
 ·rw [if_pos h]; simp [h]
 ·rw [if_neg h]; simp [h]
theorem impl_areWeights__1_l0 (l : List Int) (hl : l.length ≤ 1048576) : ∀ (d i : Nat), i + d = l.length → ∃ r, Ev (fun k => slices_IndexFunc_int_int__at_impl_areWeights__1.l0 k l (l.length : Int) (i : Int)) r ∧ decide (r ≥ 0) = (l.drop i).any fun x => !decide (1 ≤ x ∧ x ≤ 100)
 | 0, i, hd => ⟨-1, Ev.step (f := fun _ => some (-1)) (fun k => by simp only [slices_IndexFunc_int_int__at_impl_areWeights__1.l0]; rw [if_neg oo]) (Ev.now _), by rw [List.drop_of_length_le oo]; rfl⟩
 | d + 1, i, hd => by
  have h1 : i < l.length := by omega
  obtain ⟨r, ih, hr⟩ := impl_areWeights__1_l0 l hl d (i + 1) oo
  have hs : ∀ k, slices_IndexFunc_int_int__at_impl_areWeights__1.l0 (k + 1) l (l.length : Int) (i : Int) = if (!decide (1 ≤ l[i] ∧ l[i] ≤ 100)) = true then some (i : Int) else slices_IndexFunc_int_int__at_impl_areWeights__1.l0 k l (l.length : Int) ((i + 1 : Nat) : Int) := by
   intro k
   simp only [slices_IndexFunc_int_int__at_impl_areWeights__1.l0, impl_areWeights__1.f, impl_in_eq]; rw [if_pos oo, if_pos oo, if_pos oo, w1 oo oo, rd_nat l i h1]; simp
  rw [List.drop_eq_getElem_cons h1, List.any_cons]
  by_cases h : (!decide (1 ≤ l[i] ∧ l[i] ≤ 100)) = true
  ·exact ⟨i, Ev.step hs (Ev.pos h (Ev.now _)), by rw [h]; simp⟩
  ·exact ⟨r, Ev.step hs (Ev.neg h ih), by rw [hr, Bool.eq_false_iff.mpr h, Bool.false_or]⟩
theorem impl_areWeights__1_contains (l : List Int) (hl : l.length ≤ 1048576) : Ev (fun k => slices_ContainsFunc_int_int__at_impl_areWeights__1.f k l) (l.any fun x => !decide (1 ≤ x ∧ x ≤ 100)) := by
 obtain ⟨r, h, hr⟩ := impl_areWeights__1_l0 l hl l.length 0 oo
 unfold slices_ContainsFunc_int_int__at_impl_areWeights__1.f slices_IndexFunc_int_int__at_impl_areWeights__1.f
 refine Ev.bind (by simpa using h) (Ev.pure ?_)
 simpa using hr
theorem impl_areWeights_ev (l : List Int) (hl : l.length ≤ 1048576) : Ev (fun k => impl_areWeights.f k l) (decide (1 ≤ (l.length : Int) ∧ (l.length : Int) ≤ 12) && l.all fun x => decide (1 ≤ x ∧ x ≤ 100)) := by
 unfold impl_areWeights.f
 refine Ev.known (fun n => impl_in_eq _ _ _) (Ev.cases (fun h => ?_) (fun h => ?_))
 ·refine Ev.bind (impl_areWeights__1_contains l hl) (Ev.pure ?_)
  rw [h, Bool.true_and, List.any_eq_not_all_not, Bool.not_not]; simp
 ·refine Ev.pure ?_
  rw [Bool.eq_false_iff.mpr h, Bool.false_and]
theorem beWeights_ev (l : List Int) (hl : l.length ≤ 1048576) : Ev (fun k => spec_beWeights.f k l) (decide (1 ≤ (l.length : Int) ∧ (l.length : Int) ≤ 12) && l.all fun x => decide (1 ≤ x ∧ x ≤ 100)) := by
 unfold spec_beWeights.f
 refine Ev.known (fun n => spec_in _ _ _) (Ev.cases (fun h => ?_) (fun h => ?_))
 ·exact Ev.bind (spec_all l _ _ hl) (Ev.pure (by rw [h, Bool.true_and]))
 ·exact Ev.pure (by rw [Bool.eq_false_iff.mpr h, Bool.false_and])
theorem Ev.loop {R : Type} (g : Nat → Nat → Option R) (n : Nat) (r : R) (hstep : ∀ i, i < n → Ev (g (i + 1)) r → Ev (g i) r) (hend : Ev (g n) r) : Ev (g 0) r := by
 have h : ∀ d i, i + d = n → Ev (g i) r := by
  intro d
  induction d with
  | zero => intro i hi; rw [show i = n by omega]; exact hend
  | succ d ih => intro i hi; exact hstep i oo (ih (i + 1) oo)
 exact h n 0 oo
theorem sortI_up (l : List Int) : (sortI l).Pairwise fun x y => x ≤ y := by
 have h := List.pairwise_mergeSort (le := fun x y : Int => decide (x ≤ y)) (fun a b c h1 h2 => by simp at h1 h2 ⊢; omega) (fun a b => by simp; omega) l
 exact h.imp fun {a b} h => by simpa using h
theorem sortI_perm (l : List Int) : (sortI l).Perm l := List.mergeSort_perm l _
theorem up_unique {a b : List Int} (ha : a.Pairwise fun x y => x ≤ y) (hb : b.Pairwise fun x y => x ≤ y) (h : a.Perm b) : a = b :=
 List.Perm.eq_of_pairwise (le := fun x y : Int => x ≤ y) (fun x y _ _ h1 h2 => by omega) ha hb h
theorem sortI_of {a b : List Int} (ha : a.Pairwise fun x y => x ≤ y) (h : a.Perm b) : a = sortI b := up_unique ha (sortI_up b) (h.trans (sortI_perm b).symm)
theorem sortI_len (l : List Int) : (sortI l).length = l.length := (sortI_perm l).length_eq
theorem sortI_nil : sortI [] = [] := (sortI_of (by simp) (List.Perm.refl _)).symm
theorem l1Own_ev (l : List Int) (h : l.length ≤ 1048576) : spec_l1Own.f l = some l := by
 unfold spec_l1Own.f
 rw [Option.bind_some, if_pos (by simp; omega)]
 simp
theorem bePut_l0 (L : List Int) (x : Int) (hL : L.length ≤ 1000) (hu : L.Pairwise fun x y => x ≤ y) : ∀ (d i : Nat), i + d = L.length → (∀ j (h : j < L.length), j < i → L[j] ≤ x) → Ev (fun k => spec_bePut.l0 k L x (i : Int)) (sortI (L ++ [x])) := by
 have fin : ∀ i, i ≤ L.length → (∀ j (h : j < L.length), j < i → L[j] ≤ x) → (∀ j (h : j < L.length), i ≤ j → x ≤ L[j]) → L.take i ++ [x] ++ L.drop i = sortI (L ++ [x]) := by
  intro i hi h1 h2
  refine sortI_of ?_ ?_
  ·rw [List.pairwise_append, List.pairwise_append]
   refine ⟨⟨hu.sublist (List.take_sublist _ _), by simp, ?_⟩, hu.sublist (List.drop_sublist _ _), ?_⟩
   ·intro a ha b hb
    rw [List.mem_singleton] at hb
    subst hb
    obtain ⟨j, hj, rfl⟩ := List.getElem_of_mem ha
    rw [List.length_take] at hj
    rw [List.getElem_take]
    exact h1 j oo oo
   ·intro a ha b hb
    obtain ⟨j, hj, rfl⟩ := List.getElem_of_mem hb
    rw [List.length_drop] at hj
    rw [List.getElem_drop]
    have hb' := h2 (i + j) oo oo
    rcases List.mem_append.1 ha with ha | ha
    ·obtain ⟨j', hj', rfl⟩ := List.getElem_of_mem ha
     rw [List.length_take] at hj'
     rw [List.getElem_take]
     have := h1 j' oo oo
     omega
    ·rw [List.mem_singleton] at ha
     subst ha
     exact hb'
  ·have e : (L ++ [x]).Perm (L.take i ++ L.drop i ++ [x]) := by rw [List.take_append_drop]
   refine List.Perm.trans ?_ e.symm
   rw [List.append_assoc, List.append_assoc]
   exact List.Perm.append_left _ List.perm_append_comm
 intro d
 induction d with
 | zero =>
  intro i hd h1
  have hf := fin i oo h1 (fun j hj h => by omega)
  refine Ev.succ ?_
  simp only [spec_bePut.l0, Int.toNat_natCast]
  refine Ev.neg oo (Ev.pos oo (Ev.pos oo (Ev.known (fun _ => l1Own_ev _ (by rw [List.length_take]; omega)) (Ev.pos (by rw [List.length_take]; omega) (Ev.known (fun _ => rfl) (Ev.pos (by simp; omega) (Ev.pure hf)))))))
 | succ d ih =>
  intro i hd h1
  have hi : i < L.length := by omega
  refine Ev.succ ?_
  simp only [spec_bePut.l0, Int.toNat_natCast, rd_nat L i hi, w1 (show 0 ≤ (i : Int) by omega) (show (i : Int) < 9223372036854775807 by omega)]
  refine Ev.pos oo (Ev.pos oo (Ev.cases (fun h => ?_) (fun h => ?_)))
  ·exact ih (i + 1) oo (fun j hj hji => by
    by_cases e : j = i
    ·subst e; exact h
    ·exact h1 j hj oo)
  ·have hf := fin i oo h1 (fun j hj hij => by
    by_cases e : j = i
    ·subst e; omega
    ·have := List.pairwise_iff_getElem.1 hu i j hi hj oo
     omega)
   exact Ev.pos oo (Ev.known (fun _ => l1Own_ev _ (by rw [List.length_take]; omega)) (Ev.pos (by rw [List.length_take]; omega) (Ev.known (fun _ => rfl) (Ev.pos (by simp; omega) (Ev.pure hf)))))
theorem bePut_ev (L : List Int) (x : Int) (hL : L.length ≤ 1000) (hu : L.Pairwise fun x y => x ≤ y) : Ev (fun k => spec_bePut.f k L x) (sortI (L ++ [x])) :=
 bePut_l0 L x hL hu L.length 0 oo (fun j _ h => by omega)
theorem sortI_put (l : List Int) (x : Int) : sortI (sortI l ++ [x]) = sortI (l ++ [x]) :=
 (sortI_of (sortI_up _) ((sortI_perm _).trans ((sortI_perm l).append_right [x])))
theorem beMerge_l2 (many : Int) (list out : List Int) (take : Nat) (r : List Int) (ht : take ≤ list.length) (hl : list.length ≤ 1000) (ys : List Int) (hys : ys.length ≤ 1000) (S : Int)
  (next : Ev (fun k => (spec_bePut.f k (list.drop take) S).bind fun t159 => (if out.length < 17592186044416 then (spec_beMerge.l1 k many t159 (out ++ [S]) many) else none)) r) :
  ∀ (d j : Nat) (s : Int), j + d = ys.length → sumW (ys.drop j) s = S → Ev (fun k => spec_beMerge.l2 k many list out (take : Int) s ys (ys.length : Int) (j : Int)) r
 | 0, j, s, hd, hs => by
  rw [List.drop_of_length_le oo, sumW] at hs
  subst hs
  refine Ev.succ ?_
  simp only [spec_beMerge.l2, Int.toNat_natCast]
  exact Ev.neg oo (Ev.pos oo (Ev.pos oo next))
 | d + 1, j, s, hd, hs => by
  have hj : j < ys.length := by omega
  rw [List.drop_eq_getElem_cons hj, sumW] at hs
  have ih := beMerge_l2 many list out take r ht hl ys hys S next d (j + 1) _ oo hs
  refine Ev.succ ?_
  simp only [spec_beMerge.l2, rd_nat ys j hj, w1 (show 0 ≤ (j : Int) by omega) (show (j : Int) < 9223372036854775807 by omega)]
  exact Ev.pos oo (Ev.pos oo (Ev.pos oo ih))
def TakeOk (many take n : Nat) : Prop := (many = 2 ∧ take = 2) ∨ (many = 3 ∧ ((take = 2 ∧ n % 2 = 0) ∨ (take = 3 ∧ n % 2 = 1)))
theorem beMerge_l0 (l : List Int) (many : Int) (hl : l.length ≤ 12) (r : List Int) (next : Ev (fun k => (if many = 3 then (spec_beMerge.j1 k many (sortI l) ([] : List Int) many ((((sortI l).length : Int) % 2) == 0)) else (spec_beMerge.j1 k many (sortI l) ([] : List Int) many false))) r) : Ev (fun k => spec_beMerge.f k l many) r := by
 unfold spec_beMerge.f
 have s0 : ([] : List Int) = sortI (l.take 0) := by rw [List.take_zero, sortI_nil]
 rw [s0]
 refine Ev.loop (fun i k => spec_beMerge.l0 k many (sortI (l.take i)) l (l.length : Int) (i : Int)) l.length _ (fun i hi hnext => ?_) ?_
 ·have hput := bePut_ev (sortI (l.take i)) l[i] (by rw [sortI_len, List.length_take]; omega) (sortI_up _)
  rw [sortI_put, List.take_append_getElem hi] at hput
  refine Ev.succ ?_
  simp only [spec_beMerge.l0, rd_nat l i hi, w1 (show 0 ≤ (i : Int) by omega) (show (i : Int) < 9223372036854775807 by omega)]
  exact Ev.pos oo (Ev.pos oo (Ev.pos oo (Ev.bind hput hnext)))
 ·refine Ev.succ ?_
  simp only [spec_beMerge.l0]
  rw [List.take_of_length_le (Nat.le_refl _)]
  exact Ev.neg oo next
theorem beAsked_ev (l : List Int) (m : Int) (hl : l.length ≤ 1048576) : Ev (fun k => spec_beAsked.f k l m) (decide (2 ≤ m ∧ m ≤ 3) && (decide (1 ≤ (l.length : Int) ∧ (l.length : Int) ≤ 12) && l.all fun x => decide (1 ≤ x ∧ x ≤ 100))) := by
 unfold spec_beAsked.f spec_krLetters.f
 refine Ev.known (fun _ => by rw [spec_in, Option.bind_some]) (Ev.cases (fun h => ?_) (fun h => ?_))
 ·exact Ev.bind (beWeights_ev l hl) (Ev.pure (by rw [h, Bool.true_and]))
 ·exact Ev.pure (by rw [Bool.eq_false_iff.mpr h, Bool.false_and])
theorem areLetters_eq (m : Int) : impl_areLetters.f m = some (decide (2 ≤ m ∧ m ≤ 3)) := by
 unfold impl_areLetters.f
 rw [impl_in_eq, Option.bind_some]
def sI : List Int → Int
 | [] => 0
 | x :: t => x + sI t
def sN : List Nat → Nat
 | [] => 0
 | x :: t => x + sN t
theorem sI_append : ∀ a b : List Int, sI (a ++ b) = sI a + sI b
 | [], b => by simp [sI]
 | x :: t, b => by simp only [List.cons_append, sI, sI_append t b]; omega
theorem sN_append : ∀ a b : List Nat, sN (a ++ b) = sN a + sN b
 | [], b => by simp [sN]
 | x :: t, b => by simp only [List.cons_append, sN, sN_append t b]; omega
theorem sI_perm {a b : List Int} (h : a.Perm b) : sI a = sI b := by
 induction h with
 | nil => rfl
 | cons x _ ih => simp only [sI, ih]
 | swap x y l => simp only [sI]; omega
 | trans _ _ ih1 ih2 => exact ih1.trans ih2
theorem sN_perm {a b : List Nat} (h : a.Perm b) : sN a = sN b := by
 induction h with
 | nil => rfl
 | cons x _ ih => simp only [sN, ih]
 | swap x y l => simp only [sN]; omega
 | trans _ _ ih1 ih2 => exact ih1.trans ih2
theorem sI_nonneg : ∀ l : List Int, (∀ x ∈ l, 0 ≤ x) → 0 ≤ sI l
 | [], _ => by simp [sI]
 | x :: t, h => by
  have h1 := h x (by simp)
  have h2 := sI_nonneg t (fun y hy => h y (by simp [hy]))
  simp only [sI]; omega
theorem sI_le (B : Int) : ∀ l : List Int, (∀ x ∈ l, x ≤ B) → sI l ≤ B * (l.length : Int)
 | [], _ => by simp [sI]
 | x :: t, h => by
  have h1 := h x (by simp)
  have h2 := sI_le B t (fun y hy => h y (by simp [hy]))
  simp only [sI, List.length_cons]
  have e : B * ((t.length + 1 : Nat) : Int) = B * (t.length : Int) + B := by rw [Int.natCast_add, Int.mul_add]; simp
  omega
theorem perm_lift {L M : List Int} (h : L.Perm M) : ∀ ps : List (Int × Nat), ps.map Prod.fst = L → ∃ qs : List (Int × Nat), ps.Perm qs ∧ qs.map Prod.fst = M := by
 induction h with
 | nil => intro ps h; exact ⟨ps, List.Perm.refl _, h⟩
 | cons x _ ih =>
  intro ps h
  match ps, h with
  | p :: ps, h =>
   simp only [List.map_cons, List.cons.injEq] at h
   obtain ⟨qs, h1, h2⟩ := ih ps h.2
   exact ⟨p :: qs, h1.cons p, by simp [h.1, h2]⟩
 | swap x y l =>
  intro ps h
  match ps, h with
  | p :: q :: ps, h =>
   simp only [List.map_cons, List.cons.injEq] at h
   exact ⟨q :: p :: ps, List.Perm.swap q p ps, by simp [h.1, h.2.1, h.2.2]⟩
 | trans _ _ ih1 ih2 =>
  intro ps h
  obtain ⟨qs, h1, h2⟩ := ih1 ps h
  obtain ⟨rs, h3, h4⟩ := ih2 qs h2
  exact ⟨rs, h1.trans h3, h4⟩
theorem sN_const (T : List Int) (a : Nat) : sN (T.map fun _ => a) = T.length * a := by
 induction T with
 | nil => simp [sN]
 | cons x t ih => simp only [List.map_cons, sN, ih, List.length_cons, Nat.add_mul, Nat.one_mul]; omega
theorem sI_scale (T : List Int) (a : Int) : sI (T.map fun x => a * x) = a * sI T := by
 induction T with
 | nil => simp [sI]
 | cons x t ih => simp only [List.map_cons, sI, ih, Int.mul_add]
theorem sN_up (m D : Nat) : ∀ q : List (Int × Nat), (∀ p ∈ q, p.2 ≤ D) → sN (q.map fun p => m ^ (D + 1 - p.2)) = m * sN (q.map fun p => m ^ (D - p.2))
 | [], _ => by simp [sN]
 | p :: q, h => by
  have h1 := h p (by simp)
  have ih := sN_up m D q (fun r hr => h r (by simp [hr]))
  simp only [List.map_cons, sN, ih, Nat.mul_add, show D + 1 - p.2 = (D - p.2) + 1 by omega, Nat.pow_succ]
  rw [Nat.mul_comm m (m ^ (D - p.2))]
theorem sumW_sI : ∀ (ys : List Int) (s : Int), (∀ y ∈ ys, 0 ≤ y) → 0 ≤ s → s + sI ys ≤ 1000000 → sumW ys s = s + sI ys
 | [], s, _, _, _ => by simp [sumW, sI]
 | y :: t, s, h, hs, hb => by
  have h1 := h y (by simp)
  have h2 := sI_nonneg t (fun z hz => h z (by simp [hz]))
  simp only [sI] at hb ⊢
  have e : Aside0 (wrap64 (s + y) = s + y) := ⟨w64 oo oo⟩
  rw [sumW, e.out, sumW_sI t (s + y) (fun z hz => h z (by simp [hz])) oo oo]
  omega
def Fits (m D : Nat) (L : List Int) (c : Int) : Prop := ∃ ps : List (Int × Nat), (ps.map Prod.fst).Perm L ∧ (∀ p ∈ ps, p.2 ≤ D) ∧ (2 ≤ L.length → ∀ p ∈ ps, 1 ≤ p.2) ∧ sN (ps.map (fun p => m ^ (D - p.2))) ≤ m ^ D ∧ sI (ps.map (fun p => (p.2 : Int) * p.1)) = c
theorem Fits.merge {m D : Nat} {T R : List Int} {c : Int} (hm : T.length ≤ m) (h : Fits m D (sortI (R ++ [sI T])) c) : Fits m (D + 1) (T ++ R) (c + sI T) := by
 obtain ⟨ps, hp, h1, h2, h3, h4⟩ := h
 obtain ⟨qs, hq, hqs⟩ := perm_lift (hp.trans (sortI_perm _)) ps rfl
 rw [sN_perm (hq.map _)] at h3
 rw [sI_perm (hq.map _)] at h4
 obtain ⟨q1, q2, rfl, e1, e2⟩ := List.map_eq_append_iff.1 hqs
 obtain ⟨s, d, rfl, rfl⟩ : ∃ s d, q2 = [(s, d)] ∧ s = sI T := by
  match q2, e2 with
  | [(s, d)], e2 => exact ⟨s, d, rfl, by simpa using e2⟩
 have hd : d ≤ D := h1 _ (hq.symm.subset (by simp : (sI T, d) ∈ q1 ++ [(sI T, d)]))
 have hq1 : ∀ p ∈ q1, p.2 ≤ D := fun p hp => h1 p (hq.symm.subset (by simp [hp]))
 have hlen : (sortI (R ++ [sI T])).length = R.length + 1 := by rw [sortI_len]; simp
 refine ⟨(T.map fun x => (x, d + 1)) ++ q1, ?_, ?_, ?_, ?_, ?_⟩
 ·rw [List.map_append, e1, List.map_map]
  rw [show (Prod.fst ∘ fun x : Int => (x, d + 1)) = id from rfl, List.map_id]
 ·intro p hp
  rcases List.mem_append.1 hp with hp | hp
  ·obtain ⟨x, -, rfl⟩ := List.mem_map.1 hp
   show d + 1 ≤ D + 1
   omega
  ·have := hq1 p hp; omega
 ·intro _ p hp
  rcases List.mem_append.1 hp with hp | hp
  ·obtain ⟨x, -, rfl⟩ := List.mem_map.1 hp
   show 1 ≤ d + 1
   omega
  ·have hl1 : q1.length = R.length := by rw [← e1, List.length_map]
   have hpos := List.length_pos_of_mem hp
   exact h2 oo p (hq.symm.subset (by simp [hp]))
 ·rw [List.map_append, sN_append, List.map_map, sN_up m D q1 hq1, show ((fun p : Int × Nat => m ^ (D + 1 - p.2)) ∘ fun x : Int => (x, d + 1)) = fun _ => m ^ (D - d) from by funext x; simp [show D + 1 - (d + 1) = D - d by omega], sN_const]
  rw [List.map_append, sN_append] at h3
  simp only [List.map_cons, List.map_nil, sN, Nat.add_zero] at h3
  have h5 := Nat.mul_le_mul_right (m ^ (D - d)) hm
  have h6 := Nat.mul_le_mul_left m h3
  rw [Nat.mul_add] at h6
  rw [Nat.pow_succ, Nat.mul_comm (m ^ D) m]
  omega
 ·rw [List.map_append, sI_append, List.map_map, show ((fun p : Int × Nat => (p.2 : Int) * p.1) ∘ fun x : Int => (x, d + 1)) = fun x => ((d + 1 : Nat) : Int) * x from rfl, sI_scale]
  rw [List.map_append, sI_append] at h4
  simp only [List.map_cons, List.map_nil, sI, Int.add_zero] at h4
  have e : ((d + 1 : Nat) : Int) * sI T = (d : Int) * sI T + sI T := by rw [Int.natCast_add, Int.add_mul]; simp
  omega
theorem Fits.up {m D : Nat} {L : List Int} {c : Int} (h : Fits m D L c) : Fits m (D + 1) L c := by
 obtain ⟨ps, hp, h1, h2, h3, h4⟩ := h
 refine ⟨ps, hp, fun p hp => by have := h1 p hp; omega, h2, ?_, h4⟩
 rw [sN_up m D ps h1, Nat.pow_succ, Nat.mul_comm (m ^ D) m]
 exact Nat.mul_le_mul_left m h3
theorem Fits.to {m D : Nat} {L : List Int} {c : Int} (h : Fits m D L c) : ∀ d, Fits m (D + d) L c
 | 0 => h
 | d + 1 => (h.to d).up
theorem merge_loop2 (many : Nat) : ∀ (n : Nat) (list out : List Int) (take : Nat), 1 ≤ list.length → list.length ≤ n → list.length ≤ 12 → out.length + list.length ≤ 12 → list.Pairwise (fun x y => x ≤ y) → TakeOk many take list.length → (∀ x ∈ list, 0 ≤ x) → sI list ≤ 10000 →
  ∃ (cs : List Int) (D : Nat), Ev (fun k => spec_beMerge.l1 k (many : Int) list out (take : Int)) (out ++ cs) ∧ Ev (fun k => impl_mergeRun.l0 k many list out take) (out ++ cs) ∧ D + 1 ≤ list.length ∧ (∀ x ∈ cs, 0 ≤ x ∧ x ≤ 10000) ∧ cs.length + 1 ≤ list.length ∧ Fits many D list (sI cs)
 | 0, list, out, take, h0, hn, hl, ho, hu, ht, hx, hs => by omega
 | n + 1, list, out, take, h0, hn, hl, ho, hu, ht, hx, hs => by
  by_cases h1 : 1 < list.length
  ·have htk : 2 ≤ take ∧ take ≤ list.length ∧ take ≤ many := by
    rcases ht with ⟨a, b⟩ | ⟨a, ⟨b, c⟩ | ⟨b, c⟩⟩ <;> omega
   have hdt : sI list = sI (list.take take) + sI (list.drop take) := by rw [← sI_append, List.take_append_drop]
   have hx1 : ∀ x ∈ list.take take, 0 ≤ x := fun x h => hx x (List.mem_of_mem_take h)
   have hx2 : ∀ x ∈ list.drop take, 0 ≤ x := fun x h => hx x (List.mem_of_mem_drop h)
   have hn1 := sI_nonneg _ hx1
   have hn2 := sI_nonneg _ hx2
   have hS0 : sumW (list.take take) 0 = sI (list.take take) := by rw [sumW_sI _ 0 hx1 oo oo]; omega
   obtain ⟨S, hS⟩ : ∃ S, S = sI (list.take take) := ⟨_, rfl⟩
   have hlen : (sortI (list.drop take ++ [S])).length = list.length - take + 1 := by rw [sortI_len]; simp
   have htk' : TakeOk many many (list.length - take + 1) := by
    rcases ht with ⟨a, b⟩ | ⟨a, ⟨b, c⟩ | ⟨b, c⟩⟩
    ·exact Or.inl ⟨a, by omega⟩
    ·exact Or.inr ⟨a, Or.inr ⟨a, by omega⟩⟩
    ·exact Or.inr ⟨a, Or.inr ⟨a, by omega⟩⟩
   have hx' : ∀ x ∈ sortI (list.drop take ++ [S]), 0 ≤ x := fun x h => by
    have h := (sortI_perm _).subset h
    rcases List.mem_append.1 h with h | h
    ·exact hx2 x h
    ·rw [List.mem_singleton] at h; omega
   have hs' : sI (sortI (list.drop take ++ [S])) ≤ 10000 := by
    rw [sI_perm (sortI_perm _), sI_append]
    simp only [sI, Int.add_zero]
    omega
   obtain ⟨cs, D, r1, r2, r3, r4, r5, r6⟩ := merge_loop2 many n (sortI (list.drop take ++ [S])) (out ++ [S]) many oo oo oo (by simp; omega) (sortI_up _) (by rw [hlen]; exact htk') hx' hs'
   rw [List.append_assoc] at r1 r2
   refine ⟨S :: cs, D + 1, Ev.succ ?_, Ev.succ ?_, by omega, ?_, by simp only [List.length_cons]; omega, ?_⟩
   ·simp only [spec_beMerge.l1, Int.toNat_natCast, Option.bind_some]
    refine Ev.pos oo (Ev.pos oo (Ev.pos oo ?_))
    have hput := bePut_ev (list.drop take) S (by rw [List.length_drop]; omega) (hu.sublist (List.drop_sublist _ _))
    exact beMerge_l2 (many : Int) list out take (out ++ S :: cs) htk.2.1 oo (list.take take) (by rw [List.length_take]; omega) S (Ev.bind hput (Ev.pos oo r1)) (list.take take).length 0 0 oo (by rw [List.drop_zero, hS, hS0])
   ·simp only [impl_mergeRun.l0]
    rw [hS, ← hS0] at r2
    rw [hS, ← hS0]
    exact Ev.pos h1 (Ev.pos oo r2)
   ·intro x h
    rcases List.mem_cons.1 h with rfl | h
    ·omega
    ·exact r4 x h
   ·have h7 := Fits.merge (m := many) (T := list.take take) (R := list.drop take) (by rw [List.length_take]; omega) (hS ▸ r6)
    rw [List.take_append_drop] at h7
    rw [show sI (S :: cs) = sI cs + sI (list.take take) by simp only [sI]; omega]
    exact h7
  ·refine ⟨[], 0, Ev.succ ?_, Ev.succ ?_, by omega, by simp, by simp; omega, ?_⟩
   ·simp only [spec_beMerge.l1]; exact Ev.neg oo (Ev.pure (by simp))
   ·simp only [impl_mergeRun.l0]; exact Ev.neg oo (Ev.pure (by simp))
   ·match list, h0, h1 with
    | [x], _, _ => exact ⟨[(x, 0)], by simp, by simp, fun h => by simp at h, by simp [sN], by simp [sI]⟩
    | x :: y :: t, _, h1 => exact absurd (show 1 < (x :: y :: t).length by simp) h1
theorem merge_same2 (l : List Int) (m : Nat) (h1 : 1 ≤ l.length) (hl : l.length ≤ 12) (hm : 2 ≤ m ∧ m ≤ 3) (hx : ∀ x ∈ l, 1 ≤ x ∧ x ≤ 100) : ∃ (r : List Int) (D : Nat), Ev (fun k => spec_beMerge.f k l (m : Int)) r ∧ Ev (fun k => impl_mergeRun.f k l (m : Int)) r ∧ D + 1 ≤ l.length ∧ (∀ x ∈ r, 0 ≤ x ∧ x ≤ 10000) ∧ r.length + 1 ≤ l.length ∧ Fits m D l (sI r) := by
 obtain ⟨t, ht⟩ : ∃ t : Nat, t = if (m : Int) = 3 ∧ l.length % 2 = 0 then 2 else m := ⟨_, rfl⟩
 have hlen := sortI_len l
 have htk : TakeOk m t (sortI l).length := by
  rw [hlen, ht]
  unfold TakeOk
  by_cases c : (m : Int) = 3 ∧ l.length % 2 = 0
  ·rw [if_pos c]; omega
  ·rw [if_neg c]; omega
 have hsum : sI (sortI l) ≤ 10000 := by
  rw [sI_perm (sortI_perm l)]
  have := sI_le 100 l (fun x h => (hx x h).2)
  omega
 obtain ⟨r, D, r1, r2, r3, r4, r5, r6⟩ := merge_loop2 m 12 (sortI l) [] t oo oo oo (by simp; omega) (sortI_up l) htk (fun x h => by have := hx x ((sortI_perm l).subset h); omega) hsum
 rw [List.nil_append] at r1 r2
 rw [hlen] at r3 r5
 have r7 : Fits m D l (sI r) := by
  obtain ⟨ps, hp, a, b, c, d⟩ := r6
  exact ⟨ps, hp.trans (sortI_perm l), a, fun h => b oo, c, d⟩
 refine ⟨r, D, beMerge_l0 l (m : Int) hl r (Ev.cases (fun c => Ev.succ ?_) (fun c => Ev.succ ?_)), ?_, r3, r4, r5, r7⟩
 ·simp only [spec_beMerge.j1]
  refine Ev.cases (fun c2 => Ev.succ ?_) (fun c2 => Ev.succ ?_)
  ·simp only [spec_beMerge.j2]
   rw [beq_iff_eq, hlen] at c2
   rw [if_pos ⟨c, by omega⟩] at ht
   subst ht
   exact r1
  ·simp only [spec_beMerge.j2]
   rw [beq_iff_eq, hlen] at c2
   rw [if_neg (fun h => c2 oo)] at ht
   subst ht
   exact r1
 ·simp only [spec_beMerge.j1]
  refine Ev.neg (by simp) (Ev.succ ?_)
  simp only [spec_beMerge.j2]
  rw [if_neg (fun h => c h.1)] at ht
  subst ht
  exact r1
 ·unfold impl_mergeRun.f
  rw [Int.toNat_natCast, ← ht]
  exact Ev.pos oo r2
theorem bestSum2 (ys : List Int) (hl : ys.length ≤ 1000) (hy : ∀ y ∈ ys, 0 ≤ y ∧ y ≤ 10000) : ∀ (d i : Nat) (s : Int), i + d = ys.length → 0 ≤ s → s + sI (ys.drop i) ≤ 1000000000 → Ev (fun k => spec_beBest.l0 k s ys (ys.length : Int) (i : Int)) (s + sI (ys.drop i)) ∧ Ev (fun k => impl_bestCost.l0 k s ys (ys.length : Int) (i : Int)) (s + sI (ys.drop i))
 | 0, i, s, hd, _, _ => by
  rw [List.drop_of_length_le oo]
  exact ⟨Ev.succ (by simp only [spec_beBest.l0]; exact Ev.neg oo (Ev.pure (by simp [sI]))), Ev.succ (by simp only [impl_bestCost.l0]; exact Ev.neg oo (Ev.pure (by simp [sI])))⟩
 | d + 1, i, s, hd, h0, hb => by
  have hi : i < ys.length := by omega
  rw [List.drop_eq_getElem_cons hi] at hb ⊢
  simp only [sI] at hb ⊢
  have hyi := hy _ (List.getElem_mem hi)
  have hn := sI_nonneg (ys.drop (i + 1)) (fun x h => (hy x (List.mem_of_mem_drop h)).1)
  obtain ⟨h1, h2⟩ := bestSum2 ys hl hy d (i + 1) (s + ys[i]) oo oo oo
  rw [show s + ys[i] + sI (ys.drop (i + 1)) = s + (ys[i] + sI (ys.drop (i + 1))) by omega] at h1 h2
  have wi := w1 (show 0 ≤ (i : Int) by omega) (show (i : Int) < 9223372036854775807 by omega)
  have ws : Aside0 (wrap64 (s + ys[i]) = s + ys[i]) := ⟨w64 oo oo⟩
  refine ⟨Ev.succ ?_, Ev.succ ?_⟩
  ·simp only [spec_beBest.l0, rd_nat ys i hi, ws.out, wi]; exact Ev.pos oo (Ev.pos oo (Ev.pos oo h1))
  ·simp only [impl_bestCost.l0, rd_nat ys i hi, ws.out, wi]; exact Ev.pos oo (Ev.pos oo (Ev.pos oo h2))
theorem best_fits (l : List Int) (m : Nat) (h1 : 1 ≤ l.length) (hl : l.length ≤ 12) (hm : 2 ≤ m ∧ m ≤ 3) (hx : ∀ x ∈ l, 1 ≤ x ∧ x ≤ 100) : ∃ (B : Int) (ps : List (Int × Nat)), Ev (fun k => spec_beBest.f k l (m : Int)) B ∧ Ev (fun k => impl_bestCost.f k l (m : Int)) B ∧ 0 ≤ B ∧ B ≤ 1000000 ∧
  ps.map Prod.fst = l ∧ (∀ p ∈ ps, 1 ≤ p.2 ∧ p.2 ≤ 11) ∧ sN (ps.map (fun p => m ^ (11 - p.2))) ≤ m ^ 11 ∧ sI (ps.map (fun p => (p.2 : Int) * p.1)) = B := by
 unfold spec_beBest.f impl_bestCost.f
 by_cases e : l.length = 1
 ·match l, e with
  | [x], _ =>
   have hx0 := hx x (by simp)
   have e0 : rd [x] 0 = x := by simp [rd]
   refine ⟨x, [(x, 1)], Ev.pos (by simp) (Ev.pos (by simp) (Ev.pure e0)), Ev.pos (by simp) (Ev.pos (by simp) (Ev.pure e0)), by omega, by omega, by simp, by simp, ?_, by simp [sI]⟩
   simp only [List.map_cons, List.map_nil, sN, Nat.add_zero]
   exact Nat.pow_le_pow_right oo oo
 ·obtain ⟨r, D, r1, r2, r3, r4, r5, r6⟩ := merge_same2 l m h1 hl hm hx
  have hb := sI_le 10000 r (fun x h => (r4 x h).2)
  have hb0 := sI_nonneg r (fun x h => (r4 x h).1)
  obtain ⟨s1, s2⟩ := bestSum2 r oo r4 r.length 0 0 oo oo (by rw [List.drop_zero]; omega)
  rw [List.drop_zero, Int.zero_add] at s1 s2
  have r7 := r6.to (11 - D)
  rw [show D + (11 - D) = 11 by omega] at r7
  obtain ⟨ps, hp, a, b, c, d⟩ := r7
  obtain ⟨qs, hq, hqs⟩ := perm_lift hp ps rfl
  refine ⟨sI r, qs, Ev.neg oo (Ev.bind r1 s1), Ev.neg oo (Ev.bind r2 s2), hb0, by omega, hqs, fun p h => ⟨b oo p (hq.symm.subset h), a p (hq.symm.subset h)⟩, ?_, ?_⟩
  ·rw [← sN_perm (hq.map _)]; exact c
  ·rw [← sI_perm (hq.map _)]; exact d
theorem pow_small {m n : Nat} (hm : 2 ≤ m ∧ m ≤ 3) (hn : n ≤ 11) : 1 ≤ m ^ n ∧ m ^ n ≤ 177147 := by
 have e : (3 : Nat) ^ 11 = 177147 := by decide
 exact ⟨Nat.pow_pos oo, by rw [← e]; exact Nat.le_trans (Nat.pow_le_pow_left hm.2 _) (Nat.pow_le_pow_right oo hn)⟩
theorem krPower_l0 (b m : Nat) (hb : 1 ≤ b) (hp : b ^ m < 4611686018427387904) (hm : m ≤ 1048576) : ∀ (d i : Nat), i + d = m → Ev (fun k => spec_krPower.l0 k (b : Int) (d : Int) ((b ^ i : Nat) : Int)) ((b ^ m : Nat) : Int)
 | 0, i, hd => by
  refine Ev.succ ?_
  simp only [spec_krPower.l0]
  exact Ev.neg oo (Ev.pure (by rw [show i = m by omega]))
 | d + 1, i, hd => by
  have ih := krPower_l0 b m hb hp hm d (i + 1) oo
  have h1 : b ^ (i + 1) ≤ b ^ m := Nat.pow_le_pow_right hb oo
  have e : Aside0 (wrap64 (((b ^ i : Nat) : Int) * (b : Int)) = ((b ^ (i + 1) : Nat) : Int)) := ⟨by
   rw [← Int.natCast_mul, show b ^ i * b = b ^ (i + 1) from rfl]; exact w64 oo oo⟩
  have e2 : Aside0 (wrap64 (((d + 1 : Nat) : Int) - 1) = (d : Int)) := ⟨by rw [w64 oo oo]; omega⟩
  refine Ev.succ ?_
  simp only [spec_krPower.l0, e.out, e2.out]
  exact Ev.pos oo ih
theorem krPower_ev (b m : Nat) (hb : 1 ≤ b) (hp : b ^ m < 4611686018427387904) (hm : m ≤ 1048576) : Ev (fun k => spec_krPower.f k (b : Int) (m : Int)) ((b ^ m : Nat) : Int) := by
 have h := krPower_l0 b m hb hp hm m 0 oo
 simpa [spec_krPower.f] using h
theorem power_l0 (b m : Nat) (hb : 1 ≤ b) (hp : b ^ m < 4611686018427387904) (hm : m ≤ 1048576) : ∀ (d i : Nat), i + d = m → Ev (fun k => impl_power.l0 k (b : Int) ((b ^ i : Nat) : Int) (m : Int) (i : Int)) ((b ^ m : Nat) : Int)
 | 0, i, hd => by
  refine Ev.succ ?_
  simp only [impl_power.l0]
  exact Ev.neg oo (Ev.pure (by rw [show i = m by omega]))
 | d + 1, i, hd => by
  have ih := power_l0 b m hb hp hm d (i + 1) oo
  have h1 : b ^ (i + 1) ≤ b ^ m := Nat.pow_le_pow_right hb oo
  have e : Aside0 (wrap64 (((b ^ i : Nat) : Int) * (b : Int)) = ((b ^ (i + 1) : Nat) : Int)) := ⟨by
   rw [← Int.natCast_mul, show b ^ i * b = b ^ (i + 1) from rfl]; exact w64 oo oo⟩
  refine Ev.succ ?_
  simp only [impl_power.l0, e.out, w1 (show 0 ≤ (i : Int) by omega) (show (i : Int) < 9223372036854775807 by omega)]
  exact Ev.pos oo ih
theorem power_ev (b m : Nat) (hb : 1 ≤ b) (hp : b ^ m < 4611686018427387904) (hm : m ≤ 1048576) : Ev (fun k => impl_power.f k (b : Int) (m : Int)) ((b ^ m : Nat) : Int) := by
 have h := power_l0 b m hb hp hm m 0 oo
 simpa [impl_power.f] using h
def solL (m : Nat) (x : Int) (rec : Int → Int → List (List Int)) (s c : Int) : Nat → Nat → List (List Int)
 | 0, _ => []
 | d + 1, l => (if 0 ≤ c - (l : Int) * x ∧ 0 ≤ s - ((m ^ (11 - l) : Nat) : Int) then (rec (s - ((m ^ (11 - l) : Nat) : Int)) (c - (l : Int) * x)).map (fun t => (l : Int) :: t) else []) ++ solL m x rec s c d (l + 1)
def sols (m : Nat) : List Int → Int → Int → List (List Int)
 | [], _, c => if c = 0 then [[]] else []
 | x :: xs, s, c => solL m x (sols m xs) s c 11 1
theorem solL_len (m : Nat) (x : Int) (rec : Int → Int → List (List Int)) (s c : Int) (N : Nat) (h : ∀ a b, (rec a b).length ≤ N) : ∀ (d l : Nat), (solL m x rec s c d l).length ≤ d * N
 | 0, _ => by simp [solL]
 | d + 1, l => by
  have ih := solL_len m x rec s c N h d (l + 1)
  rw [solL, List.length_append, Nat.add_mul, Nat.one_mul]
  split
  ·rw [List.length_map]; have := h (s - ((m ^ (11 - l) : Nat) : Int)) (c - (l : Int) * x); omega
  ·simp; omega
theorem sols_len (m : Nat) : ∀ (xs : List Int) (s c : Int), (sols m xs s c).length ≤ 11 ^ xs.length
 | [], s, c => by
  unfold sols
  split <;> simp
 | x :: xs, s, c => by
  rw [sols, List.length_cons, Nat.pow_succ, Nat.mul_comm]
  exact solL_len m x (sols m xs) s c _ (sols_len m xs) 11 1
theorem solL_mem (m : Nat) (x : Int) (rec : Int → Int → List (List Int)) (s c : Int) (l' : Nat) (t : List Int) (h1 : 0 ≤ c - (l' : Int) * x) (h2 : 0 ≤ s - ((m ^ (11 - l') : Nat) : Int)) (ht : t ∈ rec (s - ((m ^ (11 - l') : Nat) : Int)) (c - (l' : Int) * x)) : ∀ (d l : Nat), l ≤ l' → l' < l + d → ((l' : Int) :: t) ∈ solL m x rec s c d l
 | 0, l, ha, hb => by omega
 | d + 1, l, ha, hb => by
  rw [solL, List.mem_append]
  by_cases e : l' = l
  ·subst e
   left
   rw [if_pos ⟨h1, h2⟩]
   exact List.mem_map.2 ⟨t, ht, rfl⟩
  ·right
   exact solL_mem m x rec s c l' t h1 h2 ht d (l + 1) oo oo
theorem sols_mem (m : Nat) : ∀ (ps : List (Int × Nat)) (s c : Int), (∀ p ∈ ps, 1 ≤ p.2 ∧ p.2 ≤ 11) → (∀ p ∈ ps, 0 ≤ p.1) → ((sN (ps.map (fun p => m ^ (11 - p.2))) : Nat) : Int) ≤ s → sI (ps.map (fun p => (p.2 : Int) * p.1)) = c → ps.map (fun p => (p.2 : Int)) ∈ sols m (ps.map Prod.fst) s c
 | [], s, c, _, _, _, h => by
  simp only [List.map_nil, sI] at h
  simp [sols, ← h]
 | p :: ps, s, c, h1, h2, h3, h4 => by
  simp only [List.map_cons, sI, sN] at h3 h4 ⊢
  have hp := h1 p (by simp)
  have hn : 0 ≤ sI (ps.map (fun p => (p.2 : Int) * p.1)) := sI_nonneg _ (fun x hx => by
   obtain ⟨q, hq, rfl⟩ := List.mem_map.1 hx
   exact Int.mul_nonneg oo (h2 q (by simp [hq])))
  have ih := sols_mem m ps (s - ((m ^ (11 - p.2) : Nat) : Int)) (c - (p.2 : Int) * p.1) (fun q hq => h1 q (by simp [hq])) (fun q hq => h2 q (by simp [hq])) oo oo
  exact solL_mem m p.1 (sols m (ps.map Prod.fst)) s c p.2 _ oo oo ih 11 1 hp.1 oo
theorem solL_each (m : Nat) (x : Int) (rec : Int → Int → List (List Int)) (s c : Int) (n : Nat) (h : ∀ a b t, t ∈ rec a b → t.length = n) : ∀ (d l : Nat) (t : List Int), t ∈ solL m x rec s c d l → t.length = n + 1
 | 0, _, t, ht => by simp [solL] at ht
 | d + 1, l, t, ht => by
  rw [solL, List.mem_append] at ht
  rcases ht with ht | ht
  ·split at ht
   ·obtain ⟨u, hu, rfl⟩ := List.mem_map.1 ht
    rw [List.length_cons, h _ _ u hu]
   ·simp at ht
  ·exact solL_each m x rec s c n h d (l + 1) t ht
theorem sols_each (m : Nat) : ∀ (xs : List Int) (s c : Int) (t : List Int), t ∈ sols m xs s c → t.length = xs.length
 | [], s, c, t, ht => by
  unfold sols at ht
  split at ht
  ·rw [List.mem_singleton] at ht; rw [ht]
  ·simp at ht
 | x :: xs, s, c, t, ht => solL_each m x (sols m xs) s c xs.length (fun a b t h => sols_each m xs a b t h) 11 1 t ht
def upd (f : List Int) (cnt : Int) : List (List Int) → List Int × Int
 | [] => (f, cnt)
 | a :: t => (if cnt = 0 then a else f, cnt + ((t.length : Int) + 1))
theorem upd_append (f : List Int) (cnt : Int) (h : 0 ≤ cnt) (A B : List (List Int)) : upd f cnt (A ++ B) = upd (upd f cnt A).1 (upd f cnt A).2 B := by
 cases A with
 | nil => rfl
 | cons a t =>
  cases B with
  | nil => simp [upd]
  | cons b u =>
   show upd f cnt (a :: (t ++ b :: u)) = upd (if cnt = 0 then a else f) (cnt + ((t.length : Int) + 1)) (b :: u)
   have hne : ¬ cnt + ((t.length : Int) + 1) = 0 := by omega
   show ((if cnt = 0 then a else f), cnt + (((t ++ b :: u).length : Int) + 1)) = (if cnt + ((t.length : Int) + 1) = 0 then b else (if cnt = 0 then a else f), cnt + ((t.length : Int) + 1) + ((u.length : Int) + 1))
   rw [if_neg hne, List.length_append, List.length_cons]
   congr 1
   omega
theorem upd_cnt (f : List Int) (cnt : Int) (A : List (List Int)) : (upd f cnt A).2 = cnt + (A.length : Int) := by
 cases A with
 | nil => simp [upd]
 | cons a t => simp [upd]
theorem drop_at (ws : List Int) (i : Nat) (h : i < ws.length) : ws.drop i = rd ws (i : Int) :: ws.drop (i + 1) := by rw [rd_nat ws i h, List.drop_eq_getElem_cons h]
theorem rd_in (ws : List Int) (i : Nat) (h : i < ws.length) (hx : ∀ x ∈ ws, 1 ≤ x ∧ x ≤ 100) : 1 ≤ rd ws (i : Int) ∧ rd ws (i : Int) ≤ 100 := by rw [rd_nat ws i h]; exact hx _ (List.getElem_mem h)
theorem mul_le_1100 {l : Nat} {x : Int} (hl : l ≤ 12) (hx : 1 ≤ x ∧ x ≤ 100) : 0 ≤ (l : Int) * x ∧ (l : Int) * x ≤ 1200 := by
 refine ⟨Int.mul_nonneg oo oo, ?_⟩
 have h1 := Int.mul_le_mul_of_nonneg_left hx.2 (show (0 : Int) ≤ (l : Int) by omega)
 omega
theorem map_pre (list : List Int) (l : Int) (A : List (List Int)) : (A.map (fun t => l :: t)).map (list ++ ·) = A.map ((list ++ [l]) ++ ·) := by
 rw [List.map_map]
 congr 1
 funext t
 simp
theorem seek_ev (ws : List Int) (hw : ws.length ≤ 6) (hx : ∀ x ∈ ws, 1 ≤ x ∧ x ≤ 100) (m : Nat) (hm : 2 ≤ m ∧ m ≤ 3) : ∀ (d : Nat) (list : List Int) (share cost : Int) (f : List Int) (cnt : Int), list.length + d = ws.length → 0 ≤ share → share ≤ 1000000 → 0 ≤ cost → cost ≤ 1000000 → 0 ≤ cnt → cnt + ((11 ^ d : Nat) : Int) ≤ 1000000000 →
  Ev (fun k => spec_beFind.seek k ws (m : Int) list share cost f cnt) (upd f cnt ((sols m (ws.drop list.length) share cost).map (list ++ ·)))
 | 0, list, share, cost, f, cnt, hd, s1, s2, c1, c2, n1, n2 => by
  refine Ev.succ ?_
  simp only [spec_beFind.seek]
  have ec : Aside0 (wrap64 (cnt + 1) = cnt + 1) := ⟨w64 oo oo⟩
  refine Ev.neg oo (Ev.neg oo (Ev.pos oo (Ev.pos oo ?_)))
  rw [List.drop_of_length_le oo]
  by_cases e : cost = 0
  ·have hs : sols m [] share cost = [[]] := by rw [sols, if_pos e]
   rw [hs, ec.out]
   simp only [List.map_cons, List.map_nil, List.append_nil, upd]
   refine Ev.pos e (Ev.cases (fun h => ?_) (fun h => ?_))
   ·rw [if_pos h]; exact Ev.now _
   ·rw [if_neg h]; exact Ev.now _
  ·have hs : sols m [] share cost = [] := by rw [sols, if_neg e]
   rw [hs]
   exact Ev.neg e (Ev.now _)
 | d + 1, list, share, cost, f, cnt, hd, s1, s2, c1, c2, n1, n2 => by
  have hi : list.length < ws.length := by omega
  have hx0 := rd_in ws list.length hi hx
  rw [drop_at ws list.length hi]
  generalize hrd0 : rd ws (list.length : Int) = x at hx0 ⊢
  have hN : (11 : Nat) ^ (d + 1) = 11 * 11 ^ d := by rw [Nat.pow_succ, Nat.mul_comm]
  have loop : ∀ (e l : Nat) (f : List Int) (cnt : Int), l + e = 12 → 1 ≤ l → 0 ≤ cnt → cnt + ((e * 11 ^ d : Nat) : Int) ≤ 1000000000 → rd ws (list.length : Int) = x →
    Ev (fun k => spec_beFind.loop k ws (m : Int) list share cost f cnt l) (upd f cnt ((solL m x (sols m (ws.drop (list.length + 1))) share cost e l).map (list ++ ·))) := by
   intro e
   induction e with
   | zero =>
    intro l f cnt he hl hc hb _
    refine Ev.succ ?_
    simp only [spec_beFind.loop]
    exact Ev.neg oo (Ev.now _)
   | succ e ih =>
    intro l f cnt he hl hc hb hrd
    have hlx := mul_le_1100 (l := l) oo hx0
    have hp := pow_small (m := m) (n := 11 - l) hm oo
    have kp := krPower_ev m (11 - l) oo oo oo
    rw [show ((11 - l : Nat) : Int) = 11 - (l : Int) by omega] at kp
    generalize hP : m ^ (11 - l) = P at hp kp
    have e1 : Aside0 (wrap64 (share - (P : Int)) = share - (P : Int)) := ⟨w64 oo oo⟩
    have e2 : Aside0 (wrap64 ((l : Int) * x) = (l : Int) * x) := ⟨w64 oo oo⟩
    generalize hL : (l : Int) * x = L at hlx e2
    have e3 : Aside0 (wrap64 (cost - L) = cost - L) := ⟨w64 oo oo⟩
    have hmul : (e + 1) * 11 ^ d = e * 11 ^ d + 11 ^ d := by rw [Nat.add_mul, Nat.one_mul]
    rw [hmul] at hb
    refine Ev.succ ?_
    simp only [spec_beFind.loop, hrd, hL, e1.out, e2.out, e3.out]
    rw [solL, hP, hL, List.map_append, upd_append f cnt hc]
    refine Ev.pos oo (Ev.bind kp ?_)
    simp only [e1.out]
    by_cases c : 0 ≤ cost - L ∧ 0 ≤ share - (P : Int)
    ·rw [if_pos c, map_pre]
     have hlen : ((((sols m (ws.drop (list.length + 1)) (share - (P : Int)) (cost - L)).map ((list ++ [(l : Int)]) ++ ·)).length : Nat) : Int) ≤ ((11 ^ d : Nat) : Int) := by
      rw [List.length_map]
      have h9 := sols_len m (ws.drop (list.length + 1)) (share - (P : Int)) (cost - L)
      rw [List.length_drop, show ws.length - (list.length + 1) = d by omega] at h9
      omega
     have h1 := seek_ev ws hw hx m hm d (list ++ [(l : Int)]) (share - (P : Int)) (cost - L) f cnt (by simp; omega) oo oo oo oo hc oo
     rw [show (list ++ [(l : Int)]).length = list.length + 1 by simp] at h1
     refine Ev.bind h1 ?_
     have hu := upd_cnt f cnt ((sols m (ws.drop (list.length + 1)) (share - (P : Int)) (cost - L)).map ((list ++ [(l : Int)]) ++ ·))
     exact ih (l + 1) _ _ oo oo oo oo hrd
    ·rw [if_neg c]
     refine Ev.bind (a := (f, cnt)) (Ev.succ ?_) ?_
     ·simp only [spec_beFind.seek]
      by_cases c1 : cost - L < 0
      ·exact Ev.pos c1 (Ev.now _)
      ·exact Ev.neg c1 (Ev.pos oo (Ev.now _))
     ·exact ih (l + 1) f cnt oo oo hc oo hrd
  refine Ev.succ ?_
  simp only [spec_beFind.seek]
  refine Ev.neg oo (Ev.neg oo (Ev.pos oo (Ev.neg oo ?_)))
  exact loop 11 1 f cnt oo oo n1 oo hrd0
theorem search_spec (l : List Int) (m : Nat) (h1 : 1 ≤ l.length) (hl : l.length ≤ 6) (hm : 2 ≤ m ∧ m ≤ 3) (hx : ∀ x ∈ l, 1 ≤ x ∧ x ≤ 100) : ∃ S : List (List Int), S ≠ [] ∧ (∀ t ∈ S, t.length = l.length) ∧ Ev (fun k => spec_beFind.f k l (m : Int)) (upd [] 0 S) := by
 obtain ⟨B, ps, b1, b2, b3, b4, p1, p2, p3, p4⟩ := best_fits l m h1 oo hm hx
 have hp := pow_small (m := m) (n := 11) hm oo
 have k1 := krPower_ev m 11 oo oo oo
 have h6 : (11 : Nat) ^ l.length ≤ 1771561 := by
  have : (11 : Nat) ^ 6 = 1771561 := by decide
  rw [← this]
  exact Nat.pow_le_pow_right oo hl
 have s1 := seek_ev l hl hx m hm l.length [] ((m ^ 11 : Nat) : Int) B [] 0 (by simp) oo oo b3 b4 oo oo
 have hmap : ∀ A : List (List Int), A.map (([] : List Int) ++ ·) = A := fun A => by simp
 rw [List.length_nil, List.drop_zero, hmap] at s1
 have hmem := sols_mem m ps ((m ^ 11 : Nat) : Int) B p2 (fun p hp => by have := hx p.1 (by rw [← p1]; exact List.mem_map_of_mem hp); omega) oo p4
 rw [p1] at hmem
 refine ⟨sols m l ((m ^ 11 : Nat) : Int) B, fun h => by rw [h] at hmem; simp at hmem, ?_, ?_⟩
 ·exact fun t ht => sols_each m l _ _ t ht
 ·unfold spec_beFind.f
  exact Ev.bind k1 (Ev.bind b1 s1)
def dot : List Int → List Nat → Int
 | w :: ws, l :: ls => (l : Int) * w + dot ws ls
 | _, _ => 0
theorem dot_append : ∀ (a b : List Int) (x y : List Nat), x.length = a.length → dot (a ++ b) (x ++ y) = dot a x + dot b y
 | [], b, [], y, _ => by simp [dot]
 | w :: a, b, l :: x, y, h => by
  have ih := dot_append a b x y (by simpa using h)
  simp only [List.cons_append, dot, ih]; omega
theorem dot_rep (d : Nat) : ∀ ws : List Int, dot ws (List.replicate ws.length d) = (d : Int) * sI ws
 | [] => by simp [dot, sI]
 | w :: ws => by rw [List.length_cons, List.replicate_succ, dot, dot_rep d ws, sI, Int.mul_add]
theorem dot_zip : ∀ (ws : List Int) (ls : List Nat), ls.length = ws.length → dot ws ls = sI ((ws.zip ls).map fun p => (p.2 : Int) * p.1)
 | [], [], _ => by simp [dot, sI]
 | w :: ws, l :: ls, h => by
  have ih := dot_zip ws ls (by simpa using h)
  simp only [dot, ih, List.zip_cons_cons, List.map_cons, sI]
theorem dot_pairs : ∀ ps : List (Int × Nat), sI (ps.map fun p => (p.2 : Int) * p.1) = dot (ps.map Prod.fst) (ps.map Prod.snd)
 | [] => by simp [dot, sI]
 | p :: ps => by simp only [List.map_cons, sI, dot, dot_pairs ps]
theorem max_of : ∀ (l : List Nat), l ≠ [] → ∃ x ∈ l, ∀ y ∈ l, y ≤ x
 | [], h => absurd rfl h
 | [x], _ => ⟨x, by simp, by simp⟩
 | x :: y :: l, _ => by
  obtain ⟨z, hz, h⟩ := max_of (y :: l) (by simp)
  by_cases c : x ≤ z
  ·exact ⟨z, List.mem_cons_of_mem _ hz, fun q hq => by
    rcases List.mem_cons.1 hq with rfl | hq
    ·exact c
    ·exact h q hq⟩
  ·exact ⟨x, by simp, fun q hq => by
    rcases List.mem_cons.1 hq with rfl | hq
    ·exact Nat.le_refl _
    ·have := h q hq; omega⟩
theorem dot_swap (w : Int) (M l : Nat) (h : l ≤ M) : ∀ (ws : List Int) (a b : List Nat), (a ++ M :: b).length = ws.length → (∀ v ∈ ws, w ≤ v) → (M : Int) * w + dot ws (a ++ l :: b) ≤ (l : Int) * w + dot ws (a ++ M :: b)
 | [], a, b, hl, _ => by simp at hl
 | v :: ws, [], b, hl, hw => by
  have hv := hw v (by simp)
  simp only [List.nil_append, dot]
  obtain ⟨e, rfl⟩ : ∃ e, M = l + e := ⟨M - l, by omega⟩
  have q : (e : Int) * w ≤ (e : Int) * v := Int.mul_le_mul_of_nonneg_left hv oo
  rw [Int.natCast_add, Int.add_mul, Int.add_mul]
  omega
 | v :: ws, x :: a, b, hl, hw => by
  have ih := dot_swap w M l h ws a b (by simpa using hl) (fun u hu => hw u (by simp [hu]))
  simp only [List.cons_append, dot]
  omega
theorem rearr : ∀ (ws : List Int) (ls : List Nat), ls.length = ws.length → ws.Pairwise (fun x y => x ≤ y) → ∃ ls' : List Nat, ls'.Perm ls ∧ ls'.Pairwise (fun x y => y ≤ x) ∧ dot ws ls' ≤ dot ws ls
 | [], [], _, _ => ⟨[], List.Perm.refl _, by simp, by simp [dot]⟩
 | w :: ws, l :: ls, hl, hs => by
  have hs' := List.pairwise_cons.1 hs
  have hl' : ls.length = ws.length := by simpa using hl
  obtain ⟨M, hM, hmax⟩ := max_of (l :: ls) (by simp)
  by_cases e : M = l
  ·subst e
   obtain ⟨r, r1, r2, r3⟩ := rearr ws ls hl' hs'.2
   refine ⟨M :: r, r1.cons M, List.pairwise_cons.2 ⟨fun x hx => hmax x (List.mem_cons_of_mem _ (r1.subset hx)), r2⟩, ?_⟩
   simp only [dot]; omega
  ·have hM' : M ∈ ls := by
    rcases List.mem_cons.1 hM with h | h
    ·exact absurd h e
    ·exact h
   obtain ⟨a, b, rfl⟩ := List.append_of_mem hM'
   have hlM := hmax l (by simp)
   have hsw := dot_swap w M l hlM ws a b hl' hs'.1
   obtain ⟨r, r1, r2, r3⟩ := rearr ws (a ++ l :: b) (by simp at hl' ⊢; omega) hs'.2
   have hperm : (M :: (a ++ l :: b)).Perm (l :: (a ++ M :: b)) := by
    have p1 : (a ++ l :: b).Perm (l :: (a ++ b)) := List.perm_middle
    have p2 : (a ++ M :: b).Perm (M :: (a ++ b)) := List.perm_middle
    exact ((p1.cons M).trans (List.Perm.swap l M (a ++ b))).trans (p2.symm.cons l)
   refine ⟨M :: r, (r1.cons M).trans hperm, List.pairwise_cons.2 ⟨fun x hx => hmax x ?_, r2⟩, ?_⟩
   ·exact hperm.subset (List.mem_cons_of_mem _ (r1.subset hx))
   ·simp only [dot]; omega
theorem desc_cut (D : Nat) : ∀ ls : List Nat, ls.Pairwise (fun x y => y ≤ x) → (∀ l ∈ ls, l ≤ D) → ∃ (k : Nat) (r : List Nat), ls = List.replicate k D ++ r ∧ ∀ l ∈ r, l < D
 | [], _, _ => ⟨0, [], rfl, by simp⟩
 | l :: ls, h, hD => by
  have h' := List.pairwise_cons.1 h
  by_cases e : l = D
  ·subst e
   obtain ⟨k, r, h1, h2⟩ := desc_cut l ls h'.2 (fun x hx => hD x (by simp [hx]))
   exact ⟨k + 1, r, by rw [List.replicate_succ, List.cons_append, ← h1], h2⟩
  ·have hl := hD l (by simp)
   exact ⟨0, l :: ls, rfl, fun x hx => by
    rcases List.mem_cons.1 hx with rfl | hx
    ·omega
    ·have := h'.1 x hx; omega⟩
def ks (m D : Nat) (ls : List Nat) : Nat := sN (ls.map fun l => m ^ (D - l))
theorem ks_append (m D : Nat) (a b : List Nat) : ks m D (a ++ b) = ks m D a + ks m D b := by unfold ks; rw [List.map_append, sN_append]
theorem ks_cons (m D l : Nat) (b : List Nat) : ks m D (l :: b) = m ^ (D - l) + ks m D b := rfl
theorem ks_rep (m D : Nat) : ∀ k, ks m D (List.replicate k D) = k
 | 0 => rfl
 | k + 1 => by rw [List.replicate_succ, ks_cons, ks_rep m D k, Nat.sub_self, Nat.pow_zero]; omega
theorem ks_perm (m D : Nat) {a b : List Nat} (h : a.Perm b) : ks m D a = ks m D b := sN_perm (h.map _)
theorem ks_up (m D : Nat) : ∀ r : List Nat, (∀ l ∈ r, l < D + 1) → ks m (D + 1) r = m * ks m D r
 | [], _ => by simp [ks, sN]
 | l :: r, h => by
  have h1 := h l (by simp)
  have ih := ks_up m D r (fun x hx => h x (by simp [hx]))
  rw [ks_cons, ks_cons, ih, Nat.mul_add, show D + 1 - l = (D - l) + 1 by omega, Nat.pow_succ, Nat.mul_comm m (m ^ (D - l))]
theorem pow3_odd : ∀ n : Nat, 3 ^ n % 2 = 1
 | 0 => rfl
 | n + 1 => by have := pow3_odd n; rw [Nat.pow_succ]; omega
theorem ks_odd (D : Nat) : ∀ r : List Nat, ks 3 D r % 2 = r.length % 2
 | [] => rfl
 | l :: r => by
  have h1 := pow3_odd (D - l)
  have ih := ks_odd D r
  rw [ks_cons, List.length_cons]; omega
theorem least_step (m t : Nat) (ws : List Int) (hs : ws.Pairwise (fun x y => x ≤ y)) (h0 : ∀ w ∈ ws, 0 ≤ w) (h2 : 2 ≤ ws.length) (ht : TakeOk m t ws.length) : ∀ (N D : Nat) (ls : List Nat), D + sN ls ≤ N → ls.length = ws.length → (∀ l ∈ ls, l ≤ D) → ks m D ls ≤ m ^ D →
  ∃ (E : Nat) (r : List Nat), r.length = (ws.drop t).length ∧ (∀ l ∈ r, l ≤ E + 1) ∧ ks m (E + 1) r + m ≤ m ^ (E + 1) ∧ (E : Int) * sI (ws.take t) + dot (ws.drop t) r + sI (ws.take t) ≤ dot ws ls := by
 intro N
 induction N with
 | zero =>
  intro D ls hN hl hD hk
  exfalso
  have hD0 : D = 0 := by omega
  subst hD0
  have : ks m 0 ls = ls.length := by
   have : ls = List.replicate ls.length 0 := List.eq_replicate_iff.2 ⟨rfl, fun l hl => by have := hD l hl; omega⟩
   rw [this, ks_rep, List.length_replicate]
  rw [this, Nat.pow_zero] at hk
  omega
 | succ N ih =>
  intro D ls hN hl hD hk
  obtain ⟨l1, p1, p2, p3⟩ := rearr ws ls hl hs
  have hl1 : l1.length = ws.length := by rw [p1.length_eq]; exact hl
  have hD1 : ∀ l ∈ l1, l ≤ D := fun l h => hD l (p1.subset h)
  rw [← ks_perm m D p1] at hk
  rw [← sN_perm p1] at hN
  obtain ⟨k, r, rfl, hr⟩ := desc_cut D l1 p2 hD1
  rw [ks_append, ks_rep] at hk
  have hlen : k + r.length = ws.length := by rw [← hl1]; simp
  cases D with
  | zero =>
   exfalso
   have : r = [] := by
    cases r with
    | nil => rfl
    | cons x r => have := hr x (by simp); omega
   subst this
   simp [ks, sN] at hk hlen
   omega
  | succ D =>
   have hup := ks_up m D r hr
   rw [hup] at hk
   have hpow : m ^ (D + 1) = m * m ^ D := by rw [Nat.pow_succ, Nat.mul_comm]
   rw [hpow] at hk
   have hm : 2 ≤ m ∧ m ≤ 3 := by rcases ht with ⟨a, b⟩ | ⟨a, b⟩ <;> omega
   have htk : 2 ≤ t ∧ t ≤ m := by rcases ht with ⟨a, b⟩ | ⟨a, ⟨b, c⟩ | ⟨b, c⟩⟩ <;> omega
   by_cases hk0 : k = 0
   ·subst hk0
    simp only [List.replicate_zero, List.nil_append] at *
    have hk' : ks m D r ≤ m ^ D := by
     rw [Nat.zero_add] at hk
     exact Nat.le_of_mul_le_mul_left hk oo
    rcases ih D r oo hl1 (fun l h => by have := hr l h; omega) hk' with ⟨E, q, c1, c2, c3, c4⟩
    exact ⟨E, q, c1, c2, c3, by omega⟩
   ·obtain ⟨A, hA⟩ : ∃ A, A = ks m D r := ⟨_, rfl⟩
    obtain ⟨B, hB⟩ : ∃ B, B = m ^ D := ⟨_, rfl⟩
    have hodd : m = 3 → (A % 2 = r.length % 2 ∧ B % 2 = 1) := fun e => by subst e; exact ⟨by rw [hA]; exact ks_odd D r, by rw [hB]; exact pow3_odd D⟩
    rw [← hA, ← hB] at hk
    by_cases hkt : k < t
    ·-- one of the longest is shortened
     obtain ⟨k', rfl⟩ : ∃ k', k = k' + 1 := ⟨k - 1, by omega⟩
     have hk2 : k' + m + m * A ≤ m * B := by
      rcases ht with ⟨a, b⟩ | ⟨a, ⟨b, c⟩ | ⟨b, c⟩⟩
      ·subst a; subst b; omega
      ·subst a; subst b; have := hodd rfl; omega
      ·subst a; subst b; have := hodd rfl; omega
     have e1 : List.replicate (k' + 1) (D + 1) ++ r = List.replicate k' (D + 1) ++ (D + 1) :: r := by
      rw [List.replicate_succ', List.append_assoc]; rfl
     have hks : ks m (D + 1) (List.replicate k' (D + 1) ++ D :: r) ≤ m ^ (D + 1) := by
      rw [ks_append, ks_rep, ks_cons, hup, ← hA, hpow, ← hB, show D + 1 - D = 1 by omega, Nat.pow_one]
      omega
     rw [e1] at hN p3
     have hsn : D + 1 + sN (List.replicate k' (D + 1) ++ D :: r) ≤ N := by
      rw [sN_append] at hN ⊢
      simp only [sN] at hN ⊢
      omega
     have hcost : dot ws (List.replicate k' (D + 1) ++ D :: r) ≤ dot ws (List.replicate k' (D + 1) ++ (D + 1) :: r) := by
      obtain ⟨w1, w2, hw, hw1⟩ : ∃ w1 w2, ws = w1 ++ w2 ∧ w1.length = k' := ⟨ws.take k', ws.drop k', (List.take_append_drop _ _).symm, by rw [List.length_take]; omega⟩
      have hne : w2 ≠ [] := by
       rintro rfl
       rw [hw, List.append_nil] at hlen
       omega
      obtain ⟨v, w3, rfl⟩ := List.exists_cons_of_ne_nil hne
      have hv := h0 v (by rw [hw]; simp)
      rw [hw, dot_append _ _ _ _ (by simp [hw1]), dot_append _ _ _ _ (by simp [hw1])]
      simp only [dot]
      have e : ((D + 1 : Nat) : Int) * v = (D : Int) * v + v := by rw [Int.natCast_add, Int.add_mul]; simp
      omega
     rcases ih (D + 1) (List.replicate k' (D + 1) ++ D :: r) hsn (by simp at hlen ⊢; omega) (fun l h => by
       rcases List.mem_append.1 h with h | h
       ·rw [(List.mem_replicate.1 h).2]; exact Nat.le_refl _
       ·rcases List.mem_cons.1 h with rfl | h
        ·omega
        ·have := hr l h; omega) hks with ⟨E, q, c1, c2, c3, c4⟩
     exact ⟨E, q, c1, c2, c3, by omega⟩
    ·-- the least ones are merged
     refine ⟨D, List.replicate (k - t) (D + 1) ++ r, ?_, fun l h => ?_, ?_, ?_⟩
     ·rw [List.length_append, List.length_replicate, List.length_drop]; omega
     ·rcases List.mem_append.1 h with h | h
      ·rw [(List.mem_replicate.1 h).2]; exact Nat.le_refl _
      ·have := hr l h; omega
     ·rw [ks_append, ks_rep, hup, ← hA, hpow, ← hB]
      rcases ht with ⟨a, b⟩ | ⟨a, ⟨b, c⟩ | ⟨b, c⟩⟩
      ·subst a; subst b; omega
      ·subst a; subst b; have := hodd rfl; omega
      ·subst a; subst b; omega
     ·have e1 : List.replicate k (D + 1) ++ r = List.replicate t (D + 1) ++ (List.replicate (k - t) (D + 1) ++ r) := by
       rw [← List.append_assoc, List.replicate_append_replicate, show t + (k - t) = k by omega]
      have htw : (ws.take t).length = t := by rw [List.length_take]; omega
      have e2 : dot ws (List.replicate k (D + 1) ++ r) = ((D + 1 : Nat) : Int) * sI (ws.take t) + dot (ws.drop t) (List.replicate (k - t) (D + 1) ++ r) := by
       rw [e1]
       conv => lhs; rw [← List.take_append_drop t ws]
       rw [dot_append _ _ _ _ (by rw [htw, List.length_replicate])]
       have := dot_rep (D + 1) (ws.take t)
       rw [htw] at this
       rw [this]
      rw [e2] at p3
      have e : ((D + 1 : Nat) : Int) * sI (ws.take t) = (D : Int) * sI (ws.take t) + sI (ws.take t) := by rw [Int.natCast_add, Int.add_mul]; simp
      omega
theorem sI_ge (b : Int) : ∀ l : List Int, (∀ x ∈ l, b ≤ x) → b * (l.length : Int) ≤ sI l
 | [], _ => by simp [sI]
 | x :: t, h => by
  have h1 := h x (by simp)
  have h2 := sI_ge b t (fun y hy => h y (by simp [hy]))
  simp only [sI, List.length_cons]
  have e : b * ((t.length + 1 : Nat) : Int) = b * (t.length : Int) + b := by rw [Int.natCast_add, Int.mul_add]; simp
  omega
theorem sI_mem {l : List Int} (h0 : ∀ x ∈ l, 0 ≤ x) {x : Int} (h : x ∈ l) : x ≤ sI l := by
 obtain ⟨a, b, rfl⟩ := List.append_of_mem h
 rw [sI_append]
 have h1 := sI_nonneg a (fun y hy => h0 y (by simp [hy]))
 have h2 := sI_nonneg b (fun y hy => h0 y (by simp [hy]))
 simp only [sI]; omega
theorem next_sum (list : List Int) (take many : Nat) (hu : list.Pairwise (fun x y => x ≤ y)) (h0 : ∀ x ∈ list, 0 ≤ x) (h1 : 1 ≤ take ∧ take ≤ list.length ∧ take ≤ many) (h2 : many ≤ (sortI (list.drop take ++ [sI (list.take take)])).length) : sI (list.take take) ≤ sI ((sortI (list.drop take ++ [sI (list.take take)])).take many) := by
 obtain ⟨S, hS⟩ : ∃ S, S = sI (list.take take) := ⟨_, rfl⟩
 rw [← hS] at h2 ⊢
 have hx1 : ∀ x ∈ list.take take, 0 ≤ x := fun x h => h0 x (List.mem_of_mem_take h)
 have hS0 : 0 ≤ S := hS ▸ sI_nonneg _ hx1
 have hmem : ∀ y ∈ (sortI (list.drop take ++ [S])).take many, y ∈ list.drop take ∨ y = S := fun y hy => by
  have := (sortI_perm _).subset (List.mem_of_mem_take hy)
  rcases List.mem_append.1 this with h | h
  ·exact Or.inl h
  ·exact Or.inr (by simpa using h)
 have hn : ∀ y ∈ (sortI (list.drop take ++ [S])).take many, 0 ≤ y := fun y hy => by
  rcases hmem y hy with h | h
  ·exact h0 y (List.mem_of_mem_drop h)
  ·omega
 by_cases c : S ∈ (sortI (list.drop take ++ [S])).take many
 ·exact sI_mem hn c
 ·have hlt : take - 1 < list.length := by omega
  obtain ⟨mx, hmx⟩ : ∃ mx, mx = list[take - 1] := ⟨_, rfl⟩
  have hmx0 : 0 ≤ mx := hmx ▸ h0 _ (List.getElem_mem hlt)
  have up : ∀ x ∈ list.take take, x ≤ mx := fun x hx => by
   obtain ⟨i, hi, rfl⟩ := List.getElem_of_mem hx
   rw [List.length_take] at hi
   rw [List.getElem_take, hmx]
   by_cases e : i = take - 1
   ·subst e; exact Int.le_refl _
   ·exact List.pairwise_iff_getElem.1 hu i (take - 1) oo hlt oo
  have dn : ∀ x ∈ (sortI (list.drop take ++ [S])).take many, mx ≤ x := fun x hx => by
   rcases hmem x hx with h | h
   ·obtain ⟨i, hi, rfl⟩ := List.getElem_of_mem h
    rw [List.length_drop] at hi
    rw [List.getElem_drop, hmx]
    exact List.pairwise_iff_getElem.1 hu (take - 1) (take + i) hlt oo oo
   ·subst h; exact absurd hx c
  have a := sI_le mx _ up
  have b := sI_ge mx _ dn
  have la : (list.take take).length = take := by rw [List.length_take]; omega
  have lb : ((sortI (list.drop take ++ [S])).take many).length = many := by rw [List.length_take]; omega
  rw [la] at a
  rw [lb] at b
  have d : mx * (take : Int) ≤ mx * (many : Int) := Int.mul_le_mul_of_nonneg_left oo hmx0
  omega
theorem merge_least (many : Nat) : ∀ (n : Nat) (list out : List Int) (take : Nat), 1 ≤ list.length → list.length ≤ n → list.length ≤ 12 → out.length + list.length ≤ 12 → list.Pairwise (fun x y => x ≤ y) → TakeOk many take list.length → (∀ x ∈ list, 0 ≤ x) → sI list ≤ 10000 →
  ∃ cs : List Int, Ev (fun k => impl_mergeRun.l0 k many list out take) (out ++ cs) ∧ cs.length + 1 ≤ list.length ∧ (∀ x ∈ cs, 0 ≤ x ∧ x ≤ 10000) ∧ cs.Pairwise (fun x y => x ≤ y) ∧ (list.length = 1 → cs = []) ∧ (2 ≤ list.length → ∃ tl, cs = sI (list.take take) :: tl) ∧ (2 ≤ list.length → ∃ a, cs = a ++ [sI list]) ∧ (∀ (D : Nat) (ls : List Nat), ls.length = list.length → (∀ l ∈ ls, l ≤ D) → ks many D ls ≤ many ^ D → sI cs ≤ dot list ls)
 | 0, list, out, take, h0, hn, hl, ho, hu, ht, hx, hs => by omega
 | n + 1, list, out, take, h0, hn, hl, ho, hu, ht, hx, hs => by
  by_cases h1 : 1 < list.length
  ·have htk : 2 ≤ take ∧ take ≤ list.length ∧ take ≤ many := by
    rcases ht with ⟨a, b⟩ | ⟨a, ⟨b, c⟩ | ⟨b, c⟩⟩ <;> omega
   have hdt : sI list = sI (list.take take) + sI (list.drop take) := by rw [← sI_append, List.take_append_drop]
   have hx1 : ∀ x ∈ list.take take, 0 ≤ x := fun x h => hx x (List.mem_of_mem_take h)
   have hx2 : ∀ x ∈ list.drop take, 0 ≤ x := fun x h => hx x (List.mem_of_mem_drop h)
   have hn1 := sI_nonneg _ hx1
   have hn2 := sI_nonneg _ hx2
   have hS0 : sumW (list.take take) 0 = sI (list.take take) := by rw [sumW_sI _ 0 hx1 oo oo]; omega
   have hnext := next_sum list take many hu hx ⟨by omega, htk.2.1, htk.2.2⟩
   have hstep := least_step many take list hu hx oo ht
   obtain ⟨S, hS⟩ : ∃ S, S = sI (list.take take) := ⟨_, rfl⟩
   rw [← hS] at hnext
   have hlen : (sortI (list.drop take ++ [S])).length = list.length - take + 1 := by rw [sortI_len]; simp
   have htk' : TakeOk many many (list.length - take + 1) := by
    rcases ht with ⟨a, b⟩ | ⟨a, ⟨b, c⟩ | ⟨b, c⟩⟩
    ·exact Or.inl ⟨a, by omega⟩
    ·exact Or.inr ⟨a, Or.inr ⟨a, by omega⟩⟩
    ·exact Or.inr ⟨a, Or.inr ⟨a, by omega⟩⟩
   have hx' : ∀ x ∈ sortI (list.drop take ++ [S]), 0 ≤ x := fun x h => by
    have h := (sortI_perm _).subset h
    rcases List.mem_append.1 h with h | h
    ·exact hx2 x h
    ·rw [List.mem_singleton] at h; omega
   have hsum : sI (sortI (list.drop take ++ [S])) = sI list := by
    rw [sI_perm (sortI_perm _), sI_append]
    simp only [sI, Int.add_zero]
    omega
   obtain ⟨cs, r2, r5, r4, r7, r8, r9, r10, r11⟩ := merge_least many n (sortI (list.drop take ++ [S])) (out ++ [S]) many oo oo oo (by simp; omega) (sortI_up _) (by rw [hlen]; exact htk') hx' oo
   rw [List.append_assoc] at r2
   refine ⟨S :: cs, Ev.succ ?_, by simp only [List.length_cons]; omega, ?_, ?_, by omega, fun _ => ⟨cs, by rw [hS]⟩, fun _ => ?_, ?_⟩
   ·simp only [impl_mergeRun.l0]
    rw [hS, ← hS0] at r2
    rw [hS, ← hS0]
    exact Ev.pos h1 (Ev.pos oo r2)
   ·intro x h
    rcases List.mem_cons.1 h with rfl | h
    ·omega
    ·exact r4 x h
   ·refine List.pairwise_cons.2 ⟨fun x hx => ?_, r7⟩
    by_cases c : (sortI (list.drop take ++ [S])).length = 1
    ·rw [r8 c] at hx; cases hx
    ·have c2 : 2 ≤ (sortI (list.drop take ++ [S])).length := by omega
     have hm2 : many ≤ (sortI (list.drop take ++ [S])).length := by
      rcases htk' with ⟨a, b⟩ | ⟨a, ⟨b, c⟩ | ⟨b, c⟩⟩ <;> omega
     have hS' := hnext hm2
     obtain ⟨tl, rfl⟩ := r9 c2
     rcases List.mem_cons.1 hx with rfl | hx
     ·exact hS'
     ·exact Int.le_trans hS' ((List.pairwise_cons.1 r7).1 x hx)
   ·by_cases c : (sortI (list.drop take ++ [S])).length = 1
    ·rw [r8 c]
     refine ⟨[], ?_⟩
     have hd : list.drop take = [] := by
      rw [← List.length_eq_zero_iff, List.length_drop]; omega
     have e1 : sI (list.drop take) = 0 := by rw [hd]; rfl
     rw [show sI list = S by omega]; rfl
    ·obtain ⟨a, ha⟩ := r10 oo
     exact ⟨S :: a, by rw [ha, hsum]; rfl⟩
   ·intro D ls hl1 hl2 hl3
    obtain ⟨E, q, c1, c2, c3, c4⟩ := hstep (D + sN ls) D ls (Nat.le_refl _) hl1 hl2 hl3
    rw [← hS] at c4
    have hzl : (list.drop take).length = q.length := c1.symm
    obtain ⟨ps, hp1, hp2⟩ := perm_lift (sortI_perm (list.drop take ++ [S])).symm ((list.drop take).zip q ++ [(S, E)]) (by
     rw [List.map_append, List.map_fst_zip oo]; rfl)
    have e1 : (ps.map Prod.snd).Perm (q ++ [E]) := by
     have := (hp1.map Prod.snd).symm
     rw [List.map_append, List.map_snd_zip oo] at this
     exact this
    have hc := r11 (E + 1) (ps.map Prod.snd) (by rw [List.length_map, ← hp2, List.length_map]) (fun l hl => by
      rcases List.mem_append.1 (e1.subset hl) with h | h
      ·exact c2 l h
      ·rw [List.mem_singleton] at h; omega) (by
      rw [ks_perm many (E + 1) e1, ks_append]
      have : ks many (E + 1) [E] = many := by rw [ks_cons, show E + 1 - E = 1 by omega, Nat.pow_one]; rfl
      omega)
    have e2 : dot (sortI (list.drop take ++ [S])) (ps.map Prod.snd) = (E : Int) * S + dot (list.drop take) q := by
     rw [← hp2, ← dot_pairs, ← sI_perm (hp1.map _), List.map_append, sI_append, ← dot_zip _ _ c1]
     simp only [List.map_cons, List.map_nil, sI]
     omega
    rw [e2] at hc
    simp only [sI]
    omega
  ·refine ⟨[], Ev.succ ?_, by simp; omega, by simp, by simp, fun _ => rfl, fun h => by omega, fun h => by omega, fun D ls hl1 hl2 hl3 => ?_⟩
   ·simp only [impl_mergeRun.l0]; exact Ev.neg oo (Ev.pure (by simp))
   ·match list, ls, h0, h1, hl1, hx with
    | [x], [l], _, _, _, hx =>
     have := hx x (by simp)
     simp only [sI, dot, Int.add_zero]
     exact Int.mul_nonneg oo this
    | x :: y :: t, _, _, h1, _, _ => exact absurd (show 1 < (x :: y :: t).length by simp) h1
theorem ev_one {α : Type} {g : Nat → Option α} {a b : α} (h1 : Ev g a) (h2 : Ev g b) : a = b := by
 obtain ⟨n, hn⟩ := h1
 obtain ⟨m, hm⟩ := h2
 have e1 := hn (max n m) (Nat.le_max_left _ _)
 have e2 := hm (max n m) (Nat.le_max_right _ _)
 exact Option.some.inj (e1.symm.trans e2)
theorem best_run (l : List Int) (m : Nat) (h1 : 1 ≤ l.length) (hl : l.length ≤ 12) (hm : 2 ≤ m ∧ m ≤ 3) (hx : ∀ x ∈ l, 1 ≤ x ∧ x ≤ 100) : ∃ (r : List Int) (B : Int), Ev (fun k => impl_mergeRun.f k l (m : Int)) r ∧ Ev (fun k => impl_bestCost.f k l (m : Int)) B ∧ r.length + 1 ≤ l.length ∧ r.Pairwise (fun x y => x ≤ y) ∧ (∀ x ∈ r, 0 ≤ x ∧ x ≤ 10000) ∧ (l.length = 1 → r = [] ∧ B = sI l) ∧ (2 ≤ l.length → B = sI r ∧ ∃ a, r = a ++ [sI l]) ∧ ∀ ls : List Nat, ls.length = l.length → (∀ x ∈ ls, 1 ≤ x ∧ x ≤ 11) → ks m 11 ls ≤ m ^ 11 → B ≤ dot l ls := by
 obtain ⟨t, ht⟩ : ∃ t : Nat, t = if (m : Int) = 3 ∧ l.length % 2 = 0 then 2 else m := ⟨_, rfl⟩
 have hlen := sortI_len l
 have htk : TakeOk m t (sortI l).length := by
  rw [hlen, ht]
  unfold TakeOk
  by_cases c : (m : Int) = 3 ∧ l.length % 2 = 0
  ·rw [if_pos c]; omega
  ·rw [if_neg c]; omega
 have hsl : sI (sortI l) = sI l := sI_perm (sortI_perm l)
 have hsum : sI (sortI l) ≤ 10000 := by
  rw [hsl]
  have := sI_le 100 l (fun x h => (hx x h).2)
  omega
 obtain ⟨r, r2, r5, r4, r7, r8, r9, r10, r11⟩ := merge_least m 12 (sortI l) [] t oo oo oo (by simp; omega) (sortI_up l) htk (fun x h => by have := hx x ((sortI_perm l).subset h); omega) hsum
 rw [List.nil_append] at r2
 rw [hlen] at r5 r8 r10
 have hrun : Ev (fun k => impl_mergeRun.f k l (m : Int)) r := by
  unfold impl_mergeRun.f
  rw [Int.toNat_natCast, ← ht]
  exact Ev.pos oo r2
 by_cases e : l.length = 1
 ·obtain rfl := r8 e
  match l, e with
  | [x], _ =>
   have e0 : rd [x] 0 = x := by simp [rd]
   have hx0 := hx x (by simp)
   refine ⟨[], x, hrun, ?_, by simp, by simp, by simp, fun _ => ⟨rfl, by simp [sI]⟩, fun h => by simp at h, fun ls h h' _ => ?_⟩
   ·unfold impl_bestCost.f
    exact Ev.pos (by simp) (Ev.pos (by simp) (Ev.pure e0))
   ·match ls, h with
    | [y], _ =>
     have hy := h' y (by simp)
     simp only [dot, Int.add_zero]
     have : 1 * x ≤ (y : Int) * x := Int.mul_le_mul_of_nonneg_right oo oo
     omega
 ·have hb := sI_le 10000 r (fun x h => (r4 x h).2)
  have hb0 := sI_nonneg r (fun x h => (r4 x h).1)
  obtain ⟨-, s2⟩ := bestSum2 r oo r4 r.length 0 0 oo oo (by rw [List.drop_zero]; omega)
  rw [List.drop_zero, Int.zero_add] at s2
  refine ⟨r, sI r, hrun, ?_, r5, r7, r4, fun h => absurd h e, fun h => ⟨rfl, ?_⟩, fun ls h h' hk => ?_⟩
  ·unfold impl_bestCost.f
   exact Ev.neg oo (Ev.bind hrun s2)
  ·obtain ⟨a, ha⟩ := r10 h
   exact ⟨a, by rw [ha, hsl]⟩
  ·obtain ⟨ps, hp1, hp2⟩ := perm_lift (sortI_perm l).symm (l.zip ls) (List.map_fst_zip oo)
   have e1 : (ps.map Prod.snd).Perm ls := by
    have := (hp1.map Prod.snd).symm
    rw [List.map_snd_zip oo] at this
    exact this
   have := r11 11 (ps.map Prod.snd) (by rw [List.length_map, ← hp2, List.length_map]) (fun x hx => (h' x (e1.subset hx)).2) (by rw [ks_perm m 11 e1]; exact hk)
   have e2 : dot (sortI l) (ps.map Prod.snd) = dot l ls := by
    rw [← hp2, ← dot_pairs, ← sI_perm (hp1.map _), ← dot_zip _ _ h]
   rw [e2] at this
   exact this
theorem wrapU63 (n : Int) (h0 : 0 ≤ n) (h1 : n < 2 ^ 63) : IntKind.u64.wrap n = n := by rw [IntKind.wrap_u64]; omega
def OkL (l : List Int) : Prop := ∀ x ∈ l, 0 ≤ x ∧ x < 256
theorem okL_of {l : List Int} (h : ∀ x ∈ l, (Lit.int .u8 x).wf = true) : OkL l := fun x hx => by
 have h1 := h x hx
 have h2 : (decide (IntKind.u8.min ≤ x) && decide (x ≤ IntKind.u8.max)) = true := h1
 have e1 : IntKind.u8.min = 0 := by decide
 have e2 : IntKind.u8.max = 255 := by decide
 rw [e1, e2, Bool.and_eq_true, decide_eq_true_eq, decide_eq_true_eq] at h2
 omega
theorem rd_ok {l : List Int} (h : OkL l) (i : Int) : 0 ≤ rd l i ∧ rd l i < 256 := by
 unfold rd
 rw [List.getD_eq_getElem?_getD]
 cases e : l[i.toNat]? with
 | none => simp
 | some x => exact h x (List.mem_of_getElem? e)
theorem byte_of_seed (y : Int) : 0 ≤ wrap64 (Go.bits .and .u64 (IntKind.u64.wrap y / 1099511627776) 255) ∧ wrap64 (Go.bits .and .u64 (IntKind.u64.wrap y / 1099511627776) 255) < 256 := by
 have h1 : 0 ≤ IntKind.u64.wrap y ∧ IntKind.u64.wrap y < 18446744073709551616 := by rw [IntKind.wrap_u64]; omega
 generalize IntKind.u64.wrap y = z at h1
 obtain ⟨h1, h2⟩ := h1
 have h := bits_mask .u64 63 (by decide) wrapU63 8 (by decide) (z / 1099511627776) oo oo
 have e : ((2 : Int) ^ 8 - 1) = 255 := by decide
 have e2 : ((2 : Int) ^ 8) = 256 := by decide
 rw [e, e2] at h
 rw [h, w64 oo oo]
 omega
theorem next_ev {l : List Int} (hl : OkL l) (at0 sd : Int) (h0 : 0 ≤ at0) (h1 : at0 ≤ 4611686018427387904) : ∃ x sd', spec_l1Cur_next.f l at0 sd = some (x, at0 + 1, sd') ∧ 0 ≤ x ∧ x < 256 := by
 have hr := rd_ok hl at0
 have e : Aside0 (wrap64 (at0 + 1) = at0 + 1) := ⟨w64 oo oo⟩
 have e2 : Aside0 (wrap64 (rd l at0) = rd l at0) := ⟨w64 oo oo⟩
 unfold spec_l1Cur_next.f
 rw [e.out, e2.out]
 by_cases c1 : at0 < (l.length : Int)
 ·rw [if_pos c1, if_pos h0, if_pos oo]
  exact ⟨_, _, rfl, hr.1, hr.2⟩
 ·rw [if_neg c1]
  by_cases c2 : at0 + 1 ≤ (l.length : Int)
  ·rw [if_pos c2]; exact ⟨_, _, rfl, by omega, by omega⟩
  ·rw [if_neg c2]; exact ⟨_, _, rfl, (byte_of_seed _).1, (byte_of_seed _).2⟩
theorem pick_ev {l : List Int} (hl : OkL l) (at0 sd n : Int) (h0 : 0 ≤ at0) (h1 : at0 ≤ 2305843009213693952) : ∃ x at' sd', spec_l1Cur_pick.f l at0 sd n = some (x, at', sd') ∧ 0 ≤ x ∧ (1 ≤ n → x < n) ∧ at0 ≤ at' ∧ at' ≤ at0 + 2 := by
 unfold spec_l1Cur_pick.f
 by_cases c1 : n ≤ 1
 ·rw [if_pos c1]; exact ⟨_, _, _, rfl, by omega, by omega, by omega, by omega⟩
 ·rw [if_neg c1]
  obtain ⟨x, s1, e1, hx, hx2⟩ := next_ev hl at0 sd h0 oo
  rw [e1]
  simp only [Option.bind_some]
  by_cases c2 : n > 200
  ·rw [if_pos c2]
   obtain ⟨y, s2, e2, hy, hy2⟩ := next_ev hl (at0 + 1) s1 oo oo
   rw [e2]
   simp only [Option.bind_some]
   rw [if_neg oo]
   have e3 : Aside0 (wrap64 (wrap64 (x * 256) + y) = x * 256 + y) := ⟨by rw [w64 (i := x * 256) oo oo, w64 oo oo]⟩
   rw [e3.out]
   exact ⟨_, _, _, rfl, Int.tmod_nonneg _ oo, fun _ => Int.tmod_lt_of_pos _ oo, by omega, by omega⟩
  ·rw [if_neg c2, if_neg oo]
   exact ⟨_, _, _, rfl, Int.tmod_nonneg _ oo, fun _ => Int.tmod_lt_of_pos _ oo, by omega, by omega⟩
theorem one_ev {l : List Int} (hl : OkL l) (at0 sd n : Int) (h0 : 0 ≤ at0) (h1 : at0 ≤ 2305843009213693952) : ∃ b at' sd', spec_l1Cur_one.f l at0 sd n = some (b, at', sd') ∧ at0 ≤ at' ∧ at' ≤ at0 + 2 := by
 obtain ⟨x, at', s', e, -, -, h2, h3⟩ := pick_ev hl at0 sd n h0 h1
 unfold spec_l1Cur_one.f
 rw [e]
 exact ⟨_, _, _, rfl, h2, h3⟩
theorem among_ev {l : List Int} (hl : OkL l) (at0 sd : Int) (list : List Int) (hn : 1 ≤ list.length) (hs : list.length ≤ 1000) (h0 : 0 ≤ at0) (h1 : at0 ≤ 2305843009213693952) : ∃ x at' sd', spec_l1Cur_among.f l at0 sd list = some (x, at', sd') ∧ x ∈ list ∧ at0 ≤ at' ∧ at' ≤ at0 + 2 := by
 obtain ⟨i, at', sd', e, p1, p2, p3, p4⟩ := pick_ev hl at0 sd (list.length : Int) h0 h1
 obtain ⟨j, rfl⟩ := Int.eq_ofNat_of_zero_le p1
 have hj : j < list.length := by have := p2 oo; omega
 refine ⟨list[j], at', sd', ?_, List.getElem_mem hj, p3, p4⟩
 unfold spec_l1Cur_among.f
 rw [e, Option.bind_some, if_pos oo, if_pos oo, rd_nat list j hj]
theorem weights_l1 {l : List Int} (hl : OkL l) : ∀ (d : Nat) (x : List Int) (at0 sd : Int), x.length + d = 14 → 0 ≤ at0 → at0 + 2 * (d : Int) ≤ 1152921504606846000 → ∃ r at' sd', Ev (fun k => spec_l1Cur_weights.l1 k x l at0 sd) (r, at', sd') ∧ r.length ≤ 14 ∧ at0 ≤ at' ∧ at' ≤ at0 + 2 * d + 2
 | 0, x, at0, sd, hx, h0, h1 => by
  obtain ⟨i, at', sd', e, p1, p2, p3, p4⟩ := pick_ev hl at0 sd 2 h0 oo
  have hi := p2 oo
  refine ⟨x, at', sd', Ev.succ ?_, by omega, p3, by omega⟩
  simp only [spec_l1Cur_weights.l1]
  exact Ev.known (fun _ => e) (Ev.neg (by simp only; rw [w64 oo oo]; omega) (Ev.now _))
 | d + 1, x, at0, sd, hx, h0, h1 => by
  obtain ⟨i, at', sd', e, p1, p2, p3, p4⟩ := pick_ev hl at0 sd 2 h0 oo
  have hi := p2 oo
  by_cases c : (x.length : Int) < wrap64 (12 + i)
  ·obtain ⟨r, at2, sd2, e2, q1, q2, q3⟩ := weights_l1 hl d (x ++ [1]) at' sd' (by simp; omega) oo oo
   refine ⟨r, at2, sd2, Ev.succ ?_, q1, by omega, by omega⟩
   simp only [spec_l1Cur_weights.l1]
   exact Ev.known (fun _ => e) (Ev.pos c (Ev.pos oo e2))
  ·refine ⟨x, at', sd', Ev.succ ?_, by omega, p3, by omega⟩
   simp only [spec_l1Cur_weights.l1]
   exact Ev.known (fun _ => e) (Ev.neg c (Ev.now _))
theorem weights_end {l : List Int} (hl : OkL l) (x : List Int) (kind : Int) (at0 sd : Int) (hx1 : 1 ≤ x.length) (hx : x.length ≤ 12) (h0 : 0 ≤ at0) (h1 : at0 ≤ 1152921504606845000) : ∃ r at' sd', Ev (fun k => spec_l1Cur_weights.l0 k x kind 0 l at0 sd) (r, at', sd') ∧ r.length ≤ 14 ∧ at0 ≤ at' ∧ at' ≤ at0 + 100 := by
 obtain ⟨i, at', sd', e, p1, p2, p3, p4⟩ := pick_ev hl at0 sd 18 h0 oo
 by_cases c0 : i = 0
 ·obtain ⟨j, at2, sd2, e2, q1, q2, q3, q4⟩ := pick_ev hl at' sd' (x.length : Int) oo oo
  obtain ⟨y, at3, sd3, e3, -, r1, r2⟩ := among_ev hl at2 sd2 [0, -1, 101, 4611686018427387904] (by decide) (by decide) oo oo
  have hj := q2 oo
  refine ⟨x.set j.toNat y, at3, sd3, Ev.succ ?_, by simp; omega, by omega, by omega⟩
  simp only [spec_l1Cur_weights.l0]
  exact Ev.neg oo (Ev.known (fun _ => e) (Ev.pos c0 (Ev.known (fun _ => e2) (Ev.known (fun _ => e3) (Ev.pos q1 (Ev.pos hj (Ev.now _)))))))
 ·by_cases c1 : i = 1
  ·refine ⟨[], at', sd', Ev.succ ?_, by simp, p3, by omega⟩
   simp only [spec_l1Cur_weights.l0]
   exact Ev.neg oo (Ev.known (fun _ => e) (Ev.neg c0 (Ev.pos c1 (Ev.now _))))
  ·by_cases c2 : i = 2
   ·obtain ⟨r, at2, sd2, e2, q1, q2, q3⟩ := weights_l1 hl (14 - x.length) x at' sd' oo oo oo
    refine ⟨r, at2, sd2, Ev.succ ?_, q1, by omega, by omega⟩
    simp only [spec_l1Cur_weights.l0]
    exact Ev.neg oo (Ev.known (fun _ => e) (Ev.neg c0 (Ev.neg c1 (Ev.pos c2 e2))))
   ·refine ⟨x, at', sd', Ev.succ ?_, by omega, p3, by omega⟩
    simp only [spec_l1Cur_weights.l0]
    exact Ev.neg oo (Ev.known (fun _ => e) (Ev.neg c0 (Ev.neg c1 (Ev.neg c2 (Ev.now _)))))
theorem weights_l0 {l : List Int} (hl : OkL l) (kind : Int) : ∀ (d : Nat) (x : List Int) (at0 sd : Int), x.length + d ≤ 12 → 1 ≤ x.length + d → 0 ≤ at0 → at0 + 2 * (d : Int) ≤ 1152921504606845000 → ∃ r at' sd', Ev (fun k => spec_l1Cur_weights.l0 k x kind (d : Int) l at0 sd) (r, at', sd') ∧ r.length ≤ 14 ∧ at0 ≤ at' ∧ at' ≤ at0 + 2 * d + 100
 | 0, x, at0, sd, hx, hx1, h0, h1 => by
  obtain ⟨r, at', sd', e, p1, p2, p3⟩ := weights_end hl x kind at0 sd oo oo h0 oo
  exact ⟨r, at', sd', e, p1, p2, by omega⟩
 | d + 1, x, at0, sd, hx, hx1, h0, h1 => by
  have ed : Aside0 (wrap64 (((d + 1 : Nat) : Int) - 1) = (d : Int)) := ⟨by rw [w64 oo oo]; omega⟩
  by_cases c0 : kind = 0
  ·obtain ⟨i, at', sd', e, p1, p2, p3, p4⟩ := pick_ev hl at0 sd 3 h0 oo
   obtain ⟨r, at2, sd2, e2, q1, q2, q3⟩ := weights_l0 hl kind d (x ++ [wrap64 (1 + i)]) at' sd' (by simp; omega) (by simp; omega) oo oo
   refine ⟨r, at2, sd2, Ev.succ ?_, q1, by omega, by omega⟩
   simp only [spec_l1Cur_weights.l0, ed.out]
   exact Ev.pos oo (Ev.pos c0 (Ev.known (fun _ => e) (Ev.pos oo e2)))
  ·by_cases c1 : kind = 1
   ·obtain ⟨i, at', sd', e, p1, p2, p3, p4⟩ := pick_ev hl at0 sd 6 h0 oo
    obtain ⟨r, at2, sd2, e2, q1, q2, q3⟩ := weights_l0 hl kind d (x ++ [shl .i64 1 i]) at' sd' (by simp; omega) (by simp; omega) oo oo
    refine ⟨r, at2, sd2, Ev.succ ?_, q1, by omega, by omega⟩
    simp only [spec_l1Cur_weights.l0, ed.out]
    exact Ev.pos oo (Ev.neg c0 (Ev.pos c1 (Ev.known (fun _ => e) (Ev.pos p1 (Ev.pos oo e2)))))
   ·obtain ⟨i, at', sd', e, p1, p2, p3, p4⟩ := pick_ev hl at0 sd 100 h0 oo
    obtain ⟨r, at2, sd2, e2, q1, q2, q3⟩ := weights_l0 hl kind d (x ++ [wrap64 (1 + i)]) at' sd' (by simp; omega) (by simp; omega) oo oo
    refine ⟨r, at2, sd2, Ev.succ ?_, q1, by omega, by omega⟩
    simp only [spec_l1Cur_weights.l0, ed.out]
    exact Ev.pos oo (Ev.neg c0 (Ev.neg c1 (Ev.known (fun _ => e) (Ev.pos oo e2))))
theorem weights_ev {l : List Int} (hl : OkL l) (at0 sd most : Int) (hm1 : 1 ≤ most) (hm : most ≤ 12) (h0 : 0 ≤ at0) (h1 : at0 ≤ 1152921504606844000) : ∃ r at' sd', Ev (fun k => spec_l1Cur_weights.f k l at0 sd most) (r, at', sd') ∧ r.length ≤ 14 ∧ at0 ≤ at' ∧ at' ≤ at0 + 200 := by
 obtain ⟨kind, at', sd', e, p1, p2, p3, p4⟩ := pick_ev hl at0 sd 3 h0 oo
 obtain ⟨i, at2, sd2, e2, q1, q2, q3, q4⟩ := pick_ev hl at' sd' most oo oo
 obtain ⟨n, rfl⟩ := Int.eq_ofNat_of_zero_le q1
 have hn := q2 hm1
 obtain ⟨r, at3, sd3, e3, r1, r2, r3⟩ := weights_l0 hl kind (n + 1) [] at2 sd2 (by simp; omega) (by simp) oo oo
 refine ⟨r, at3, sd3, ?_, r1, by omega, by omega⟩
 unfold spec_l1Cur_weights.f
 refine Ev.known (fun _ => e) (Ev.known (fun _ => e2) ?_)
 have ed : wrap64 (1 + (n : Int)) = ((n + 1 : Nat) : Int) := by rw [w64 oo oo]; omega
 simp only [ed]
 exact e3
theorem lengths_l0 {l : List Int} (hl : OkL l) (n : Nat) (hn : n ≤ 14) : ∀ (d i : Nat) (x : List Int) (at0 sd : Int), i + d = n → x.length = i → 0 ≤ at0 → at0 + 2 * (d : Int) ≤ 1152921504606845000 → ∃ r at' sd', Ev (fun k => spec_l1Cur_lengthsFor.l0 k x (n : Int) (i : Int) l at0 sd) (r, at', sd') ∧ r.length ≤ 14
 | 0, i, x, at0, sd, hd, hx, h0, h1 => by
  by_cases c0 : (x.length : Int) > 0
  ·obtain ⟨b, at', sd', e, p1, p2⟩ := one_ev hl at0 sd 8 h0 oo
   cases b with
   | true =>
    obtain ⟨y, at2, sd2, e2, -, q1, q2⟩ := among_ev hl at' sd' [0, 8, 11, 12, 4611686018427387904] (by decide) (by decide) oo oo
    refine ⟨x.set (0 : Int).toNat y, at2, sd2, Ev.succ ?_, by simp; omega⟩
    simp only [spec_l1Cur_lengthsFor.l0]
    exact Ev.neg oo (Ev.pos c0 (Ev.known (fun _ => e) (Ev.pos rfl (Ev.known (fun _ => e2) (Ev.pos c0 (Ev.now _))))))
   | false =>
    refine ⟨x, at', sd', Ev.succ ?_, by omega⟩
    simp only [spec_l1Cur_lengthsFor.l0]
    exact Ev.neg oo (Ev.pos c0 (Ev.known (fun _ => e) (Ev.neg (by simp) (Ev.now _))))
  ·refine ⟨x, at0, sd, Ev.succ ?_, by omega⟩
   simp only [spec_l1Cur_lengthsFor.l0]
   exact Ev.neg oo (Ev.neg c0 (Ev.now _))
 | d + 1, i, x, at0, sd, hd, hx, h0, h1 => by
  obtain ⟨y, at', sd', e, p1, p2, p3, p4⟩ := pick_ev hl at0 sd 4 h0 oo
  obtain ⟨r, at2, sd2, e2, q1⟩ := lengths_l0 hl n hn d (i + 1) (x ++ [wrap64 (1 + y)]) at' sd' oo (by simp; omega) oo oo
  refine ⟨r, at2, sd2, Ev.succ ?_, q1⟩
  simp only [spec_l1Cur_lengthsFor.l0, w1 (show 0 ≤ (i : Int) by omega) (show (i : Int) < 9223372036854775807 by omega)]
  exact Ev.pos oo (Ev.known (fun _ => e) (Ev.pos oo e2))
theorem lengthsFor_ev {l : List Int} (hl : OkL l) (at0 sd : Int) (w : List Int) (m : Int) (hw : w.length ≤ 14) (h0 : 0 ≤ at0) (h1 : at0 ≤ 1152921504606843000) : ∃ r at' sd', Ev (fun k => spec_l1Cur_lengthsFor.f k l at0 sd w m) (r, at', sd') ∧ r.length ≤ 14 := by
 have a1 := beAsked_ev w m oo
 have free : ∀ at1 sd1, 0 ≤ at1 → at1 ≤ 1152921504606844000 → ∃ r at' sd', Ev (fun k => spec_l1Cur_lengthsFor.j0 k w m false l at1 sd1) (r, at', sd') ∧ r.length ≤ 14 := fun at1 sd1 g0 g1 => by
  obtain ⟨r, at2, sd2, e, q⟩ := lengths_l0 hl w.length hw w.length 0 [] at1 sd1 oo rfl g0 oo
  refine ⟨r, at2, sd2, Ev.succ ?_, q⟩
  simp only [spec_l1Cur_lengthsFor.j0]
  exact Ev.neg (by simp) e
 unfold spec_l1Cur_lengthsFor.f
 generalize hA : ((decide (2 ≤ m ∧ m ≤ 3)) && (decide (1 ≤ (w.length : Int) ∧ (w.length : Int) ≤ 12) && w.all fun x => decide (1 ≤ x ∧ x ≤ 100))) = A at a1
 cases A with
 | false =>
  obtain ⟨r, at2, sd2, e, q⟩ := free at0 sd h0 oo
  exact ⟨r, at2, sd2, Ev.bind a1 (Ev.neg (by simp) e), q⟩
 | true =>
  simp only [Bool.and_eq_true, decide_eq_true_eq, List.all_eq_true] at hA
  by_cases h6 : (w.length : Int) ≤ 6
  ·obtain ⟨b, at1, sd1, e1, p1, p2⟩ := one_ev hl at0 sd 3 h0 oo
   cases b with
   | true =>
    obtain ⟨r, at2, sd2, e, q⟩ := free at1 sd1 oo oo
    exact ⟨r, at2, sd2, Ev.bind a1 (Ev.pos rfl (Ev.pos h6 (Ev.known (fun _ => e1) e))), q⟩
   | false =>
    obtain ⟨mn, rfl⟩ : ∃ n : Nat, m = (n : Int) := ⟨m.toNat, by omega⟩
    obtain ⟨S, hne, hlen, s1⟩ := search_spec w mn oo oo oo hA.2.2
    match S, hne, hlen, s1 with
    | a :: t, _, hlen, s1 =>
     have ha := hlen a (by simp)
     have hup : (upd [] 0 (a :: t)).1 = a := by simp [upd]
     have hown : spec_l1Own.f a = some a := l1Own_ev a oo
     obtain ⟨b2, at2, sd2, e2, q1, q2⟩ := one_ev hl at1 sd1 3 oo oo
     cases b2 with
     | false =>
      refine ⟨a, at2, sd2, Ev.bind a1 (Ev.pos rfl (Ev.pos h6 (Ev.known (fun _ => e1) (Ev.succ ?_)))), by omega⟩
      simp only [spec_l1Cur_lengthsFor.j0]
      refine Ev.pos (by simp) (Ev.bind s1 ?_)
      rw [hup]
      exact Ev.known (fun _ => hown) (Ev.known (fun _ => e2) (Ev.neg (by simp) (Ev.now _)))
     | true =>
      obtain ⟨j, at3, sd3, e3, r1, r2, r3, r4⟩ := pick_ev hl at2 sd2 (a.length : Int) oo oo
      obtain ⟨y, at4, sd4, e4, t1, t2, t3, t4⟩ := pick_ev hl at3 sd3 4 oo oo
      have hj := r2 oo
      refine ⟨a.set j.toNat (wrap64 (1 + y)), at4, sd4, Ev.bind a1 (Ev.pos rfl (Ev.pos h6 (Ev.known (fun _ => e1) (Ev.succ ?_)))), by simp; omega⟩
      simp only [spec_l1Cur_lengthsFor.j0]
      refine Ev.pos (by simp) (Ev.bind s1 ?_)
      rw [hup]
      exact Ev.known (fun _ => hown) (Ev.known (fun _ => e2) (Ev.pos rfl (Ev.known (fun _ => e3) (Ev.known (fun _ => e4) (Ev.pos r1 (Ev.pos hj (Ev.now _)))))))
  ·obtain ⟨r, at2, sd2, e, q⟩ := free at0 sd h0 oo
   exact ⟨r, at2, sd2, Ev.bind a1 (Ev.pos rfl (Ev.neg h6 e)), q⟩
theorem ySame_l0 (l : List Int) (hl : l.length ≤ 1048576) : ∀ (d i : Nat), i + d = l.length → Ev (fun k => laws_ySame.l0 k l l (l.length : Int) (i : Int)) true
 | 0, i, hd => Ev.succ (by simp only [laws_ySame.l0]; exact Ev.neg oo (Ev.now _))
 | d + 1, i, hd => by
  have ih := ySame_l0 l hl d (i + 1) oo
  refine Ev.succ ?_
  simp only [laws_ySame.l0, w1 (show 0 ≤ (i : Int) by omega) (show (i : Int) < 9223372036854775807 by omega)]
  exact Ev.pos oo (Ev.pos oo (Ev.pos oo (Ev.pos oo (Ev.pos trivial ih))))
theorem ySame_ev (l : List Int) (hl : l.length ≤ 1048576) : Ev (fun k => laws_ySame.f k l l) true := by
 unfold laws_ySame.f
 exact Ev.pos rfl (by simpa using ySame_l0 l hl l.length 0 oo)
def askB (w : List Int) (m : Int) : Bool := decide (1 ≤ (w.length : Int) ∧ (w.length : Int) ≤ 12) && w.all (fun x => decide (1 ≤ x ∧ x ≤ 100)) && decide (2 ≤ m ∧ m ≤ 3)
theorem implBest_ev (w : List Int) (m : Int) (hw : w.length ≤ 1048576) (B : Int) (h : askB w m = true → Ev (fun k => impl_bestCost.f k w m) B) : Ev (fun k => impl_BestCost.f k w m) (if askB w m = true then (B, true) else (0, false)) := by
 have a2 := impl_areWeights_ev w hw
 have a3 := areLetters_eq m
 unfold impl_BestCost.f
 unfold askB at h ⊢
 generalize (decide (1 ≤ (w.length : Int) ∧ (w.length : Int) ≤ 12) && w.all fun x => decide (1 ≤ x ∧ x ≤ 100)) = A at a2 h ⊢
 generalize decide (2 ≤ m ∧ m ≤ 3) = C at a3 h ⊢
 cases A with
 | false => exact Ev.bind a2 (Ev.neg (by simp) (Ev.now _))
 | true =>
  cases C with
  | false => exact Ev.bind a2 (Ev.pos rfl (Ev.known (fun _ => a3) (Ev.neg (by simp) (Ev.now _))))
  | true => exact Ev.bind a2 (Ev.pos rfl (Ev.known (fun _ => a3) (Ev.pos rfl (Ev.bind (h rfl) (Ev.now _)))))
theorem impl_areDeep__1_l0 (l : List Int) (hl : l.length ≤ 1048576) : ∀ (d i : Nat), i + d = l.length → ∃ r, Ev (fun k => slices_IndexFunc_int_int__at_impl_areDeep__1.l0 k l (l.length : Int) (i : Int)) r ∧ decide (r ≥ 0) = (l.drop i).any fun x => !decide (1 ≤ x ∧ x ≤ 11)
 | 0, i, hd => ⟨-1, Ev.step (f := fun _ => some (-1)) (fun k => by simp only [slices_IndexFunc_int_int__at_impl_areDeep__1.l0]; rw [if_neg oo]) (Ev.now _), by rw [List.drop_of_length_le oo]; rfl⟩
 | d + 1, i, hd => by
  have h1 : i < l.length := by omega
  obtain ⟨r, ih, hr⟩ := impl_areDeep__1_l0 l hl d (i + 1) oo
  have hs : ∀ k, slices_IndexFunc_int_int__at_impl_areDeep__1.l0 (k + 1) l (l.length : Int) (i : Int) = if (!decide (1 ≤ l[i] ∧ l[i] ≤ 11)) = true then some (i : Int) else slices_IndexFunc_int_int__at_impl_areDeep__1.l0 k l (l.length : Int) ((i + 1 : Nat) : Int) := by
   intro k
   simp only [slices_IndexFunc_int_int__at_impl_areDeep__1.l0, impl_areDeep__1.f, impl_in_eq]; rw [if_pos oo, if_pos oo, if_pos oo, w1 oo oo, rd_nat l i h1]; simp
  rw [List.drop_eq_getElem_cons h1, List.any_cons]
  by_cases h : (!decide (1 ≤ l[i] ∧ l[i] ≤ 11)) = true
  ·exact ⟨i, Ev.step hs (Ev.pos h (Ev.now _)), by rw [h]; simp⟩
  ·exact ⟨r, Ev.step hs (Ev.neg h ih), by rw [hr, Bool.eq_false_iff.mpr h, Bool.false_or]⟩
theorem impl_areDeep__1_contains (l : List Int) (hl : l.length ≤ 1048576) : Ev (fun k => slices_ContainsFunc_int_int__at_impl_areDeep__1.f k l) (l.any fun x => !decide (1 ≤ x ∧ x ≤ 11)) := by
 obtain ⟨r, h, hr⟩ := impl_areDeep__1_l0 l hl l.length 0 oo
 unfold slices_ContainsFunc_int_int__at_impl_areDeep__1.f slices_IndexFunc_int_int__at_impl_areDeep__1.f
 refine Ev.bind (by simpa using h) (Ev.pure ?_)
 simpa using hr
theorem impl_areDeep_ev (l : List Int) (hl : l.length ≤ 1048576) : Ev (fun k => impl_areDeep.f k l) (decide (1 ≤ (l.length : Int) ∧ (l.length : Int) ≤ 12) && l.all fun x => decide (1 ≤ x ∧ x ≤ 11)) := by
 unfold impl_areDeep.f
 refine Ev.known (fun n => impl_in_eq _ _ _) (Ev.cases (fun h => ?_) (fun h => ?_))
 ·refine Ev.bind (impl_areDeep__1_contains l hl) (Ev.pure ?_)
  rw [h, Bool.true_and, List.any_eq_not_all_not, Bool.not_not]; simp
 ·refine Ev.pure ?_
  rw [Bool.eq_false_iff.mpr h, Bool.false_and]
theorem beLengths_ev (l : List Int) (hl : l.length ≤ 1048576) : Ev (fun k => spec_beLengths.f k l) (decide (1 ≤ (l.length : Int) ∧ (l.length : Int) ≤ 12) && l.all fun x => decide (1 ≤ x ∧ x ≤ 11)) := by
 unfold spec_beLengths.f
 refine Ev.known (fun n => spec_in _ _ _) (Ev.cases (fun h => ?_) (fun h => ?_))
 ·exact Ev.bind (spec_all l _ _ hl) (Ev.pure (by rw [h, Bool.true_and]))
 ·exact Ev.pure (by rw [Bool.eq_false_iff.mpr h, Bool.false_and])
def wsum (s : Int) : List Int → Int
 | [] => s
 | x :: l => wsum (wrap64 (s + x)) l
theorem sumWeights_l0 (l : List Int) (hl : l.length ≤ 1048576) : ∀ (d i : Nat) (s : Int), i + d = l.length → Ev (fun k => impl_sumWeights.l0 k s l (l.length : Int) (i : Int)) (wsum s (l.drop i))
 | 0, i, s, hd => by
  refine Ev.succ ?_
  simp only [impl_sumWeights.l0]
  exact Ev.neg oo (Ev.pure (by rw [List.drop_of_length_le oo]; rfl))
 | d + 1, i, s, hd => by
  have h1 : i < l.length := by omega
  have ih := sumWeights_l0 l hl d (i + 1) (wrap64 (s + l[i])) oo
  rw [List.drop_eq_getElem_cons h1]
  refine Ev.succ ?_
  simp only [impl_sumWeights.l0, rd_nat l i h1, w1 (show 0 ≤ (i : Int) by omega) (show (i : Int) < 9223372036854775807 by omega)]
  exact Ev.pos oo (Ev.pos oo (Ev.pos oo ih))
theorem sumWeights_ev (l : List Int) (hl : l.length ≤ 1048576) : Ev (fun k => impl_sumWeights.f k l) (wsum 0 l) := by
 have h := sumWeights_l0 l hl l.length 0 0 oo
 simpa [impl_sumWeights.f] using h
theorem take_set_succ {α : Type} (l : List α) (i : Nat) (v : α) (h : i < l.length) : (l.set i v).take (i + 1) = l.take i ++ [v] := by
 rw [List.take_succ_eq_append_getElem (by simpa using h), List.take_set, List.set_eq_of_length_le (by simp; omega)]; simp
def Tab (n : Nat) (M B : List (List Int)) : Prop :=
 M.length = n ∧ B.length = n ∧ ∀ i : Nat, i < n → (rd_L2 M (i : Int)).length = n ∧ (rd_L2 B (i : Int)).length = n + 1 ∧ ∀ j : Nat, j < n → rd (rd_L2 M (i : Int)) (j : Int) = rd (rd_L2 B (i : Int)) ((j + 1 : Nat) : Int)
theorem rdL_set (M : List (List Int)) (i j : Nat) (v : List Int) (h : i < M.length) : rd_L2 (M.set i v) (j : Int) = if i = j then v else rd_L2 M (j : Int) := by
 unfold rd_L2
 simp only [Int.toNat_natCast, List.getD_eq_getElem?_getD, List.getElem?_set]
 by_cases e : i = j
 ·subst e; simp [h]
 ·simp [e]
theorem rd_set (l : List Int) (i j : Nat) (v : Int) (h : i < l.length) : rd (l.set i v) (j : Int) = if i = j then v else rd l (j : Int) := by
 unfold rd
 simp only [Int.toNat_natCast, List.getD_eq_getElem?_getD, List.getElem?_set]
 by_cases e : i = j
 ·subst e; simp [h]
 ·simp [e]
theorem Tab.put {n : Nat} {M B : List (List Int)} (h : Tab n M B) (i j : Nat) (hi : i < n) (hj : j < n) (v : Int) : Tab n (M.set i ((rd_L2 M (i : Int)).set j v)) (B.set i ((rd_L2 B (i : Int)).set (j + 1) v)) := by
 obtain ⟨h1, h2, h3⟩ := h
 refine ⟨by simpa using h1, by simpa using h2, fun i' hi' => ?_⟩
 rw [rdL_set M i i' _ oo, rdL_set B i i' _ oo]
 by_cases e : i = i'
 ·obtain ⟨a, b, c⟩ := h3 i hi
  rw [if_pos e, if_pos e]
  refine ⟨by simpa using a, by simpa using b, fun j' hj' => ?_⟩
  rw [rd_set _ j j' _ oo, rd_set _ (j + 1) (j' + 1) _ oo]
  by_cases e2 : j = j'
  ·rw [if_pos e2, if_pos oo]
  ·rw [if_neg e2, if_neg oo]; exact c j' hj'
 ·rw [if_neg e, if_neg e]; exact h3 i' hi'
theorem Tab.start (n : Nat) : Tab n (List.replicate n (List.replicate n 0)) (List.replicate n (List.replicate (n + 1) 0)) := by
 refine ⟨by simp, by simp, fun i hi => ?_⟩
 have a : rd_L2 (List.replicate n (List.replicate n (0 : Int))) (i : Int) = List.replicate n 0 := by unfold rd_L2; simp [List.getD_eq_getElem?_getD, hi]
 have b : rd_L2 (List.replicate n (List.replicate (n + 1) (0 : Int))) (i : Int) = List.replicate (n + 1) 0 := by unfold rd_L2; simp [List.getD_eq_getElem?_getD, hi]
 rw [a, b]
 refine ⟨by simp, by simp, fun j hj => ?_⟩
 unfold rd
 simp only [Int.toNat_natCast, List.getD_eq_getElem?_getD]
 rw [List.getElem?_replicate, List.getElem?_replicate, if_pos hj, if_pos oo]
theorem fill_spec (w : List Int) (n : Nat) (hn : n ≤ 12) (r : Int) (h : Ev (fun k => spec_beOrdered.l1 k w (n : Int) (List.replicate n (List.replicate n 0)) 2) r) : ∀ (d i : Nat) (M : List (List Int)), i + d = n → M.length = n → M.take i = List.replicate i (List.replicate n 0) → Ev (fun k => spec_beOrdered.l0 k w (n : Int) M (n : Int) (i : Int)) r
 | 0, i, M, hd, hm, ht => by
  refine Ev.succ ?_
  simp only [spec_beOrdered.l0]
  refine Ev.neg oo ?_
  rw [List.take_of_length_le oo] at ht
  rw [ht, show i = n by omega]; exact h
 | d + 1, i, M, hd, hm, ht => by
  have ih := fill_spec w n hn r h d (i + 1) (M.set i (List.replicate n 0)) oo (by simpa using hm) (by rw [take_set_succ M i _ oo, ht, ← List.replicate_succ'])
  refine Ev.succ ?_
  simp only [spec_beOrdered.l0, w1 (show 0 ≤ (i : Int) by omega) (show (i : Int) < 9223372036854775807 by omega), Int.toNat_natCast]
  exact Ev.pos oo (Ev.pos oo (Ev.pos oo (Ev.pos oo (Ev.pos oo ih))))
theorem fill_impl (w : List Int) (n : Nat) (hn : n ≤ 12) (r : Int) (h : Ev (fun k => impl_joined.l1 k w (n : Int) (List.replicate n (List.replicate (n + 1) 0)) 2) r) : ∀ (d i : Nat) (M : List (List Int)), i + d = n → M.length = n → M.take i = List.replicate i (List.replicate (n + 1) 0) → Ev (fun k => impl_joined.l0 k w (n : Int) M (n : Int) (i : Int)) r
 | 0, i, M, hd, hm, ht => by
  refine Ev.succ ?_
  simp only [impl_joined.l0]
  refine Ev.neg oo ?_
  rw [List.take_of_length_le oo] at ht
  rw [ht, show i = n by omega]; exact h
 | d + 1, i, M, hd, hm, ht => by
  have ih := fill_impl w n hn r h d (i + 1) (M.set i (List.replicate (n + 1) 0)) oo (by simpa using hm) (by rw [take_set_succ M i _ oo, ht, ← List.replicate_succ'])
  refine Ev.succ ?_
  simp only [impl_joined.l0, w1 (show 0 ≤ (i : Int) by omega) (show (i : Int) < 9223372036854775807 by omega), w1 (show 0 ≤ (n : Int) by omega) (show (n : Int) < 9223372036854775807 by omega), Int.toNat_natCast, show ((n : Int) + 1).toNat = n + 1 by omega]
  exact Ev.pos oo (Ev.pos oo (Ev.pos oo (Ev.pos oo (Ev.pos oo ih))))
theorem sim_inner (w : List Int) (n size i : Nat) (hn : n ≤ 12) (hw : w.length = n) (hs1 : 2 ≤ size) (hi : i + size ≤ n) (s : Int)
  (hs : Ev (fun k => impl_sumWeights.f k ((w.take (i + size)).drop i)) s)
  (next : ∀ M B, Tab n M B → ∃ r, Ev (fun k => spec_beOrdered.l2 k w (n : Int) M (size : Int) ((i + 1 : Nat) : Int)) r ∧ Ev (fun k => impl_joined.l2 k w (n : Int) B (size : Int) ((i + 1 : Nat) : Int)) r) :
  ∀ (e u : Nat) (best : Int) (M B : List (List Int)), u + 1 + e = i + size → i ≤ u → Tab n M B → ∃ r, Ev (fun k => spec_beOrdered.l4 k w (n : Int) M (size : Int) (i : Int) s best (u : Int)) r ∧ Ev (fun k => impl_joined.l3 k w (n : Int) B (size : Int) (i : Int) best ((u + 1 : Nat) : Int)) r
 | 0, u, best, M, B, hd, hu, T => by
  obtain ⟨r, h1, h2⟩ := next _ _ (T.put i u oo oo (wrap64 (s + best)))
  obtain ⟨t1, t2, t3⟩ := T
  obtain ⟨a, b, _⟩ := t3 i oo
  have e1 : Aside0 (wrap64 ((i : Int) + (size : Int)) = ((u + 1 : Nat) : Int)) := ⟨by rw [w64 oo oo]; omega⟩
  have e2 : Aside0 (wrap64 (((u + 1 : Nat) : Int) - 1) = (u : Int)) := ⟨by rw [w64 oo oo]; omega⟩
  have e3 : Aside0 (wrap64 ((u : Int) + 1) = ((u + 1 : Nat) : Int)) := ⟨by rw [w64 oo oo]; omega⟩
  have e4 : Aside0 (wrap64 ((i : Int) + 1) = ((i + 1 : Nat) : Int)) := ⟨by rw [w64 oo oo]; omega⟩
  refine ⟨r, Ev.succ ?_, Ev.succ ?_⟩
  ·simp only [spec_beOrdered.l4, e1.out, e2.out, e3.out, e4.out, Int.toNat_natCast]
   exact Ev.neg oo (Ev.pos oo (Ev.pos oo (Ev.pos oo (Ev.pos oo h1))))
  ·simp only [impl_joined.l3, e1.out, e4.out, Int.toNat_natCast]
   refine Ev.neg oo (Ev.pos oo (Ev.pos oo (Ev.pos oo (Ev.pos oo (Ev.bind (a := s) (by rw [show u + 1 = i + size from hd]; exact hs) (Ev.pos oo (Ev.pos oo ?_)))))))
   rw [Int.add_comm best s]; exact h2
 | e + 1, u, best, M, B, hd, hu, T => by
  have T' := T
  obtain ⟨t1, t2, t3⟩ := T
  obtain ⟨a, b, c⟩ := t3 i oo
  obtain ⟨a', b', c'⟩ := t3 (u + 1) oo
  have e1 : Aside0 (wrap64 ((i : Int) + (size : Int)) = ((i + size : Nat) : Int)) := ⟨by rw [w64 oo oo]; omega⟩
  have e2 : Aside0 (wrap64 (((i + size : Nat) : Int) - 1) = ((i + size - 1 : Nat) : Int)) := ⟨by rw [w64 oo oo]; omega⟩
  have e3 : Aside0 (wrap64 ((u : Int) + 1) = ((u + 1 : Nat) : Int)) := ⟨by rw [w64 oo oo]; omega⟩
  have e5 : Aside0 (wrap64 (((u + 1 : Nat) : Int) + 1) = ((u + 1 + 1 : Nat) : Int)) := ⟨by rw [w64 oo oo]; omega⟩
  have c1 := c u oo
  have c2 := c' (i + size - 1) oo
  rw [show i + size - 1 + 1 = i + size by omega] at c2
  have ih := fun best => sim_inner w n size i hn hw hs1 hi s hs next e (u + 1) best M B oo oo T'
  obtain ⟨v, hv0⟩ : ∃ v, wrap64 (rd (rd_L2 M (i : Int)) (u : Int) + rd (rd_L2 M ((u + 1 : Nat) : Int)) ((i + size - 1 : Nat) : Int)) = v := ⟨_, rfl⟩
  have hv := Aside0.mk hv0
  clear hv0
  have hv2 : Aside0 (wrap64 (rd (rd_L2 B (i : Int)) ((u + 1 : Nat) : Int) + rd (rd_L2 B ((u + 1 : Nat) : Int)) ((i + size : Nat) : Int)) = v) := ⟨by rw [← c1, ← c2]; exact hv.out⟩
  obtain ⟨r, h1, h2⟩ := ih (if best < 0 then v else if v < best then v else best)
  refine ⟨r, Ev.succ ?_, Ev.succ ?_⟩
  ·simp only [spec_beOrdered.l4, e1.out, e2.out, e3.out, hv.out]
   refine Ev.pos oo (Ev.pos oo (Ev.pos oo (Ev.pos oo (Ev.pos oo (Ev.pos oo (Ev.pos oo (Ev.pos oo (Ev.pos oo ?_))))))))
   by_cases g1 : best < 0
   ·rw [if_pos g1] at h1; exact Ev.pos g1 h1
   ·rw [if_neg g1] at h1
    refine Ev.neg g1 ?_
    by_cases g2 : v < best
    ·rw [if_pos g2] at h1; exact Ev.pos g2 h1
    ·rw [if_neg g2] at h1; exact Ev.neg g2 h1
  ·simp only [impl_joined.l3, e1.out, e5.out, hv2.out]
   refine Ev.pos oo (Ev.pos oo (Ev.pos oo (Ev.pos oo (Ev.pos oo (Ev.pos oo (Ev.pos oo (Ev.pos oo ?_)))))))
   by_cases g1 : best < 0
   ·rw [if_pos g1] at h2; exact Ev.pos g1 h2
   ·rw [if_neg g1] at h2
    refine Ev.neg g1 ?_
    by_cases g2 : v < best
    ·rw [if_pos g2] at h2; exact Ev.pos g2 h2
    ·rw [if_neg g2] at h2; exact Ev.neg g2 h2
theorem drop_take_cons (w : List Int) (i m : Nat) (h : i < m) (hm : m ≤ w.length) : (w.take m).drop i = w[i]'oo :: (w.take m).drop (i + 1) := by
 rw [List.drop_eq_getElem_cons (by simp; omega)]; simp
theorem sim_sum (w : List Int) (n size i : Nat) (hn : n ≤ 12) (hw : w.length = n) (hi : i + size ≤ n) (M : List (List Int)) (r : Int) : ∀ (e u : Nat) (s : Int), u + e = i + size → i ≤ u →
  Ev (fun k => spec_beOrdered.l4 k w (n : Int) M (size : Int) (i : Int) (wsum s ((w.take (i + size)).drop u)) (-1) (i : Int)) r → Ev (fun k => spec_beOrdered.l3 k w (n : Int) M (size : Int) (i : Int) s (-1) (u : Int)) r
 | 0, u, s, hd, hu, h => by
  have e1 : Aside0 (wrap64 ((i : Int) + (size : Int)) = ((i + size : Nat) : Int)) := ⟨by rw [w64 oo oo]; omega⟩
  refine Ev.succ ?_
  simp only [spec_beOrdered.l3, e1.out]
  refine Ev.neg oo ?_
  rw [List.drop_of_length_le (by simp; omega)] at h
  exact h
 | e + 1, u, s, hd, hu, h => by
  have e1 : Aside0 (wrap64 ((i : Int) + (size : Int)) = ((i + size : Nat) : Int)) := ⟨by rw [w64 oo oo]; omega⟩
  have h1 : u < w.length := by omega
  rw [drop_take_cons w u (i + size) oo oo] at h
  have ih := sim_sum w n size i hn hw hi M r e (u + 1) (wrap64 (s + w[u])) oo oo h
  refine Ev.succ ?_
  simp only [spec_beOrdered.l3, e1.out, rd_nat w u h1, w1 (show 0 ≤ (u : Int) by omega) (show (u : Int) < 9223372036854775807 by omega)]
  exact Ev.pos oo (Ev.pos oo (Ev.pos oo ih))
theorem sim_mid (w : List Int) (n size : Nat) (hn : n ≤ 12) (hw : w.length = n) (hs1 : 2 ≤ size) (hs2 : size ≤ n)
  (next : ∀ M B, Tab n M B → ∃ r, Ev (fun k => spec_beOrdered.l1 k w (n : Int) M ((size + 1 : Nat) : Int)) r ∧ Ev (fun k => impl_joined.l1 k w (n : Int) B ((size + 1 : Nat) : Int)) r) :
  ∀ (d i : Nat) (M B : List (List Int)), i + size + d = n + 1 → Tab n M B → ∃ r, Ev (fun k => spec_beOrdered.l2 k w (n : Int) M (size : Int) (i : Int)) r ∧ Ev (fun k => impl_joined.l2 k w (n : Int) B (size : Int) (i : Int)) r
 | 0, i, M, B, hd, T => by
  obtain ⟨r, h1, h2⟩ := next M B T
  have e1 : Aside0 (wrap64 ((i : Int) + (size : Int)) = ((i + size : Nat) : Int)) := ⟨by rw [w64 oo oo]; omega⟩
  refine ⟨r, Ev.succ ?_, Ev.succ ?_⟩
  ·simp only [spec_beOrdered.l2, e1.out, w1 (show 0 ≤ (size : Int) by omega) (show (size : Int) < 9223372036854775807 by omega)]
   exact Ev.neg oo h1
  ·simp only [impl_joined.l2, e1.out, w1 (show 0 ≤ (size : Int) by omega) (show (size : Int) < 9223372036854775807 by omega)]
   exact Ev.neg oo h2
 | d + 1, i, M, B, hd, T => by
  have e1 : Aside0 (wrap64 ((i : Int) + (size : Int)) = ((i + size : Nat) : Int)) := ⟨by rw [w64 oo oo]; omega⟩
  have hs := sumWeights_ev ((w.take (i + size)).drop i) (by simp; omega)
  obtain ⟨r, h1, h2⟩ := sim_inner w n size i hn hw hs1 oo _ hs (fun M B T => sim_mid w n size hn hw hs1 hs2 next d (i + 1) M B oo T) (size - 1) i (-1) M B oo oo T
  refine ⟨r, Ev.succ ?_, Ev.succ ?_⟩
  ·simp only [spec_beOrdered.l2, e1.out]
   exact Ev.pos oo (sim_sum w n size i hn hw oo M r size i 0 oo oo h1)
  ·simp only [impl_joined.l2, e1.out, w1 (show 0 ≤ (i : Int) by omega) (show (i : Int) < 9223372036854775807 by omega)]
   exact Ev.pos oo h2
theorem sim_outer (w : List Int) (n : Nat) (hn1 : 1 ≤ n) (hn : n ≤ 12) (hw : w.length = n) : ∀ (d size : Nat) (M B : List (List Int)), size + d = max (n + 1) 2 → 2 ≤ size → Tab n M B →
  ∃ r, Ev (fun k => spec_beOrdered.l1 k w (n : Int) M (size : Int)) r ∧ Ev (fun k => impl_joined.l1 k w (n : Int) B (size : Int)) r
 | 0, size, M, B, hd, hs, T => by
  obtain ⟨t1, t2, t3⟩ := T
  obtain ⟨a, b, c⟩ := t3 0 oo
  have c1 := c (n - 1) oo
  rw [show n - 1 + 1 = n by omega] at c1
  rw [show ((0 : Nat) : Int) = 0 from rfl] at a b c1
  have e1 : Aside0 (wrap64 ((n : Int) - 1) = ((n - 1 : Nat) : Int)) := ⟨by rw [w64 oo oo]; omega⟩
  refine ⟨rd (rd_L2 M 0) ((n - 1 : Nat) : Int), Ev.succ ?_, Ev.succ ?_⟩
  ·simp only [spec_beOrdered.l1, e1.out]
   exact Ev.neg oo (Ev.pos oo (Ev.pos oo (Ev.pos oo (Ev.now _))))
  ·simp only [impl_joined.l1]
   exact Ev.neg oo (Ev.pos oo (Ev.pos oo (Ev.pos oo (Ev.pure c1.symm))))
 | d + 1, size, M, B, hd, hs, T => by
  obtain ⟨r, h1, h2⟩ := sim_mid w n size hn hw hs oo (fun M B T => sim_outer w n hn1 hn hw d (size + 1) M B oo oo T) (n + 1 - size) 0 M B oo T
  refine ⟨r, Ev.succ ?_, Ev.succ ?_⟩
  ·simp only [spec_beOrdered.l1]; exact Ev.pos oo h1
  ·simp only [impl_joined.l1]; exact Ev.pos oo h2
theorem joined_same (w : List Int) (h1 : 1 ≤ w.length) (h2 : w.length ≤ 12) : ∃ r, Ev (fun k => spec_beOrdered.f k w) r ∧ Ev (fun k => impl_joined.f k w) r := by
 obtain ⟨r, a, b⟩ := sim_outer w w.length h1 h2 rfl (w.length - 1) 2 _ _ oo oo (Tab.start w.length)
 have fa := fill_spec w w.length h2 r a w.length 0 (List.replicate w.length []) oo (by simp) (by simp)
 have fb := fill_impl w w.length h2 r b w.length 0 (List.replicate w.length []) oo (by simp) (by simp)
 refine ⟨r, ?_, ?_⟩
 ·unfold spec_beOrdered.f
  refine Ev.pos oo (Ev.pos oo ?_)
  simpa using fa
 ·unfold impl_joined.f
  refine Ev.pos oo (Ev.pos oo ?_)
  simpa using fb
def digs (m : Nat) : Nat → Nat → List UInt8
 | 0, _ => []
 | l + 1, n => digs m l (n / m) ++ [UInt8.ofNat (97 + n % m)]
theorem digs_length (m : Nat) : ∀ l n, (digs m l n).length = l
 | 0, _ => rfl
 | l + 1, n => by rw [digs, List.length_append, digs_length m l]; rfl
theorem ba_append (a b : Array UInt8) : (⟨a⟩ : ByteArray) ++ (⟨b⟩ : ByteArray) = ⟨a ++ b⟩ := by
 apply ByteArray.ext
 rw [ByteArray.data_append]
theorem letter_cut (r : Nat) (h : r < 3) : (⟨#[97, 98, 99]⟩ : ByteArray).extract r (r + 1) = ⟨#[UInt8.ofNat (97 + r)]⟩ := by
 match r, h with
 | 0, _ => decide
 | 1, _ => decide
 | 2, _ => decide
theorem krText_l0 (m : Nat) (hm : 2 ≤ m) (hm3 : m ≤ 3) (l : Nat) (hl : l ≤ 60) : ∀ (d i n : Nat) (acc : List UInt8), i + d = l → acc.length = i → n < 4611686018427387904 → Ev (fun k => spec_krText.l0 k (n : Int) (l : Int) (m : Int) (⟨acc.toArray⟩ : ByteArray) (i : Int)) ((⟨(digs m d n ++ acc).toArray⟩ : ByteArray))
 | 0, i, n, acc, hd, ha, hn => by
  refine Ev.succ ?_
  simp only [spec_krText.l0]
  exact Ev.neg oo (Ev.pure (by simp [digs]))
 | d + 1, i, n, acc, hd, ha, hn => by
  have h2 : n / m ≤ n := Nat.div_le_self _ _
  have hr : n % m < m := Nat.mod_lt _ oo
  have ih := krText_l0 m hm hm3 l hl d (i + 1) (n / m) (UInt8.ofNat (97 + n % m) :: acc) oo (by simp; omega) oo
  have e1 : Int.tmod (n : Int) (m : Int) = ((n % m : Nat) : Int) := (Int.ofNat_tmod n m).symm
  have e2 : Aside0 (wrap64 (Int.tdiv (n : Int) (m : Int)) = ((n / m : Nat) : Int)) := ⟨by
   rw [← Int.ofNat_tdiv]; generalize n / m = q at h2 ⊢; exact w64 oo oo⟩
  have e3 : Aside0 (wrap64 (((n % m : Nat) : Int) + 1) = ((n % m + 1 : Nat) : Int)) := ⟨by rw [w64 oo oo]; omega⟩
  have e4 : (⟨#[97, 98, 99]⟩ : ByteArray).extract (n % m) (n % m + 1) = ⟨#[UInt8.ofNat (97 + n % m)]⟩ := letter_cut _ oo
  have e5 : (⟨#[UInt8.ofNat (97 + n % m)]⟩ : ByteArray) ++ (⟨acc.toArray⟩ : ByteArray) = ⟨(UInt8.ofNat (97 + n % m) :: acc).toArray⟩ := by rw [ba_append]; simp
  refine Ev.succ ?_
  simp only [spec_krText.l0, e1, e2.out, e3.out, Int.toNat_natCast, e4, e5, w1 (show 0 ≤ (i : Int) by omega) (show (i : Int) < 9223372036854775807 by omega)]
  refine Ev.pos oo (Ev.neg oo (Ev.pos oo (Ev.pos oo (Ev.pos oo (Ev.pos ?_ ?_)))))
  ·simp [ByteArray.size]; omega
  ·rw [digs, List.append_assoc]; exact ih
theorem krText_ev (n l m : Nat) (hm : 2 ≤ m) (hm3 : m ≤ 3) (hl : l ≤ 60) (hn : n < 4611686018427387904) : Ev (fun k => spec_krText.f k (n : Int) (l : Int) (m : Int)) (⟨(digs m l n).toArray⟩ : ByteArray) := by
 have h := krText_l0 m hm hm3 l hl l 0 n [] oo rfl hn
 simpa [spec_krText.f] using h
def place (b n l : Nat) : Nat := if b ≤ l then n * 2 ^ (l - b) else (n + 2 ^ (b - l) - 1) / 2 ^ (b - l)
def go : Nat → Nat → List Int → Option (List Nat)
 | _, _, [] => some []
 | b, n, x :: xs => if place b n x.toNat ≥ 2 ^ x.toNat then none else (go x.toNat (place b n x.toNat + 1) xs).map (place b n x.toNat :: ·)
theorem go_length : ∀ (xs : List Int) (b n : Nat) (ats : List Nat), go b n xs = some ats → ats.length = xs.length
 | [], _, _, ats, h => by simp only [go, Option.some.injEq] at h; rw [← h]; rfl
 | x :: xs, b, n, ats, h => by
  simp only [go] at h
  split at h
  ·cases h
  ·obtain ⟨z, hz, rfl⟩ := Option.map_eq_some_iff.mp h
   simp [go_length xs _ _ z hz]
theorem pow2_le {l : Nat} (h : l ≤ 11) : 1 ≤ 2 ^ l ∧ 2 ^ l ≤ 2048 :=
 ⟨Nat.one_le_two_pow, by have := Nat.pow_le_pow_right (show 1 ≤ 2 by omega) h; simpa using this⟩
theorem place_le (b n l : Nat) (hb : b ≤ 11) (hl : l ≤ 11) (hn : n ≤ 2 ^ b) : place b n l ≤ 2048 ∧ n ≤ 2048 := by
 have h1 := pow2_le hb
 have h2 := pow2_le hl
 unfold place
 split
 ·rename_i h
  have : n * 2 ^ (l - b) ≤ 2 ^ b * 2 ^ (l - b) := Nat.mul_le_mul_right _ hn
  rw [← Nat.pow_add, show b + (l - b) = l by omega] at this
  omega
 ·have h3 := pow2_le (show b - l ≤ 11 by omega)
  have h4 : (n + 2 ^ (b - l) - 1) / 2 ^ (b - l) ≤ n := by
   rw [Nat.div_le_iff_le_mul_add_pred oo]
   have : n * 1 ≤ 2 ^ (b - l) * n := by rw [Nat.mul_comm]; exact Nat.mul_le_mul_right _ h3.1
   omega
  omega
theorem place_impl (b n l : Nat) (hb : b ≤ 11) (hl : l ≤ 11) : (n * 2 ^ (11 - b) + 2 ^ (11 - l) - 1) / 2 ^ (11 - l) = place b n l := by
 have hp : 0 < 2 ^ (11 - l) := Nat.two_pow_pos _
 unfold place
 split
 ·rename_i h
  have e : 2 ^ (11 - b) = 2 ^ (l - b) * 2 ^ (11 - l) := by rw [← Nat.pow_add]; congr 1; omega
  rw [e, ← Nat.mul_assoc, Nat.add_sub_assoc oo, Nat.mul_comm _ (2 ^ (11 - l)), Nat.mul_add_div hp, Nat.div_eq_of_lt oo, Nat.add_zero]
 ·rename_i h
  have e : 2 ^ (11 - l) = 2 ^ (11 - b) * 2 ^ (b - l) := by rw [← Nat.pow_add]; congr 1; omega
  have hc : 0 < 2 ^ (11 - b) := Nat.two_pow_pos _
  have hs : 0 < 2 ^ (b - l) := Nat.two_pow_pos _
  rw [e, ← Nat.div_div_eq_div_mul]
  congr 1
  have : n * 2 ^ (11 - b) + 2 ^ (11 - b) * 2 ^ (b - l) - 1 = 2 ^ (11 - b) * (n + 2 ^ (b - l) - 1) + (2 ^ (11 - b) - 1) := by
   generalize 2 ^ (11 - b) = c at *
   generalize 2 ^ (b - l) = s at *
   obtain ⟨s, rfl⟩ : ∃ m, s = m + 1 := ⟨s - 1, by omega⟩
   rw [show n + (s + 1) - 1 = n + s by omega, Nat.mul_add, Nat.mul_add, Nat.mul_one, Nat.mul_comm n c]
   omega
  rw [this, Nat.mul_add_div hc, Nat.div_eq_of_lt oo, Nat.add_zero]
theorem place_fits (b n l : Nat) (hl : l ≤ 11) : (place b n l + 1) * 2 ^ (11 - l) > 2 ^ 11 ↔ place b n l ≥ 2 ^ l := by
 have e : 2 ^ 11 = 2 ^ l * 2 ^ (11 - l) := by rw [← Nat.pow_add]; congr 1; omega
 rw [e]
 constructor
 ·intro h; have := Nat.lt_of_mul_lt_mul_right h; omega
 ·intro h; exact Nat.mul_lt_mul_of_pos_right oo (Nat.two_pow_pos _)
def wordsOf : List Nat → List Int → List ByteArray
 | p :: ps, x :: xs => (⟨(digs 2 x.toNat p).toArray⟩ : ByteArray) :: wordsOf ps xs
 | _, _ => []
theorem wordsOf_length : ∀ (ps : List Nat) (xs : List Int), ps.length = xs.length → (wordsOf ps xs).length = xs.length
 | [], [], _ => rfl
 | p :: ps, x :: xs, h => by simp only [wordsOf, List.length_cons]; rw [wordsOf_length ps xs (by simpa using h)]
def textsOf (acc : List ByteArray) (b n : Nat) (xs : List Int) : List ByteArray := match go b n xs with
 | none => []
 | some ps => acc ++ wordsOf ps xs
theorem beTexts_j1 (L : List Int) (i : Nat) (x : Nat) (hx : x ≤ 11) (acc : List ByteArray) (at_ : Nat) (ha : acc.length ≤ 12) (hat : at_ ≤ 2048) (r : List ByteArray)
  (h : at_ < 2 ^ x → Ev (fun k => spec_beTexts.l0 k (acc ++ [(⟨(digs 2 x at_).toArray⟩ : ByteArray)]) ((at_ + 1 : Nat) : Int) (x : Int) L (L.length : Int) (wrap64 ((i : Int) + 1))) r) (h' : ¬ at_ < 2 ^ x → r = []) :
  Ev (fun k => spec_beTexts.j1 k acc (at_ : Int) (x : Int) L (L.length : Int) (i : Int)) r := by
 have hp := pow2_le hx
 have e : Aside0 (wrap64 ((at_ : Int) + 1) = ((at_ + 1 : Nat) : Int)) := ⟨by rw [w64 oo oo]; omega⟩
 refine Ev.succ ?_
 simp only [spec_beTexts.j1, e.out]
 refine Ev.bind (krPower_ev 2 x oo oo oo) ?_
 by_cases hlt : at_ < 2 ^ x
 ·exact Ev.neg oo (Ev.bind (krText_ev at_ x 2 oo oo oo oo) (Ev.pos oo (h hlt)))
 ·exact Ev.pos oo (Ev.pure (h' hlt).symm)
theorem beTexts_l0 (L : List Int) (hL : L.length ≤ 12) (hb : ∀ x ∈ L, 1 ≤ x ∧ x ≤ 11) : ∀ (d i : Nat) (acc : List ByteArray) (b n : Nat), i + d = L.length → acc.length ≤ i → b ≤ 11 → n ≤ 2 ^ b →
  Ev (fun k => spec_beTexts.l0 k acc (n : Int) (b : Int) L (L.length : Int) (i : Int)) (textsOf acc b n (L.drop i))
 | 0, i, acc, b, n, hd, ha, hbb, hn => by
  refine Ev.succ ?_
  simp only [spec_beTexts.l0]
  exact Ev.neg oo (Ev.pure (by rw [List.drop_of_length_le oo]; simp [textsOf, go, wordsOf]))
 | d + 1, i, acc, b, n, hd, ha, hbb, hn => by
  have h1 : i < L.length := by omega
  have hm := hb L[i] (List.getElem_mem h1)
  obtain ⟨x, hx⟩ : ∃ x : Nat, L[i] = (x : Int) := ⟨L[i].toNat, by omega⟩
  have hx11 : x ≤ 11 := by omega
  have hpl := place_le b n x hbb hx11 hn
  have hj := beTexts_j1 L i x hx11 acc (place b n x) oo hpl.1 (textsOf acc b n (L.drop i)) (fun hlt => by
   have ih := beTexts_l0 L hL hb d (i + 1) (acc ++ [(⟨(digs 2 x (place b n x)).toArray⟩ : ByteArray)]) x (place b n x + 1) oo (by simp; omega) hx11 oo
   rw [w1 oo oo]
   have e : textsOf acc b n (L.drop i) = textsOf (acc ++ [(⟨(digs 2 x (place b n x)).toArray⟩ : ByteArray)]) x (place b n x + 1) (L.drop (i + 1)) := by
    rw [List.drop_eq_getElem_cons h1, hx]
    simp only [textsOf, go, Int.toNat_natCast]
    rw [if_neg oo]
    cases go x (place b n x + 1) (List.drop (i + 1) L) <;> simp [wordsOf]
   rw [e]; exact ih) (fun hge => by
    rw [List.drop_eq_getElem_cons h1, hx]
    simp only [textsOf, go, Int.toNat_natCast]
    rw [if_pos oo])
  refine Ev.succ ?_
  simp only [spec_beTexts.l0, rd_nat L i h1, hx]
  refine Ev.pos oo (Ev.pos oo (Ev.pos oo (Ev.cases (fun hge => ?_) (fun hlt => ?_))))
  ·have e1 : wrap64 ((x : Int) - (b : Int)) = ((x - b : Nat) : Int) := by rw [w64 oo oo]; omega
   have hp := pow2_le (show x - b ≤ 11 by omega)
   rw [e1]
   refine Ev.bind (krPower_ev 2 (x - b) oo oo oo) ?_
   have e2 : Aside0 (wrap64 ((n : Int) * ((2 ^ (x - b) : Nat) : Int)) = (place b n x : Int)) := ⟨by
    have : place b n x = n * 2 ^ (x - b) := by unfold place; rw [if_pos oo]
    rw [← Int.natCast_mul, ← this]; exact w64 oo oo⟩
   rw [e2.out]; exact hj
  ·have e1 : wrap64 ((b : Int) - (x : Int)) = ((b - x : Nat) : Int) := by rw [w64 oo oo]; omega
   have hp := pow2_le (show b - x ≤ 11 by omega)
   rw [e1]
   refine Ev.bind (krPower_ev 2 (b - x) oo oo oo) ?_
   have e2 : Aside0 (wrap64 (Int.tdiv (wrap64 ((wrap64 ((n : Int) + ((2 ^ (b - x) : Nat) : Int))) - 1)) ((2 ^ (b - x) : Nat) : Int)) = (place b n x : Int)) := ⟨by
    have : place b n x = (n + 2 ^ (b - x) - 1) / 2 ^ (b - x) := by unfold place; rw [if_neg oo]
    generalize 2 ^ (b - x) = s at *
    rw [w64 (i := (n : Int) + (s : Int)) oo oo, w64 (i := (n : Int) + (s : Int) - 1) oo oo, show (n : Int) + (s : Int) - 1 = ((n + s - 1 : Nat) : Int) by omega, ← Int.ofNat_tdiv, ← this]
    exact w64 oo oo⟩
   rw [e2.out]; exact Ev.neg oo hj
theorem beTexts_ev (L : List Int) (hL : L.length ≤ 12) (hb : ∀ x ∈ L, 1 ≤ x ∧ x ≤ 11) : Ev (fun k => spec_beTexts.f k L) (textsOf [] 0 0 L) := by
 have h := beTexts_l0 L hL hb L.length 0 [] 0 0 oo (by simp) oo oo
 simpa [spec_beTexts.f] using h
def placesOf (acc : List Int) (b n : Nat) (xs : List Int) : List Int × Bool := match go b n xs with
 | none => ([], false)
 | some ps => (acc ++ ps.map (fun p : Nat => (p : Int)), true)
theorem orderedWords_l0 (L : List Int) (hL : L.length ≤ 12) (hb : ∀ x ∈ L, 1 ≤ x ∧ x ≤ 11) : ∀ (d i : Nat) (acc : List Int) (b n : Nat), i + d = L.length → acc.length ≤ i → b ≤ 11 → n ≤ 2 ^ b →
  Ev (fun k => impl_orderedWords.l0 k acc ((n * 2 ^ (11 - b) : Nat) : Int) L (L.length : Int) (i : Int)) (placesOf acc b n (L.drop i))
 | 0, i, acc, b, n, hd, ha, hbb, hn => by
  refine Ev.succ ?_
  simp only [impl_orderedWords.l0]
  exact Ev.neg oo (Ev.pure (by rw [List.drop_of_length_le oo]; simp [placesOf, go]))
 | d + 1, i, acc, b, n, hd, ha, hbb, hn => by
  have h1 : i < L.length := by omega
  have hm := hb L[i] (List.getElem_mem h1)
  obtain ⟨x, hx⟩ : ∃ x : Nat, L[i] = (x : Int) := ⟨L[i].toNat, by omega⟩
  have hx11 : x ≤ 11 := by omega
  have hpl := place_le b n x hbb hx11 hn
  have hpi := place_impl b n x hbb hx11
  have hpf := place_fits b n x hx11
  have hp := pow2_le (show 11 - x ≤ 11 by omega)
  have hq := pow2_le (show 11 - b ≤ 11 by omega)
  have hnq : n * 2 ^ (11 - b) ≤ 2048 := by
   have := Nat.mul_le_mul_right (2 ^ (11 - b)) hn
   rw [← Nat.pow_add, show b + (11 - b) = 11 by omega] at this
   exact this
  have e1 : Aside0 (wrap64 (11 - (x : Int)) = ((11 - x : Nat) : Int)) := ⟨by rw [w64 oo oo]; omega⟩
  have e2 : Aside0 (wrap64 (Int.tdiv (wrap64 ((wrap64 (((n * 2 ^ (11 - b) : Nat) : Int) + ((2 ^ (11 - x) : Nat) : Int))) - 1)) ((2 ^ (11 - x) : Nat) : Int)) = (place b n x : Int)) := ⟨by
   rw [w64 (i := ((n * 2 ^ (11 - b) : Nat) : Int) + ((2 ^ (11 - x) : Nat) : Int)) oo oo, w64 (i := ((n * 2 ^ (11 - b) : Nat) : Int) + ((2 ^ (11 - x) : Nat) : Int) - 1) oo oo,
    show ((n * 2 ^ (11 - b) : Nat) : Int) + ((2 ^ (11 - x) : Nat) : Int) - 1 = ((n * 2 ^ (11 - b) + 2 ^ (11 - x) - 1 : Nat) : Int) by omega, ← Int.ofNat_tdiv, hpi]
   exact w64 oo oo⟩
  have e3 : Aside0 (wrap64 ((wrap64 ((place b n x : Int) + 1)) * ((2 ^ (11 - x) : Nat) : Int)) = (((place b n x + 1) * 2 ^ (11 - x) : Nat) : Int)) := ⟨by
   have hle : (place b n x + 1) * 2 ^ (11 - x) ≤ 2049 * 2048 := Nat.mul_le_mul oo hp.2
   rw [w64 (i := (place b n x : Int) + 1) oo oo, show (place b n x : Int) + 1 = ((place b n x + 1 : Nat) : Int) by omega, ← Int.natCast_mul]
   exact w64 oo oo⟩
  refine Ev.succ ?_
  simp only [impl_orderedWords.l0, rd_nat L i h1, hx, e1.out]
  refine Ev.pos oo (Ev.pos oo (Ev.pos oo (Ev.bind (power_ev 2 (11 - x) oo oo oo) (Ev.neg oo (Ev.bind (power_ev 2 11 oo oo oo) ?_)))))
  simp only [e2.out, e3.out, w1 (show 0 ≤ (i : Int) by omega) (show (i : Int) < 9223372036854775807 by omega)]
  rw [List.drop_eq_getElem_cons h1, hx]
  simp only [placesOf, go, Int.toNat_natCast]
  by_cases hge : place b n x ≥ 2 ^ x
  ·rw [if_pos hge]
   exact Ev.pos (by have := hpf.mpr hge; omega) (Ev.now _)
  ·rw [if_neg hge]
   refine Ev.neg (by intro h; exact hge (hpf.mp oo)) (Ev.pos oo ?_)
   have ih := orderedWords_l0 L hL hb d (i + 1) (acc ++ [(place b n x : Int)]) x (place b n x + 1) oo (by simp; omega) hx11 oo
   have e : (match Option.map (fun z => place b n x :: z) (go x (place b n x + 1) (List.drop (i + 1) L)) with | none => ([], false) | some ps => (acc ++ ps.map (fun p : Nat => (p : Int)), true)) = placesOf (acc ++ [(place b n x : Int)]) x (place b n x + 1) (List.drop (i + 1) L) := by
    unfold placesOf
    cases go x (place b n x + 1) (List.drop (i + 1) L) <;> simp
   rw [e]; exact ih
theorem orderedWords_ev (L : List Int) (hL : L.length ≤ 12) (hb : ∀ x ∈ L, 1 ≤ x ∧ x ≤ 11) : Ev (fun k => impl_orderedWords.f k L) (placesOf [] 0 0 L) := by
 have h := orderedWords_l0 L hL hb L.length 0 [] 0 0 oo (by simp) oo oo
 simpa [impl_orderedWords.f] using h
namespace OL
theorem Ev.unique {α : Type} {f : Nat → Option α} {a b : α} (h1 : Ev f a) (h2 : Ev f b) : a = b := by
 obtain ⟨n, h1⟩ := h1
 obtain ⟨m, h2⟩ := h2
 have a1 := h1 (max n m) oo
 have a2 := h2 (max n m) oo
 rw [a1] at a2
 exact Option.some.inj a2
inductive Tr : Nat → List Nat → Prop where
 | leaf (h : Nat) : Tr h [0]
 | node {h : Nat} {a b : List Nat} : Tr h a → Tr h b → Tr (h + 1) (a.map (· + 1) ++ b.map (· + 1))
theorem Tr.up {h : Nat} {a : List Nat} (t : Tr h a) : ∀ h', h ≤ h' → Tr h' a := by
 induction t with
 | leaf h => intro h' _; exact .leaf h'
 | node t1 t2 i1 i2 =>
  intro h' hh
  obtain ⟨m, rfl⟩ : ∃ m, h' = m + 1 := ⟨h' - 1, by omega⟩
  exact .node (i1 m oo) (i2 m oo)
theorem Tr.le {h : Nat} {a : List Nat} (t : Tr h a) : ∀ x ∈ a, x ≤ h := by
 induction t with
 | leaf h => intro x hx; simp at hx; omega
 | node t1 t2 i1 i2 =>
  intro x hx
  rcases List.mem_append.1 hx with hx | hx
  ·obtain ⟨y, hy, rfl⟩ := List.mem_map.1 hx
   have := i1 y hy; omega
  ·obtain ⟨y, hy, rfl⟩ := List.mem_map.1 hx
   have := i2 y hy; omega
theorem Tr.ne {h : Nat} {a : List Nat} (t : Tr h a) : a ≠ [] := by
 induction t with
 | leaf h => simp
 | node t1 t2 i1 i2 => simp [i1]
theorem Tr.fits {h : Nat} {a : List Nat} (t : Tr h a) : ∀ (d m b n : Nat) (rest : List Int), d + h ≤ 11 → m < 2 ^ d → b ≤ 11 → n * 2 ^ (11 - b) = m * 2 ^ (11 - d) →
  ∃ b' n', b' ≤ 11 ∧ n' * 2 ^ (11 - b') = (m + 1) * 2 ^ (11 - d) ∧ ((go b' n' rest).isSome = true → (go b n (a.map (fun x : Nat => ((d + x : Nat) : Int)) ++ rest)).isSome = true) := by
 induction t with
 | leaf h =>
  intro d m b n rest hd hm hb hn
  refine ⟨d, m + 1, by omega, rfl, fun hs => ?_⟩
  have hp : place b n d = m := by
   rw [← place_impl b n d hb oo, hn]
   have h1 : 0 < 2 ^ (11 - d) := Nat.two_pow_pos _
   rw [Nat.add_sub_assoc oo, Nat.mul_comm, Nat.mul_add_div h1, Nat.div_eq_of_lt oo, Nat.add_zero]
  simp only [List.map_cons, List.map_nil, List.cons_append, List.nil_append, Nat.add_zero, go, Int.toNat_natCast, hp]
  rw [if_neg oo, Option.isSome_map]
  exact hs
 | @node h a c t1 t2 i1 i2 =>
  intro d m b n rest hd hm hb hn
  have e : 2 ^ (11 - d) = 2 * 2 ^ (11 - (d + 1)) := by
   rw [← Nat.pow_succ']; congr 1; omega
  have e2 : 2 ^ (d + 1) = 2 * 2 ^ d := by rw [Nat.pow_succ']
  rw [e] at hn ⊢
  obtain ⟨b1, n1, p1, p2, p3⟩ := i1 (d + 1) (2 * m) b n (c.map (fun x : Nat => ((d + 1 + x : Nat) : Int)) ++ rest) oo oo hb (by rw [hn, ← Nat.mul_assoc, Nat.mul_comm m 2])
  obtain ⟨b2, n2, q1, q2, q3⟩ := i2 (d + 1) (2 * m + 1) b1 n1 rest oo oo p1 p2
  refine ⟨b2, n2, q1, ?_, fun hs => ?_⟩
  ·rw [q2, show 2 * m + 1 + 1 = (m + 1) * 2 by omega, Nat.mul_assoc]
  ·have h1 := p3 (q3 hs)
   have e3 : ∀ l : List Nat, (l.map (· + 1)).map (fun x : Nat => ((d + x : Nat) : Int)) = l.map (fun x : Nat => ((d + 1 + x : Nat) : Int)) := fun l => by
    rw [List.map_map]
    refine List.map_congr_left fun x _ => ?_
    show ((d + (x + 1) : Nat) : Int) = ((d + 1 + x : Nat) : Int)
    congr 1; omega
   rw [List.map_append, e3, e3, List.append_assoc]
   exact h1
def can (L : List Int) : Bool := (go 0 0 L).isSome
theorem go_prefix : ∀ (xs ys : List Int) (b n : Nat), (go b n (xs ++ ys)).isSome = true → (go b n xs).isSome = true
 | [], _, _, _, _ => rfl
 | x :: xs, ys, b, n, h => by
  simp only [List.cons_append, go] at h ⊢
  split at h
  ·simp at h
  ·rename_i hh
   rw [if_neg hh, Option.isSome_map]
   rw [Option.isSome_map] at h
   exact go_prefix xs ys _ _ h
theorem can_prefix (xs ys : List Int) (h : can (xs ++ ys) = true) : can xs = true := go_prefix xs ys 0 0 h
theorem placesOf_can (L : List Int) : (placesOf [] 0 0 L).2 = can L := by
 unfold placesOf can
 cases go 0 0 L <;> rfl
theorem beCan_ev (L : List Int) (hL : L.length ≤ 12) (hb : ∀ x ∈ L, 1 ≤ x ∧ x ≤ 11) : Ev (fun k => spec_beCan.f k L) (can L) := by
 unfold spec_beCan.f
 refine Ev.bind (beTexts_ev L hL hb) (Ev.pure ?_)
 unfold textsOf can
 cases hg : go 0 0 L with
 | none =>
  cases L with
  | nil => simp [go] at hg
  | cons x xs => simp; omega
 | some ps => simp [wordsOf_length ps L (go_length L 0 0 ps hg)]
def dot : List Int → List Int → Int
 | w :: ws, x :: xs => w * x + dot ws xs
 | _, _ => 0
def srch (ws : List Int) (due : Int) : Nat → List Int → Int → Option (List Int)
 | 0, done, cost => if can done = true ∧ cost = due then some done else none
 | m + 1, done, cost => ([1, 2, 3, 4, 5, 6, 7, 8, 9, 10, 11] : List Int).findSome? fun l => if cost + rd ws done.length * l ≤ due ∧ can (done ++ [l]) = true then srch ws due m (done ++ [l]) (cost + rd ws done.length * l) else none
theorem srch_length (ws : List Int) (due : Int) : ∀ (m : Nat) (done : List Int) (cost : Int) (x : List Int), srch ws due m done cost = some x → x.length = done.length + m
 | 0, done, cost, x, h => by
  simp only [srch] at h
  split at h
  ·obtain rfl := Option.some.inj h; rfl
  ·cases h
 | m + 1, done, cost, x, h => by
  simp only [srch] at h
  obtain ⟨l, hl, h1⟩ := List.exists_of_findSome?_eq_some h
  split at h1
  ·have := srch_length ws due m _ _ x h1
   simp at this; omega
  ·cases h1
theorem dot_nonneg : ∀ (ws xs : List Int), (∀ w ∈ ws, 1 ≤ w) → (∀ x ∈ xs, 1 ≤ x) → 0 ≤ dot ws xs
 | [], _, _, _ => by simp [dot]
 | _ :: _, [], _, _ => by simp [dot]
 | w :: ws, x :: xs, h1, h2 => by
  have a := h1 w (by simp)
  have b := h2 x (by simp)
  have c := dot_nonneg ws xs (fun w hw => h1 w (by simp [hw])) (fun x hx => h2 x (by simp [hx]))
  have d : 0 ≤ w * x := Int.mul_nonneg oo oo
  simp only [dot]; omega
theorem srch_some (ws : List Int) (due : Int) (hw : ∀ w ∈ ws, 1 ≤ w) : ∀ (rest done : List Int) (cost : Int), done.length + rest.length = ws.length → (∀ x ∈ rest, 1 ≤ x ∧ x ≤ 11) → can (done ++ rest) = true → cost + dot (ws.drop done.length) rest = due → ∃ x, srch ws due rest.length done cost = some x
 | [], done, cost, hl, hr, hc, hd => by
  refine ⟨done, ?_⟩
  simp only [List.length_nil, srch]
  rw [if_pos]
  refine ⟨by simpa using hc, ?_⟩
  cases hq : ws.drop done.length <;> rw [hq] at hd <;> simpa [dot] using hd
 | l :: rest, done, cost, hl, hr, hc, hd => by
  rw [List.length_cons] at hl
  have hlt : done.length < ws.length := by omega
  have hl1 := hr l (by simp)
  rw [List.drop_eq_getElem_cons hlt] at hd
  simp only [dot] at hd
  have hge := dot_nonneg (ws.drop (done.length + 1)) rest (fun w h => hw w (List.mem_of_mem_drop h)) (fun x h => (hr x (by simp [h])).1)
  have hc' : can ((done ++ [l]) ++ rest) = true := by simpa using hc
  obtain ⟨x, hx⟩ := srch_some ws due hw rest (done ++ [l]) (cost + ws[done.length] * l) (by simp; omega) (fun x h => hr x (by simp [h])) hc' (by simp; omega)
  have hsome : (srch ws due (rest.length + 1) done cost).isSome = true := by
   simp only [srch]
   rw [List.findSome?_isSome_iff]
   refine ⟨l, ?_, ?_⟩
   ·have : l = 1 ∨ l = 2 ∨ l = 3 ∨ l = 4 ∨ l = 5 ∨ l = 6 ∨ l = 7 ∨ l = 8 ∨ l = 9 ∨ l = 10 ∨ l = 11 := by omega
    simp only [List.mem_cons, List.not_mem_nil, or_false]; exact this
   ·rw [rd_nat ws done.length hlt, if_pos ⟨by omega, can_prefix _ _ hc'⟩, hx]; rfl
  exact Option.isSome_iff_exists.1 hsome
theorem can_ev (L : List Int) (hL : L.length ≤ 12) (hb : ∀ x ∈ L, 1 ≤ x ∧ x ≤ 11) : ∃ b : List Int × Bool, Ev (fun k => impl_orderedWords.f k L) b ∧ b.2 = can L := ⟨_, orderedWords_ev L hL hb, placesOf_can L⟩
def from_ (l : Nat) : List Int := (([1, 2, 3, 4, 5, 6, 7, 8, 9, 10, 11] : List Int)).drop (l - 1)
theorem from_cons (l : Nat) (h1 : 1 ≤ l) (h2 : l ≤ 11) : from_ l = (l : Int) :: from_ (l + 1) := by
 have : l = 1 ∨ l = 2 ∨ l = 3 ∨ l = 4 ∨ l = 5 ∨ l = 6 ∨ l = 7 ∨ l = 8 ∨ l = 9 ∨ l = 10 ∨ l = 11 := by omega
 rcases this with rfl | rfl | rfl | rfl | rfl | rfl | rfl | rfl | rfl | rfl | rfl <;> rfl
theorem from_mem (l : Nat) (h1 : 1 ≤ l) (x : Int) (hx : x ∈ from_ l) : (l : Int) ≤ x ∧ x ≤ 11 := by
 by_cases h : l ≤ 11
 ·rw [from_cons l h1 h] at hx
  rcases List.mem_cons.1 hx with e | e
  ·omega
  ·have := from_mem (l + 1) oo x e; omega
 ·unfold from_ at hx
  rw [List.drop_of_length_le (by simp; omega)] at hx
  cases hx
termination_by 12 - l
structure SInv (ws : List Int) (due : Int) (m : Nat) (done : List Int) (cost : Int) : Prop where
 few : ws.length ≤ 6
 w1 : ∀ w ∈ ws, 1 ≤ w ∧ w ≤ 100
 len : done.length + m = ws.length
 in_ : ∀ x ∈ done, 1 ≤ x ∧ x ≤ 11
 c0 : 0 ≤ cost
 c1 : cost ≤ due
 d1 : due ≤ 1000000
theorem SInv.next {ws : List Int} {due : Int} {m : Nat} {done : List Int} {cost : Int} (h : SInv ws due (m + 1) done cost) (l : Nat) (h1 : 1 ≤ l) (h2 : l ≤ 11) (hc : cost + rd ws done.length * (l : Int) ≤ due) : SInv ws due m (done ++ [(l : Int)]) (cost + rd ws done.length * (l : Int)) := by
 have hlt : done.length < ws.length := by have := h.len; omega
 have hw := h.w1 _ (List.getElem_mem hlt)
 rw [rd_nat ws done.length hlt] at hc ⊢
 have hp : 0 ≤ ws[done.length] * (l : Int) := Int.mul_nonneg oo oo
 refine ⟨h.few, h.w1, by have := h.len; simp; omega, fun x hx => ?_, by have := h.c0; omega, hc, h.d1⟩
 rcases List.mem_append.1 hx with hx | hx
 ·exact h.in_ x hx
 ·rw [List.mem_singleton] at hx; omega
theorem SInv.prod {ws : List Int} {due : Int} {m : Nat} {done : List Int} {cost : Int} (h : SInv ws due (m + 1) done cost) (l : Nat) (h1 : 1 ≤ l) (h2 : l ≤ 11) : 1 ≤ rd ws done.length ∧ rd ws done.length * (l : Int) ≤ 1100 ∧ 0 ≤ rd ws done.length * (l : Int) := by
 have hlt : done.length < ws.length := by have := h.len; omega
 have hw := h.w1 _ (List.getElem_mem hlt)
 rw [rd_nat ws done.length hlt]
 have hp : 0 ≤ ws[done.length] * (l : Int) := Int.mul_nonneg oo oo
 have hq : ws[done.length] * (l : Int) ≤ 100 * 11 := Int.mul_le_mul hw.2 oo oo oo
 exact ⟨hw.1, by omega, hp⟩
theorem find_ev (ws : List Int) (due : Int) : ∀ (m : Nat) (done : List Int) (cost : Int), SInv ws due m done cost → Ev (fun k => impl_OrderedLengths.find k ws due done cost) (srch ws due m done cost)
 | 0, done, cost, h => by
  obtain ⟨b, hb, hb2⟩ := can_ev done (by have := h.len; have := h.few; omega) h.in_
  refine Ev.succ ?_
  simp only [impl_OrderedLengths.find]
  refine Ev.pos (by have := h.len; omega) (Ev.bind hb (Ev.pure ?_))
  simp only [srch]
  rw [hb2]
 | m + 1, done, cost, h => by
  have hlen := h.len
  have hfew := h.few
  have loop : ∀ (e l : Nat), l + e = 12 → 1 ≤ l → Ev (fun k => impl_OrderedLengths.loop k ws due done cost l) ((from_ l).findSome? fun l => if cost + rd ws done.length * l ≤ due ∧ can (done ++ [l]) = true then srch ws due m (done ++ [l]) (cost + rd ws done.length * l) else none) := by
   intro e
   induction e with
   | zero =>
    intro l he h1
    refine Ev.succ ?_
    simp only [impl_OrderedLengths.loop]
    refine Ev.neg oo (Ev.pure ?_)
    unfold from_
    rw [List.drop_of_length_le (by simp; omega)]; rfl
   | succ e ih =>
    intro l he h1
    have hp := h.prod l h1 oo
    have hc0 := h.c0
    have hc1 := h.c1
    have hd1 := h.d1
    have e1 : Aside0 (wrap64 (rd ws (done.length : Int) * (l : Int)) = rd ws (done.length : Int) * (l : Int)) := ⟨w64 oo oo⟩
    have e2 : Aside0 (wrap64 (cost + rd ws (done.length : Int) * (l : Int)) = cost + rd ws (done.length : Int) * (l : Int)) := ⟨w64 oo oo⟩
    refine Ev.succ ?_
    simp only [impl_OrderedLengths.loop, e1.out, e2.out]
    refine Ev.pos oo (Ev.cases (fun hc => ?_) (fun hc => ?_))
    ·rw [from_cons l h1 oo, List.findSome?_cons]
     obtain ⟨b, hb, hb2⟩ := can_ev (done ++ [(l : Int)]) (by simp; omega) (h.next l h1 oo hc).in_
     refine Ev.bind hb (Ev.cases (fun ht => ?_) (fun ht => ?_))
     ·rw [hb2] at ht
      rw [if_pos ⟨hc, ht⟩]
      have hr := find_ev ws due m (done ++ [(l : Int)]) (cost + rd ws (done.length : Int) * (l : Int)) (h.next l h1 oo hc)
      cases hs : srch ws due m (done ++ [(l : Int)]) (cost + rd ws (done.length : Int) * (l : Int)) with
      | none => rw [hs] at hr; exact Ev.bind hr (ih (l + 1) oo oo)
      | some x => rw [hs] at hr; exact Ev.bind hr (Ev.now _)
     ·rw [hb2] at ht
      rw [if_neg (fun hh => ht hh.2)]
      exact ih (l + 1) oo oo
    ·refine Ev.pure ?_
     symm
     rw [List.findSome?_eq_none_iff]
     intro x hx
     have hm := from_mem l h1 x hx
     have hle : rd ws (done.length : Int) * (l : Int) ≤ rd ws (done.length : Int) * x := Int.mul_le_mul_of_nonneg_left hm.1 oo
     rw [if_neg (fun hh => hc oo)]
  refine Ev.succ ?_
  simp only [impl_OrderedLengths.find]
  exact Ev.neg oo (Ev.pos oo (loop 11 1 oo oo))
theorem first_ev (ws : List Int) (due : Int) (hn : 0 < ws.length) (hfew : ws.length ≤ 6) (hw : ∀ w ∈ ws, 1 ≤ w ∧ w ≤ 100) (hd1 : due ≤ 1000000) : ∀ (m : Nat) (done : List Int) (cost : Int), done.length + m = ws.length → (∀ x ∈ done, 1 ≤ x ∧ x ≤ 11) → 0 ≤ cost → cost ≤ 100000000 →
  Ev (fun k => spec_beFirstOrdered.f k ws done (due - cost)) ((if cost ≤ due ∧ can done = true then srch ws due m done cost else none).getD [])
 | m, done, cost, hlen, hin, hc0, hcm => by
  have no : Ev (fun k => spec_beFirstOrdered.j0 k ws done (due - cost) true) [] := Ev.succ (by simp only [spec_beFirstOrdered.j0]; exact Ev.pos (by simp) (Ev.now _))
  refine Ev.succ ?_
  simp only [spec_beFirstOrdered.f]
  refine Ev.cases (fun hneg => ?_) (fun hneg => ?_)
  ·rw [if_neg (fun h => by omega)]; exact no
  ·have main : can done = true → Ev (fun k => spec_beFirstOrdered.j0 k ws done (due - cost) false) ((srch ws due m done cost).getD []) := fun hcan => by
    refine Ev.succ ?_
    simp only [spec_beFirstOrdered.j0]
    refine Ev.neg (by simp) ?_
    cases m with
    | zero =>
     refine Ev.pos oo ?_
     simp only [srch]
     refine Ev.cases (fun h0 => ?_) (fun h0 => ?_)
     ·rw [if_pos ⟨hcan, by omega⟩]
      exact Ev.known (fun _ => l1Own_ev _ oo) (Ev.now _)
     ·rw [if_neg (fun h => h0 oo)]
      exact Ev.now _
    | succ m =>
     refine Ev.neg oo ?_
     have hlt : done.length < ws.length := by omega
     have hsi : SInv ws due (m + 1) done cost := ⟨hfew, hw, hlen, hin, hc0, by omega, hd1⟩
     have loop : ∀ (e l : Nat), l + e = 12 → 1 ≤ l → Ev (fun k => spec_beFirstOrdered.l0 k ws done (due - cost) (l : Int)) (((from_ l).findSome? fun l => if cost + rd ws done.length * l ≤ due ∧ can (done ++ [l]) = true then srch ws due m (done ++ [l]) (cost + rd ws done.length * l) else none).getD []) := by
      intro e
      induction e with
      | zero =>
       intro l he h1
       refine Ev.succ ?_
       simp only [spec_beFirstOrdered.l0]
       refine Ev.neg oo (Ev.pure ?_)
       unfold from_
       rw [List.drop_of_length_le (by simp; omega)]; rfl
      | succ e ih =>
       intro l he h1
       have hp := hsi.prod l h1 oo
       have e0 : (l : Int) * rd ws (done.length : Int) = rd ws (done.length : Int) * (l : Int) := Int.mul_comm _ _
       have e1 : Aside0 (wrap64 ((l : Int) * rd ws (done.length : Int)) = rd ws (done.length : Int) * (l : Int)) := ⟨by rw [e0]; exact w64 oo oo⟩
       have e2 : Aside0 (wrap64 (due - cost - rd ws (done.length : Int) * (l : Int)) = due - (cost + rd ws (done.length : Int) * (l : Int))) := ⟨by rw [w64 oo oo]; omega⟩
       have hin' : ∀ x ∈ done ++ [(l : Int)], 1 ≤ x ∧ x ≤ 11 := fun x hx => by
        rcases List.mem_append.1 hx with hx | hx
        ·exact hin x hx
        ·rw [List.mem_singleton] at hx; omega
       have hr := first_ev ws due hn hfew hw hd1 m (done ++ [(l : Int)]) (cost + rd ws (done.length : Int) * (l : Int)) (by simp; omega) hin' oo oo
       have ih' := ih (l + 1) oo oo
       rw [from_cons l h1 oo, List.findSome?_cons]
       refine Ev.succ ?_
       simp only [spec_beFirstOrdered.l0, e1.out, e2.out, w1 (show 0 ≤ (l : Int) by omega) (show (l : Int) < 9223372036854775807 by omega)]
       refine Ev.pos oo (Ev.known (fun _ => l1Own_ev _ oo) (Ev.known (fun _ => rfl) (Ev.pos (by simp; omega) (Ev.pos oo (Ev.pos oo (Ev.bind hr ?_))))))
       cases hs : (if cost + rd ws (done.length : Int) * (l : Int) ≤ due ∧ can (done ++ [(l : Int)]) = true then srch ws due m (done ++ [(l : Int)]) (cost + rd ws (done.length : Int) * (l : Int)) else none) with
       | none =>
        refine Ev.neg (by simp) ?_
        exact ih'
       | some x =>
        have hx : x.length = (done ++ [(l : Int)]).length + m := by
         split at hs
         ·exact srch_length ws due m _ _ x hs
         ·cases hs
        exact Ev.pos (by simp at hx ⊢; omega) (Ev.now _)
     exact loop 11 1 oo oo
   refine Ev.cases (fun hpos => ?_) (fun hpos => ?_)
   ·have hc := beCan_ev done oo hin
    refine Ev.bind hc ?_
    cases hcan : can done with
    | false => rw [if_neg (fun h => by simp at h)]; exact no
    | true => rw [if_pos ⟨by omega, rfl⟩]; exact main hcan
   ·have hnil : done = [] := List.eq_nil_of_length_eq_zero oo
    have hcan : can done = true := by rw [hnil]; rfl
    rw [if_pos ⟨by omega, hcan⟩]
    exact main hcan
def Sg (w : List Int) (i j : Nat) (v : Int) : Prop := ∃ D : List Nat, Tr (j - i - 1) D ∧ D.length = j - i ∧ v = dot (w.drop i) (D.map fun x : Nat => (x : Int)) ∧ 0 ≤ v ∧ v ≤ 100000
theorem dot_take : ∀ (ws xs ys : List Int), dot ws (xs ++ ys) = dot ws xs + dot (ws.drop xs.length) ys
 | [], xs, ys => by cases xs <;> cases ys <;> simp [dot]
 | w :: ws, [], ys => by simp [dot]
 | w :: ws, x :: xs, ys => by
  simp only [List.cons_append, dot, List.length_cons, List.drop_succ_cons]
  rw [dot_take ws xs ys]; omega
theorem dot_up : ∀ (ws : List Int) (D : List Nat), D.length ≤ ws.length → dot ws ((D.map (· + 1)).map fun x : Nat => (x : Int)) = dot ws (D.map fun x : Nat => (x : Int)) + (ws.take D.length).sum
 | [], D, h => by cases D <;> simp [dot] at h ⊢
 | w :: ws, [], h => by simp [dot]
 | w :: ws, d :: D, h => by
  simp only [List.map_cons, dot, List.length_cons, List.take_succ_cons, List.sum_cons]
  rw [dot_up ws D (by simpa using h)]
  have : w * ((d + 1 : Nat) : Int) = w * (d : Int) + w := by rw [Int.natCast_add, Int.mul_add]; simp
  omega
theorem dot_bound : ∀ (ws : List Int) (D : List Nat), (∀ w ∈ ws, 1 ≤ w ∧ w ≤ 100) → (∀ x ∈ D, x ≤ 11) → 0 ≤ dot ws (D.map fun x : Nat => (x : Int)) ∧ dot ws (D.map fun x : Nat => (x : Int)) ≤ 1100 * D.length
 | [], D, _, _ => by cases D <;> simp [dot] <;> omega
 | w :: ws, [], _, _ => by simp [dot]
 | w :: ws, d :: D, h1, h2 => by
  have ih := dot_bound ws D (fun w hw => h1 w (by simp [hw])) (fun x hx => h2 x (by simp [hx]))
  have hw := h1 w (by simp)
  have hd := h2 d (by simp)
  have p0 : 0 ≤ w * (d : Int) := Int.mul_nonneg oo oo
  have p1 : w * (d : Int) ≤ 100 * 11 := Int.mul_le_mul hw.2 oo oo oo
  simp only [List.map_cons, dot, List.length_cons]
  omega
theorem wsum_exact : ∀ (l : List Int) (s : Int), (∀ x ∈ l, 1 ≤ x ∧ x ≤ 100) → 0 ≤ s → s + 100 * l.length ≤ 1000000 → wsum s l = s + l.sum
 | [], s, _, _, _ => by simp [wsum]
 | x :: l, s, h, h0, h1 => by
  have hx := h x (by simp)
  simp only [List.length_cons] at h1
  rw [wsum, w64 oo oo, wsum_exact l (s + x) (fun y hy => h y (by simp [hy])) oo oo, List.sum_cons]; omega
theorem sum_bound : ∀ (l : List Int), (∀ x ∈ l, 1 ≤ x ∧ x ≤ 100) → 0 ≤ l.sum ∧ l.sum ≤ 100 * l.length
 | [], _ => by simp
 | x :: l, h => by
  have hx := h x (by simp)
  have ih := sum_bound l (fun y hy => h y (by simp [hy]))
  simp only [List.sum_cons, List.length_cons]; omega
theorem Sg.join {w : List Int} (hw : ∀ x ∈ w, 1 ≤ x ∧ x ≤ 100) (hl : w.length ≤ 6) {i u j : Nat} (h1 : i < u) (h2 : u < j) (hj : j ≤ w.length) {a b : Int} (ha : Sg w i u a) (hb : Sg w u j b) : Sg w i j (a + b + ((w.take j).drop i).sum) := by
 obtain ⟨D1, t1, l1, e1, -, -⟩ := ha
 obtain ⟨D2, t2, l2, e2, -, -⟩ := hb
 have t : Tr (j - i - 1) (D1.map (· + 1) ++ D2.map (· + 1)) := by
  rw [show j - i - 1 = (j - i - 2) + 1 by omega]
  exact .node (t1.up _ oo) (t2.up _ oo)
 have hlen : (D1.map (· + 1) ++ D2.map (· + 1)).length = j - i := by simp; omega
 have hv : a + b + ((w.take j).drop i).sum = dot (w.drop i) ((D1.map (· + 1) ++ D2.map (· + 1)).map fun x : Nat => (x : Int)) := by
  rw [List.map_append, dot_take, dot_up _ _ (by simp; omega), List.length_map, List.length_map, List.drop_drop, show i + D1.length = u by omega, dot_up _ _ (by simp; omega), ← e1, ← e2, l1, l2]
  have hs : (w.take j).drop i = (w.drop i).take (u - i) ++ (w.drop u).take (j - u) := by
   rw [List.drop_take, show j - i = (u - i) + (j - u) by omega, List.take_add, List.drop_drop, show i + (u - i) = u by omega]
  rw [hs, List.sum_append]; omega
 have hb := dot_bound (w.drop i) (D1.map (· + 1) ++ D2.map (· + 1)) (fun x hx => hw x (List.mem_of_mem_drop hx)) (fun x hx => by have := t.le x hx; omega)
 refine ⟨_, t, hlen, hv, ?_, ?_⟩
 ·rw [hv]; exact hb.1
 ·rw [hv]; have := hb.2; omega
def Ach (w : List Int) (B : List (List Int)) (size i : Nat) : Prop :=
 B.length = w.length ∧ ∀ a : Nat, a < w.length → (rd_L2 B (a : Int)).length = w.length + 1 ∧ ∀ b : Nat, a < b → b ≤ w.length → (b < a + size ∨ b = a + size ∧ a < i) → Sg w a b (rd (rd_L2 B (a : Int)) (b : Int))
theorem ach_inner (w : List Int) (hw : ∀ x ∈ w, 1 ≤ x ∧ x ≤ 100) (hn : w.length ≤ 6) (size i : Nat) (hs1 : 2 ≤ size) (hi : i + size ≤ w.length) (G : Int → Prop)
  (next : ∀ B, Ach w B size (i + 1) → ∃ r, Ev (fun k => impl_joined.l2 k w (w.length : Int) B (size : Int) ((i + 1 : Nat) : Int)) r ∧ G r) :
  ∀ (e u : Nat) (best : Int) (B : List (List Int)), u + 1 + e = i + size → i ≤ u → Ach w B size i → ((best = -1 ∧ u = i) ∨ (0 ≤ best ∧ best ≤ 200000 ∧ Sg w i (i + size) (best + ((w.take (i + size)).drop i).sum))) → ∃ r, Ev (fun k => impl_joined.l3 k w (w.length : Int) B (size : Int) (i : Int) best ((u + 1 : Nat) : Int)) r ∧ G r
 | 0, u, best, B, hd, hu, T, hbest => by
  have hb : 0 ≤ best ∧ best ≤ 200000 ∧ Sg w i (i + size) (best + ((w.take (i + size)).drop i).sum) := by
   rcases hbest with ⟨_, h⟩ | h
   ·omega
   ·exact h
  obtain ⟨b0, b1, b2⟩ := hb
  have hseg : ∀ x ∈ (w.take (i + size)).drop i, 1 ≤ x ∧ x ≤ 100 := fun x hx => hw x (List.mem_of_mem_take (List.mem_of_mem_drop hx))
  have hsl : ((w.take (i + size)).drop i).length = size := by simp; omega
  have hs := sumWeights_ev ((w.take (i + size)).drop i) oo
  rw [wsum_exact _ 0 hseg oo oo, Int.zero_add] at hs
  have hsb := sum_bound _ hseg
  obtain ⟨s, hs0⟩ : ∃ s, s = ((w.take (i + size)).drop i).sum := ⟨_, rfl⟩
  rw [← hs0] at hs hsb b2
  have T' := T
  obtain ⟨t2, t3⟩ := T
  obtain ⟨a, c⟩ := t3 i oo
  have e0 : Aside0 (wrap64 (best + s) = best + s) := ⟨w64 oo oo⟩
  obtain ⟨r, h2, hG⟩ := next (B.set i ((rd_L2 B (i : Int)).set (i + size) (best + s))) (by
   refine ⟨by simpa using t2, fun a' ha' => ?_⟩
   rw [rdL_set B i a' _ oo]
   obtain ⟨p, q⟩ := t3 a' ha'
   by_cases e : i = a'
   ·subst e
    rw [if_pos rfl]
    refine ⟨by simpa using a, fun b hb1 hb2 hb3 => ?_⟩
    rw [rd_set _ (i + size) b _ oo]
    by_cases e2 : i + size = b
    ·rw [if_pos e2, ← e2]; exact b2
    ·rw [if_neg e2]; exact c b hb1 hb2 oo
   ·rw [if_neg e]
    exact ⟨p, fun b hb1 hb2 hb3 => q b hb1 hb2 oo⟩)
  have e1 : Aside0 (wrap64 ((i : Int) + (size : Int)) = ((u + 1 : Nat) : Int)) := ⟨by rw [w64 oo oo]; omega⟩
  have e4 : Aside0 (wrap64 ((i : Int) + 1) = ((i + 1 : Nat) : Int)) := ⟨by rw [w64 oo oo]; omega⟩
  refine ⟨r, Ev.succ ?_, hG⟩
  simp only [impl_joined.l3, e1.out, e4.out, Int.toNat_natCast]
  refine Ev.neg oo (Ev.pos oo (Ev.pos oo (Ev.pos oo (Ev.pos oo (Ev.bind (a := s) (by rw [show u + 1 = i + size from hd]; exact hs) (Ev.pos oo (Ev.pos oo ?_)))))))
  rw [e0.out, show u + 1 = i + size from hd]; exact h2
 | e + 1, u, best, B, hd, hu, T, hbest => by
  have T' := T
  obtain ⟨t2, t3⟩ := T
  obtain ⟨b, c⟩ := t3 i oo
  obtain ⟨b', c'⟩ := t3 (u + 1) oo
  have s1 := c (u + 1) oo oo oo
  have s2 := c' (i + size) oo hi oo
  have e1 : Aside0 (wrap64 ((i : Int) + (size : Int)) = ((i + size : Nat) : Int)) := ⟨by rw [w64 oo oo]; omega⟩
  have e5 : Aside0 (wrap64 (((u + 1 : Nat) : Int) + 1) = ((u + 1 + 1 : Nat) : Int)) := ⟨by rw [w64 oo oo]; omega⟩
  obtain ⟨v1, hv1⟩ : ∃ v, v = rd (rd_L2 B (i : Int)) ((u + 1 : Nat) : Int) := ⟨_, rfl⟩
  obtain ⟨v2, hv2⟩ : ∃ v, v = rd (rd_L2 B ((u + 1 : Nat) : Int)) ((i + size : Nat) : Int) := ⟨_, rfl⟩
  rw [← hv1] at s1
  rw [← hv2] at s2
  have hJ := Sg.join hw hn oo oo hi s1 s2
  have r1 : 0 ≤ v1 ∧ v1 ≤ 100000 := by obtain ⟨_, _, _, _, p, q⟩ := s1; exact ⟨p, q⟩
  have r2 : 0 ≤ v2 ∧ v2 ≤ 100000 := by obtain ⟨_, _, _, _, p, q⟩ := s2; exact ⟨p, q⟩
  have ev : Aside0 (wrap64 (v1 + v2) = v1 + v2) := ⟨w64 oo oo⟩
  have ih := fun best hb => ach_inner w hw hn size i hs1 hi G next e (u + 1) best B oo oo T' hb
  have good : Sg w i (i + size) (v1 + v2 + ((w.take (i + size)).drop i).sum) := hJ
  by_cases g1 : best < 0
  ·obtain ⟨r, h2, hG⟩ := ih (v1 + v2) (Or.inr ⟨by omega, by omega, good⟩)
   refine ⟨r, Ev.succ ?_, hG⟩
   simp only [impl_joined.l3, e1.out, e5.out, ← hv1, ← hv2, ev.out]
   exact Ev.pos oo (Ev.pos oo (Ev.pos oo (Ev.pos oo (Ev.pos oo (Ev.pos oo (Ev.pos oo (Ev.pos oo (Ev.pos g1 h2))))))))
  ·by_cases g2 : v1 + v2 < best
   ·obtain ⟨r, h2, hG⟩ := ih (v1 + v2) (Or.inr ⟨by omega, by omega, good⟩)
    refine ⟨r, Ev.succ ?_, hG⟩
    simp only [impl_joined.l3, e1.out, e5.out, ← hv1, ← hv2, ev.out]
    exact Ev.pos oo (Ev.pos oo (Ev.pos oo (Ev.pos oo (Ev.pos oo (Ev.pos oo (Ev.pos oo (Ev.pos oo (Ev.neg g1 (Ev.pos g2 h2)))))))))
   ·obtain ⟨r, h2, hG⟩ := ih best (by
     rcases hbest with ⟨h, _⟩ | h
     ·omega
     ·exact Or.inr h)
    refine ⟨r, Ev.succ ?_, hG⟩
    simp only [impl_joined.l3, e1.out, e5.out, ← hv1, ← hv2, ev.out]
    exact Ev.pos oo (Ev.pos oo (Ev.pos oo (Ev.pos oo (Ev.pos oo (Ev.pos oo (Ev.pos oo (Ev.pos oo (Ev.neg g1 (Ev.neg g2 h2)))))))))
theorem ach_mid (w : List Int) (hw : ∀ x ∈ w, 1 ≤ x ∧ x ≤ 100) (hn : w.length ≤ 6) (size : Nat) (hs1 : 2 ≤ size) (hs2 : size ≤ w.length) (G : Int → Prop)
  (next : ∀ B, Ach w B (size + 1) 0 → ∃ r, Ev (fun k => impl_joined.l1 k w (w.length : Int) B ((size + 1 : Nat) : Int)) r ∧ G r) :
  ∀ (d i : Nat) (B : List (List Int)), i + size + d = w.length + 1 → Ach w B size i → ∃ r, Ev (fun k => impl_joined.l2 k w (w.length : Int) B (size : Int) (i : Int)) r ∧ G r
 | 0, i, B, hd, T => by
  obtain ⟨r, h2, hG⟩ := next B ⟨T.1, fun a ha => ⟨(T.2 a ha).1, fun b h1 h2 h3 => (T.2 a ha).2 b h1 h2 oo⟩⟩
  have e1 : Aside0 (wrap64 ((i : Int) + (size : Int)) = ((i + size : Nat) : Int)) := ⟨by rw [w64 oo oo]; omega⟩
  refine ⟨r, Ev.succ ?_, hG⟩
  simp only [impl_joined.l2, e1.out, w1 (show 0 ≤ (size : Int) by omega) (show (size : Int) < 9223372036854775807 by omega)]
  exact Ev.neg oo h2
 | d + 1, i, B, hd, T => by
  have e1 : Aside0 (wrap64 ((i : Int) + (size : Int)) = ((i + size : Nat) : Int)) := ⟨by rw [w64 oo oo]; omega⟩
  obtain ⟨r, h2, hG⟩ := ach_inner w hw hn size i hs1 oo G (fun B T => ach_mid w hw hn size hs1 hs2 G next d (i + 1) B oo T) (size - 1) i (-1) B oo oo T (Or.inl ⟨rfl, rfl⟩)
  refine ⟨r, Ev.succ ?_, hG⟩
  simp only [impl_joined.l2, e1.out, w1 (show 0 ≤ (i : Int) by omega) (show (i : Int) < 9223372036854775807 by omega)]
  exact Ev.pos oo h2
theorem ach_outer (w : List Int) (hw : ∀ x ∈ w, 1 ≤ x ∧ x ≤ 100) (hn1 : 1 ≤ w.length) (hn : w.length ≤ 6) : ∀ (d size : Nat) (B : List (List Int)), size + d = max (w.length + 1) 2 → 2 ≤ size → Ach w B size 0 →
  ∃ r, Ev (fun k => impl_joined.l1 k w (w.length : Int) B (size : Int)) r ∧ Sg w 0 w.length r
 | 0, size, B, hd, hs, T => by
  obtain ⟨t2, t3⟩ := T
  obtain ⟨b, c⟩ := t3 0 oo
  have c1 := c w.length oo oo oo
  rw [show ((0 : Nat) : Int) = 0 from rfl] at b c1
  refine ⟨_, Ev.succ ?_, c1⟩
  simp only [impl_joined.l1]
  exact Ev.neg oo (Ev.pos oo (Ev.pos oo (Ev.pos oo (Ev.now _))))
 | d + 1, size, B, hd, hs, T => by
  obtain ⟨r, h2, hG⟩ := ach_mid w hw hn size hs oo (Sg w 0 w.length) (fun B T => ach_outer w hw hn1 hn d (size + 1) B oo oo T) (w.length + 1 - size) 0 B oo T
  refine ⟨r, Ev.succ ?_, hG⟩
  simp only [impl_joined.l1]; exact Ev.pos oo h2
theorem joined_ach (w : List Int) (hw : ∀ x ∈ w, 1 ≤ x ∧ x ≤ 100) (hn1 : 1 ≤ w.length) (hn : w.length ≤ 6) : ∃ r, Ev (fun k => impl_joined.f k w) r ∧ Sg w 0 w.length r := by
 have T : Ach w (List.replicate w.length (List.replicate (w.length + 1) 0)) 2 0 := by
  refine ⟨by simp, fun a ha => ?_⟩
  have hb : rd_L2 (List.replicate w.length (List.replicate (w.length + 1) (0 : Int))) (a : Int) = List.replicate (w.length + 1) 0 := by unfold rd_L2; simp [List.getD_eq_getElem?_getD, ha]
  rw [hb]
  refine ⟨by simp, fun b h1 h2 h3 => ?_⟩
  obtain rfl : b = a + 1 := by omega
  have hr : rd (List.replicate (w.length + 1) (0 : Int)) ((a + 1 : Nat) : Int) = 0 := by
   unfold rd
   simp only [Int.toNat_natCast, List.getD_eq_getElem?_getD]
   rw [List.getElem?_replicate, if_pos oo]; rfl
  rw [hr]
  refine ⟨[0], .leaf _, by simp, ?_, by omega, by omega⟩
  rw [List.drop_eq_getElem_cons ha, List.map_cons, List.map_nil, dot]
  simp [dot]
 obtain ⟨r, h, hG⟩ := ach_outer w hw hn1 hn (w.length - 1) 2 _ oo oo T
 have fb := fill_impl w w.length oo r h w.length 0 (List.replicate w.length []) oo (by simp) (by simp)
 refine ⟨r, ?_, hG⟩
 unfold impl_joined.f
 refine Ev.pos oo (Ev.pos oo ?_)
 simpa using fb
end OL
theorem wsum_exact : ∀ (l : List Int) (s : Int), (∀ x ∈ l, 1 ≤ x ∧ x ≤ 100) → 0 ≤ s → s + 100 * l.length ≤ 1000000 → wsum s l = s + l.sum
 | [], s, _, _, _ => by simp [wsum]
 | x :: l, s, h, h0, h1 => by
  have hx := h x (by simp)
  simp only [List.length_cons] at h1
  rw [wsum, w64 oo oo, wsum_exact l (s + x) (fun y hy => h y (by simp [hy])) oo oo, List.sum_cons]; omega
theorem sum_bound : ∀ (l : List Int), (∀ x ∈ l, 1 ≤ x ∧ x ≤ 100) → 0 ≤ l.sum ∧ l.sum ≤ 100 * l.length
 | [], _ => by simp
 | x :: l, h => by
  have hx := h x (by simp)
  have ih := sum_bound l (fun y hy => h y (by simp [hy]))
  simp only [List.sum_cons, List.length_cons]; omega
inductive OT : List Int → Int → Prop
 | one (x : Int) : OT [x] 0
 | two {a b : List Int} {u v : Int} : OT a u → OT b v → OT (a ++ b) (u + v + (a ++ b).sum)
theorem OT.pos {l : List Int} {v : Int} (h : OT l v) : 1 ≤ l.length := by
 induction h with
 | one x => simp
 | two _ _ h1 h2 => simp; omega
def Lst (l : List Int) (v : Int) : Prop := OT l v ∧ ∀ u, OT l u → v ≤ u
theorem Lst.only {l : List Int} {u v : Int} (h1 : Lst l u) (h2 : Lst l v) : u = v := Int.le_antisymm (h1.2 v h2.1) (h2.2 u h1.1)
theorem OT.split {l : List Int} {v : Int} (h : OT l v) (h2 : 2 ≤ l.length) : ∃ (c : Nat) (x y : Int), 1 ≤ c ∧ c < l.length ∧ OT (l.take c) x ∧ OT (l.drop c) y ∧ v = x + y + l.sum := by
 cases h with
 | one x => simp at h2
 | @two a b u v g1 g2 =>
  have p1 := g1.pos
  have p2 := g2.pos
  refine ⟨a.length, u, v, p1, by simp; omega, ?_, ?_, rfl⟩
  ·rw [List.take_left' rfl]; exact g1
  ·rw [List.drop_left' rfl]; exact g2
theorem OT.bound {l : List Int} {v : Int} (h : OT l v) (hw : ∀ x ∈ l, 1 ≤ x ∧ x ≤ 100) : 0 ≤ v ∧ v ≤ 100 * (l.length : Int) * (l.length : Int) := by
 induction h with
 | one x => simp
 | @two a b u v h1 h2 ih1 ih2 =>
  have i1 := ih1 (fun x hx => hw x (by simp [hx]))
  have i2 := ih2 (fun x hx => hw x (by simp [hx]))
  have s := sum_bound (a ++ b) hw
  have p1 := h1.pos
  have p2 := h2.pos
  rw [List.length_append] at s ⊢
  generalize (a ++ b).sum = S at s ⊢
  have e : (100 : Int) * ((a.length + b.length : Nat) : Int) * ((a.length + b.length : Nat) : Int) = 100 * (a.length : Int) * (a.length : Int) + 100 * (b.length : Int) * (b.length : Int) + 200 * ((a.length : Int) * (b.length : Int)) := by
   rw [Int.natCast_add]
   simp only [Int.mul_add, Int.add_mul, Int.mul_assoc]
   have : (b.length : Int) * (a.length : Int) = (a.length : Int) * (b.length : Int) := Int.mul_comm _ _
   omega
  rw [e]
  have q : (a.length : Int) + (b.length : Int) ≤ 2 * ((a.length : Int) * (b.length : Int)) := by
   have q1 : (b.length : Int) ≤ (a.length : Int) * (b.length : Int) := by
    have := Int.mul_le_mul_of_nonneg_right (show (1 : Int) ≤ (a.length : Int) by omega) (show (0 : Int) ≤ (b.length : Int) by omega)
    omega
   have q2 : (a.length : Int) ≤ (a.length : Int) * (b.length : Int) := by
    have := Int.mul_le_mul_of_nonneg_left (show (1 : Int) ≤ (b.length : Int) by omega) (show (0 : Int) ≤ (a.length : Int) by omega)
    omega
   omega
  generalize (a.length : Int) * (b.length : Int) = R at q ⊢
  generalize 100 * (a.length : Int) * (a.length : Int) = R1 at i1 ⊢
  generalize 100 * (b.length : Int) * (b.length : Int) = R2 at i2 ⊢
  omega
def seg (w : List Int) (i j : Nat) : List Int := (w.take j).drop i
theorem seg_len (w : List Int) (i j : Nat) (h : j ≤ w.length) : (seg w i j).length = j - i := by unfold seg; simp; omega
theorem seg_mem (w : List Int) (i j : Nat) (x : Int) (h : x ∈ seg w i j) : x ∈ w := List.mem_of_mem_take (List.mem_of_mem_drop h)
theorem seg_join (w : List Int) (i u j : Nat) (h1 : i ≤ u) (h2 : u ≤ j) : seg w i j = seg w i u ++ seg w u j := by
 unfold seg
 have e1 : (w.take j).drop u = ((w.take j).drop i).drop (u - i) := by rw [List.drop_drop]; congr 1; omega
 have e2 : (w.take u).drop i = ((w.take j).drop i).take (u - i) := by
  rw [← List.drop_take, List.take_take, Nat.min_eq_left h2]
 rw [e1, e2, List.take_append_drop]
theorem seg_take (w : List Int) (i j c : Nat) (h : i + c ≤ j) : (seg w i j).take c = seg w i (i + c) := by
 unfold seg
 rw [List.take_drop, List.take_take, Nat.min_eq_left h]
theorem seg_drop (w : List Int) (i j c : Nat) : (seg w i j).drop c = seg w (i + c) j := by
 unfold seg
 rw [List.drop_drop]
theorem seg_bd (w : List Int) (hw : ∀ x ∈ w, 1 ≤ x ∧ x ≤ 100) (hn : w.length ≤ 12) (i j : Nat) (h : j ≤ w.length) {v : Int} (hv : OT (seg w i j) v) : 0 ≤ v ∧ v ≤ 14400 := by
 have := hv.bound (fun x hx => hw x (seg_mem w i j x hx))
 rw [seg_len w i j h] at this
 refine ⟨this.1, Int.le_trans this.2 ?_⟩
 have h1 : ((j - i : Nat) : Int) ≤ 12 := by omega
 have h0 : (0 : Int) ≤ ((j - i : Nat) : Int) := by omega
 generalize ((j - i : Nat) : Int) = n at h1 h0
 have : 100 * n * n ≤ 1200 * 12 := Int.mul_le_mul oo h1 h0 oo
 omega
def Acm (w : List Int) (B : List (List Int)) (size i : Nat) : Prop :=
 B.length = w.length ∧ ∀ a : Nat, a < w.length → (rd_L2 B (a : Int)).length = w.length + 1 ∧ ∀ b : Nat, a < b → b ≤ w.length → (b < a + size ∨ b = a + size ∧ a < i) → Lst (seg w a b) (rd (rd_L2 B (a : Int)) (b : Int))
def Bsf (w : List Int) (B : List (List Int)) (i j u : Nat) (best : Int) : Prop :=
 (best = -1 ∧ u = i) ∨ (0 ≤ best ∧ best ≤ 30000 ∧ OT (seg w i j) (best + (seg w i j).sum) ∧ ∀ c, i < c → c ≤ u → best ≤ rd (rd_L2 B (i : Int)) (c : Int) + rd (rd_L2 B (c : Int)) (j : Int))
theorem acm_inner (w : List Int) (hw : ∀ x ∈ w, 1 ≤ x ∧ x ≤ 100) (hn : w.length ≤ 12) (size i : Nat) (hs1 : 2 ≤ size) (hi : i + size ≤ w.length) (G : Int → Prop)
  (next : ∀ B, Acm w B size (i + 1) → ∃ r, Ev (fun k => impl_joined.l2 k w (w.length : Int) B (size : Int) ((i + 1 : Nat) : Int)) r ∧ G r) :
  ∀ (e u : Nat) (best : Int) (B : List (List Int)), u + 1 + e = i + size → i ≤ u → Acm w B size i → Bsf w B i (i + size) u best → ∃ r, Ev (fun k => impl_joined.l3 k w (w.length : Int) B (size : Int) (i : Int) best ((u + 1 : Nat) : Int)) r ∧ G r
 | 0, u, best, B, hd, hu, T, hbest => by
  have hb : 0 ≤ best ∧ best ≤ 30000 ∧ OT (seg w i (i + size)) (best + (seg w i (i + size)).sum) ∧ ∀ c, i < c → c ≤ u → best ≤ rd (rd_L2 B (i : Int)) (c : Int) + rd (rd_L2 B (c : Int)) ((i + size : Nat) : Int) := by
   rcases hbest with ⟨_, h⟩ | h
   ·omega
   ·exact h
  obtain ⟨b0, b1, b2, b3⟩ := hb
  have hseg : ∀ x ∈ seg w i (i + size), 1 ≤ x ∧ x ≤ 100 := fun x hx => hw x (seg_mem _ _ _ x hx)
  have hsl : (seg w i (i + size)).length = size := by rw [seg_len w i _ hi]; omega
  have hs := sumWeights_ev (seg w i (i + size)) oo
  rw [wsum_exact _ 0 hseg oo oo, Int.zero_add] at hs
  have hsb := sum_bound _ hseg
  have T' := T
  obtain ⟨t2, t3⟩ := T
  obtain ⟨a, c⟩ := t3 i oo
  have least : Lst (seg w i (i + size)) (best + (seg w i (i + size)).sum) := by
   refine ⟨b2, fun v hv => ?_⟩
   obtain ⟨p, x, y, p1, p2, hx, hy, rfl⟩ := hv.split oo
   rw [hsl] at p2
   rw [seg_take w i _ p oo] at hx
   rw [seg_drop] at hy
   have l1 := (c (i + p) oo oo oo).2 x hx
   have l2 := ((t3 (i + p) oo).2 (i + size) oo oo oo).2 y hy
   have l3 := b3 (i + p) oo oo
   omega
  obtain ⟨s, hs0⟩ : ∃ s, s = (seg w i (i + size)).sum := ⟨_, rfl⟩
  rw [← hs0] at hs hsb least
  have e0 : Aside0 (wrap64 (best + s) = best + s) := ⟨w64 oo oo⟩
  obtain ⟨r, h2, hG⟩ := next (B.set i ((rd_L2 B (i : Int)).set (i + size) (best + s))) (by
   refine ⟨by simpa using t2, fun a' ha' => ?_⟩
   rw [rdL_set B i a' _ oo]
   obtain ⟨p, q⟩ := t3 a' ha'
   by_cases e : i = a'
   ·subst e
    rw [if_pos rfl]
    refine ⟨by simpa using a, fun b hb1 hb2 hb3 => ?_⟩
    rw [rd_set _ (i + size) b _ oo]
    by_cases e2 : i + size = b
    ·rw [if_pos e2, ← e2]; exact least
    ·rw [if_neg e2]; exact c b hb1 hb2 oo
   ·rw [if_neg e]
    exact ⟨p, fun b hb1 hb2 hb3 => q b hb1 hb2 oo⟩)
  have e1 : Aside0 (wrap64 ((i : Int) + (size : Int)) = ((u + 1 : Nat) : Int)) := ⟨by rw [w64 oo oo]; omega⟩
  have e4 : Aside0 (wrap64 ((i : Int) + 1) = ((i + 1 : Nat) : Int)) := ⟨by rw [w64 oo oo]; omega⟩
  refine ⟨r, Ev.succ ?_, hG⟩
  simp only [impl_joined.l3, e1.out, e4.out, Int.toNat_natCast]
  refine Ev.neg oo (Ev.pos oo (Ev.pos oo (Ev.pos oo (Ev.pos oo (Ev.bind (a := s) (by rw [show u + 1 = i + size from hd]; exact hs) (Ev.pos oo (Ev.pos oo ?_)))))))
  rw [e0.out, show u + 1 = i + size from hd]; exact h2
 | e + 1, u, best, B, hd, hu, T, hbest => by
  have T' := T
  obtain ⟨t2, t3⟩ := T
  obtain ⟨b, c⟩ := t3 i oo
  obtain ⟨b', c'⟩ := t3 (u + 1) oo
  have s1 := c (u + 1) oo oo oo
  have s2 := c' (i + size) oo hi oo
  have e1 : Aside0 (wrap64 ((i : Int) + (size : Int)) = ((i + size : Nat) : Int)) := ⟨by rw [w64 oo oo]; omega⟩
  have e5 : Aside0 (wrap64 (((u + 1 : Nat) : Int) + 1) = ((u + 1 + 1 : Nat) : Int)) := ⟨by rw [w64 oo oo]; omega⟩
  obtain ⟨v1, hv1⟩ : ∃ v, v = rd (rd_L2 B (i : Int)) ((u + 1 : Nat) : Int) := ⟨_, rfl⟩
  obtain ⟨v2, hv2⟩ : ∃ v, v = rd (rd_L2 B ((u + 1 : Nat) : Int)) ((i + size : Nat) : Int) := ⟨_, rfl⟩
  rw [← hv1] at s1
  rw [← hv2] at s2
  have hJ : OT (seg w i (i + size)) (v1 + v2 + (seg w i (i + size)).sum) := by
   have := OT.two s1.1 s2.1
   rw [← seg_join w i (u + 1) (i + size) oo oo] at this
   exact this
  have r1 := seg_bd w hw hn _ _ oo s1.1
  have r2 := seg_bd w hw hn _ _ oo s2.1
  have ev : Aside0 (wrap64 (v1 + v2) = v1 + v2) := ⟨w64 oo oo⟩
  have ih := fun best hb => acm_inner w hw hn size i hs1 hi G next e (u + 1) best B oo oo T' hb
  have here : ∀ c, c = u + 1 → rd (rd_L2 B (i : Int)) (c : Int) + rd (rd_L2 B (c : Int)) ((i + size : Nat) : Int) = v1 + v2 := fun c hc => by rw [hc, hv1, hv2]
  by_cases g1 : best < 0
  ·have hui : u = i := by
    rcases hbest with ⟨_, h⟩ | h
    ·exact h
    ·omega
   obtain ⟨r, h2, hG⟩ := ih (v1 + v2) (Or.inr ⟨by omega, by omega, hJ, fun c h1 h2 => by rw [here c oo]; omega⟩)
   refine ⟨r, Ev.succ ?_, hG⟩
   simp only [impl_joined.l3, e1.out, e5.out, ← hv1, ← hv2, ev.out]
   exact Ev.pos oo (Ev.pos oo (Ev.pos oo (Ev.pos oo (Ev.pos oo (Ev.pos oo (Ev.pos oo (Ev.pos oo (Ev.pos g1 h2))))))))
  ·obtain ⟨b0, b1, b2, b3⟩ : 0 ≤ best ∧ best ≤ 30000 ∧ OT (seg w i (i + size)) (best + (seg w i (i + size)).sum) ∧ ∀ c, i < c → c ≤ u → best ≤ rd (rd_L2 B (i : Int)) (c : Int) + rd (rd_L2 B (c : Int)) ((i + size : Nat) : Int) := by
    rcases hbest with ⟨h, _⟩ | h
    ·omega
    ·exact h
   by_cases g2 : v1 + v2 < best
   ·obtain ⟨r, h2, hG⟩ := ih (v1 + v2) (Or.inr ⟨by omega, by omega, hJ, fun c h1 h2 => by
     by_cases e : c = u + 1
     ·rw [here c e]; omega
     ·have := b3 c h1 oo; omega⟩)
    refine ⟨r, Ev.succ ?_, hG⟩
    simp only [impl_joined.l3, e1.out, e5.out, ← hv1, ← hv2, ev.out]
    exact Ev.pos oo (Ev.pos oo (Ev.pos oo (Ev.pos oo (Ev.pos oo (Ev.pos oo (Ev.pos oo (Ev.pos oo (Ev.neg g1 (Ev.pos g2 h2)))))))))
   ·obtain ⟨r, h2, hG⟩ := ih best (Or.inr ⟨b0, b1, b2, fun c h1 h2 => by
     by_cases e : c = u + 1
     ·rw [here c e]; omega
     ·exact b3 c h1 oo⟩)
    refine ⟨r, Ev.succ ?_, hG⟩
    simp only [impl_joined.l3, e1.out, e5.out, ← hv1, ← hv2, ev.out]
    exact Ev.pos oo (Ev.pos oo (Ev.pos oo (Ev.pos oo (Ev.pos oo (Ev.pos oo (Ev.pos oo (Ev.pos oo (Ev.neg g1 (Ev.neg g2 h2)))))))))
theorem acm_mid (w : List Int) (hw : ∀ x ∈ w, 1 ≤ x ∧ x ≤ 100) (hn : w.length ≤ 12) (size : Nat) (hs1 : 2 ≤ size) (hs2 : size ≤ w.length) (G : Int → Prop)
  (next : ∀ B, Acm w B (size + 1) 0 → ∃ r, Ev (fun k => impl_joined.l1 k w (w.length : Int) B ((size + 1 : Nat) : Int)) r ∧ G r) :
  ∀ (d i : Nat) (B : List (List Int)), i + size + d = w.length + 1 → Acm w B size i → ∃ r, Ev (fun k => impl_joined.l2 k w (w.length : Int) B (size : Int) (i : Int)) r ∧ G r
 | 0, i, B, hd, T => by
  obtain ⟨r, h2, hG⟩ := next B ⟨T.1, fun a ha => ⟨(T.2 a ha).1, fun b h1 h2 h3 => (T.2 a ha).2 b h1 h2 oo⟩⟩
  have e1 : Aside0 (wrap64 ((i : Int) + (size : Int)) = ((i + size : Nat) : Int)) := ⟨by rw [w64 oo oo]; omega⟩
  refine ⟨r, Ev.succ ?_, hG⟩
  simp only [impl_joined.l2, e1.out, w1 (show 0 ≤ (size : Int) by omega) (show (size : Int) < 9223372036854775807 by omega)]
  exact Ev.neg oo h2
 | d + 1, i, B, hd, T => by
  have e1 : Aside0 (wrap64 ((i : Int) + (size : Int)) = ((i + size : Nat) : Int)) := ⟨by rw [w64 oo oo]; omega⟩
  obtain ⟨r, h2, hG⟩ := acm_inner w hw hn size i hs1 oo G (fun B T => acm_mid w hw hn size hs1 hs2 G next d (i + 1) B oo T) (size - 1) i (-1) B oo oo T (Or.inl ⟨rfl, rfl⟩)
  refine ⟨r, Ev.succ ?_, hG⟩
  simp only [impl_joined.l2, e1.out, w1 (show 0 ≤ (i : Int) by omega) (show (i : Int) < 9223372036854775807 by omega)]
  exact Ev.pos oo h2
theorem seg_all (w : List Int) : seg w 0 w.length = w := by unfold seg; simp
theorem acm_outer (w : List Int) (hw : ∀ x ∈ w, 1 ≤ x ∧ x ≤ 100) (hn1 : 1 ≤ w.length) (hn : w.length ≤ 12) : ∀ (d size : Nat) (B : List (List Int)), size + d = max (w.length + 1) 2 → 2 ≤ size → Acm w B size 0 →
  ∃ r, Ev (fun k => impl_joined.l1 k w (w.length : Int) B (size : Int)) r ∧ Lst w r
 | 0, size, B, hd, hs, T => by
  obtain ⟨t2, t3⟩ := T
  obtain ⟨b, c⟩ := t3 0 oo
  have c1 := c w.length oo oo oo
  rw [show ((0 : Nat) : Int) = 0 from rfl] at b c1
  rw [seg_all] at c1
  refine ⟨_, Ev.succ ?_, c1⟩
  simp only [impl_joined.l1]
  exact Ev.neg oo (Ev.pos oo (Ev.pos oo (Ev.pos oo (Ev.now _))))
 | d + 1, size, B, hd, hs, T => by
  obtain ⟨r, h2, hG⟩ := acm_mid w hw hn size hs oo (Lst w) (fun B T => acm_outer w hw hn1 hn d (size + 1) B oo oo T) (w.length + 1 - size) 0 B oo T
  refine ⟨r, Ev.succ ?_, hG⟩
  simp only [impl_joined.l1]; exact Ev.pos oo h2
theorem joined_least (w : List Int) (hw : ∀ x ∈ w, 1 ≤ x ∧ x ≤ 100) (hn1 : 1 ≤ w.length) (hn : w.length ≤ 12) : ∃ r, Ev (fun k => impl_joined.f k w) r ∧ Lst w r := by
 have T : Acm w (List.replicate w.length (List.replicate (w.length + 1) 0)) 2 0 := by
  refine ⟨by simp, fun a ha => ?_⟩
  have hb : rd_L2 (List.replicate w.length (List.replicate (w.length + 1) (0 : Int))) (a : Int) = List.replicate (w.length + 1) 0 := by unfold rd_L2; simp [List.getD_eq_getElem?_getD, ha]
  rw [hb]
  refine ⟨by simp, fun b h1 h2 h3 => ?_⟩
  obtain rfl : b = a + 1 := by omega
  have hr : rd (List.replicate (w.length + 1) (0 : Int)) ((a + 1 : Nat) : Int) = 0 := by
   unfold rd
   simp only [Int.toNat_natCast, List.getD_eq_getElem?_getD]
   rw [List.getElem?_replicate, if_pos oo]; rfl
  have hsg : seg w a (a + 1) = [w[a]] := by
   unfold seg
   rw [List.take_succ_eq_append_getElem ha, List.drop_left' (by simp; omega)]
  rw [hr, hsg]
  refine ⟨.one _, fun u hu => ?_⟩
  exact (hu.bound (fun x hx => by rw [List.mem_singleton] at hx; subst hx; exact hw _ (List.getElem_mem ha))).1
 obtain ⟨r, h, hG⟩ := acm_outer w hw hn1 hn (w.length - 1) 2 _ oo oo T
 have fb := fill_impl w w.length oo r h w.length 0 (List.replicate w.length []) oo (by simp) (by simp)
 refine ⟨r, ?_, hG⟩
 unfold impl_joined.f
 refine Ev.pos oo (Ev.pos oo ?_)
 simpa using fb
theorem ks_down (E : Nat) : ∀ D : List Nat, ks 2 (E + 1) (D.map (· + 1)) = ks 2 E D
 | [] => rfl
 | d :: D => by rw [List.map_cons, ks_cons, ks_cons, ks_down E D, Nat.add_sub_add_right]
theorem dot_more : ∀ (ws : List Int) (D : List Nat), D.length = ws.length → dot ws (D.map (· + 1)) = dot ws D + sI ws
 | [], [], _ => by simp [dot, sI]
 | w :: ws, d :: D, h => by
  have ih := dot_more ws D (by simpa using h)
  simp only [List.map_cons, dot, sI, ih]
  have : ((d + 1 : Nat) : Int) * w = (d : Int) * w + w := by rw [Int.natCast_add, Int.add_mul]; simp
  omega
theorem sI_sum : ∀ l : List Int, sI l = l.sum
 | [] => rfl
 | x :: l => by rw [sI, sI_sum l, List.sum_cons]
theorem dot_ge0 : ∀ (ws : List Int) (D : List Nat), (∀ w ∈ ws, 0 ≤ w) → 0 ≤ dot ws D
 | [], D, _ => by simp [dot]
 | _ :: _, [], _ => by simp [dot]
 | w :: ws, d :: D, h => by
  have ih := dot_ge0 ws D (fun x hx => h x (by simp [hx]))
  have := Int.mul_nonneg (show (0 : Int) ≤ (d : Int) by omega) (h w (by simp))
  simp only [dot]; omega
theorem OT.depths {w : List Int} {v : Int} (h : OT w v) : ∃ D : List Nat, D.length = w.length ∧ (∀ d ∈ D, d + 1 ≤ w.length) ∧ (2 ≤ w.length → ∀ d ∈ D, 1 ≤ d) ∧ dot w D = v ∧ ∀ E, w.length ≤ E + 1 → ks 2 E D ≤ 2 ^ E := by
 induction h with
 | one x => exact ⟨[0], rfl, by simp, by simp, by simp [dot], fun E _ => by simp [ks_cons, ks, sN]⟩
 | @two a b u v h1 h2 ih1 ih2 =>
  obtain ⟨D1, p1, p2, -, p3, p4⟩ := ih1
  obtain ⟨D2, q1, q2, -, q3, q4⟩ := ih2
  have l1 := h1.pos
  have l2 := h2.pos
  refine ⟨D1.map (· + 1) ++ D2.map (· + 1), by simp [p1, q1], fun d hd => ?_, fun _ d hd => ?_, ?_, fun E hE => ?_⟩
  ·rw [List.length_append]
   rcases List.mem_append.1 hd with hd | hd
   ·obtain ⟨y, hy, rfl⟩ := List.mem_map.1 hd; have := p2 y hy; omega
   ·obtain ⟨y, hy, rfl⟩ := List.mem_map.1 hd; have := q2 y hy; omega
  ·rcases List.mem_append.1 hd with hd | hd
   ·obtain ⟨y, hy, rfl⟩ := List.mem_map.1 hd; omega
   ·obtain ⟨y, hy, rfl⟩ := List.mem_map.1 hd; omega
  ·rw [dot_append _ _ _ _ (by simp [p1]), dot_more a D1 p1, dot_more b D2 q1, p3, q3, sI_sum, sI_sum, List.sum_append]; omega
  ·rw [List.length_append] at hE
   obtain ⟨E, rfl⟩ : ∃ e, E = e + 1 := ⟨E - 1, by omega⟩
   rw [ks_append, ks_down, ks_down]
   have := p4 E oo
   have := q4 E oo
   rw [Nat.pow_succ]; omega
theorem dot_split (w : List Int) (L : List Nat) (h : L.length = w.length) (k : Nat) : dot w L = dot (w.take k) (L.take k) + dot (w.drop k) (L.drop k) := by
 have := dot_append (w.take k) (w.drop k) (L.take k) (L.drop k) (by simp [h])
 rwa [List.take_append_drop, List.take_append_drop] at this
theorem sN_pred : ∀ L : List Nat, (∀ l ∈ L, 1 ≤ l) → sN (L.map (· - 1)) + L.length = sN L
 | [], _ => rfl
 | l :: L, h => by
  have := sN_pred L (fun x hx => h x (by simp [hx]))
  have := h l (by simp)
  simp only [List.map_cons, sN, List.length_cons]; omega
theorem map_pred (L : List Nat) (h : ∀ l ∈ L, 1 ≤ l) : (L.map (· - 1)).map (· + 1) = L := by
 rw [List.map_map]
 conv => rhs; rw [← List.map_id L]
 exact List.map_congr_left (fun x hx => by have := h x hx; simp; omega)
theorem ks_dvd (E l : Nat) (hl : l ≤ E) : ∀ L : List Nat, (∀ x ∈ L, x ≤ l) → 2 ^ (E - l) ∣ ks 2 E L
 | [], _ => by simp [ks, sN]
 | x :: L, h => by
  rw [ks_cons]
  have hx := h x (by simp)
  refine Nat.dvd_add ?_ (ks_dvd E l hl L (fun y hy => h y (by simp [hy])))
  exact Nat.pow_dvd_pow 2 oo
theorem desc_tree (E : Nat) : ∀ (N : Nat) (w : List Int) (L : List Nat), sN L ≤ N → L.length = w.length → 1 ≤ w.length → (∀ x ∈ w, 0 ≤ x) → L.Pairwise (fun x y => y ≤ x) → (∀ l ∈ L, l ≤ E) → ks 2 E L ≤ 2 ^ E → ∃ v, OT w v ∧ v ≤ dot w L
 | N, w, L, hN, hl, h1, hw, hd, hE, hk => by
  by_cases one : w.length = 1
  ·obtain ⟨x, rfl⟩ := List.length_eq_one_iff.1 one
   exact ⟨0, .one x, dot_ge0 _ _ hw⟩
  have two : 2 ≤ L.length := by omega
  -- every length is at least 1
  have pos : ∀ l ∈ L, 1 ≤ l := fun l hmem => by
   refine Nat.one_le_iff_ne_zero.2 fun e => ?_
   subst e
   obtain ⟨a, b, e⟩ := List.append_of_mem hmem
   rw [e, ks_append, ks_cons, Nat.sub_zero] at hk
   have hab : 1 ≤ a.length + b.length := by
    have := congrArg List.length e
    simp at this; omega
   have p : ∀ x : List Nat, 1 ≤ x.length → 1 ≤ ks 2 E x := fun x hx => by
    match x, hx with
    | y :: t, _ => rw [ks_cons]; have : 0 < 2 ^ (E - y) := Nat.two_pow_pos _; omega
   by_cases ha : 1 ≤ a.length
   ·have := p a ha; omega
   ·have := p b oo; omega
  obtain ⟨l0, hl0⟩ : ∃ l0, l0 ∈ L := List.exists_mem_of_length_pos oo
  have hE1 : 1 ≤ E := by have := pos l0 hl0; have := hE l0 hl0; omega
  obtain ⟨E', rfl⟩ : ∃ e, E = e + 1 := ⟨E - 1, by omega⟩
  have hpow : 2 ^ (E' + 1) = 2 * 2 ^ E' := by rw [Nat.pow_succ, Nat.mul_comm]
  have hsumL : 1 ≤ N := by
   have := sN_pred L pos; omega
  -- a part whose share is at most one half
  have part : ∀ (u : List Int) (M : List Nat), M.length = u.length → 1 ≤ u.length → (∀ x ∈ u, 0 ≤ x) → M.Pairwise (fun x y => y ≤ x) → (∀ l ∈ M, 1 ≤ l ∧ l ≤ E' + 1) → sN M ≤ sN L → ks 2 (E' + 1) M ≤ 2 ^ E' → ∃ v, OT u v ∧ v + sI u ≤ dot u M := fun u M m1 m2 m3 m4 m5 m6 m7 => by
   have e := map_pred M (fun l h => (m5 l h).1)
   have hs := sN_pred M (fun l h => (m5 l h).1)
   have hkk : ks 2 (E' + 1) M = ks 2 E' (M.map (· - 1)) := by rw [← ks_down E' (M.map (· - 1)), e]
   have hk2 : ks 2 (E' + 1) (M.map (· - 1)) ≤ 2 ^ (E' + 1) := by
    rw [ks_up 2 E' _ (fun l h => by obtain ⟨y, hy, rfl⟩ := List.mem_map.1 h; have := m5 y hy; omega), ← hkk, hpow]
    exact Nat.mul_le_mul_left 2 m7
   obtain ⟨v, hv1, hv2⟩ := desc_tree (E' + 1) (N - 1) u (M.map (· - 1)) oo (by simp [m1]) m2 m3 (by rw [List.pairwise_map]; exact m4.imp (fun h => by omega)) (fun l h => by obtain ⟨y, hy, rfl⟩ := List.mem_map.1 h; have := m5 y hy; omega) hk2
   refine ⟨v, hv1, ?_⟩
   have := dot_more u (M.map (· - 1)) (by simp [m1])
   rw [e] at this
   omega
  by_cases half : ks 2 (E' + 1) L ≤ 2 ^ E'
  ·obtain ⟨v, hv1, hv2⟩ := part w L hl h1 hw hd (fun l h => ⟨pos l h, hE l h⟩) (Nat.le_refl _) half
   refine ⟨v, hv1, ?_⟩
   have : 0 ≤ sI w := sI_nonneg w hw
   omega
  ·-- the shortest ones fill one half
   have cut : ∃ k, k < L.length ∧ 1 ≤ k ∧ ks 2 (E' + 1) (L.drop k) = 2 ^ E' := by
    have key : ∀ d k, k + d = L.length → ks 2 (E' + 1) (L.drop k) ≤ 2 ^ E' ∨ ∃ k', k ≤ k' ∧ k' < L.length ∧ 1 ≤ k' ∧ ks 2 (E' + 1) (L.drop k') = 2 ^ E' := by
     intro d
     induction d with
     | zero =>
      intro k hkd
      left
      rw [List.drop_of_length_le oo]
      simp [ks, sN]
     | succ d ih =>
      intro k hkd
      have hk' : k < L.length := by omega
      rcases ih (k + 1) oo with h | ⟨k', a1, a2, a3, a4⟩
      ·by_cases c : ks 2 (E' + 1) (L.drop k) ≤ 2 ^ E'
       ·exact Or.inl c
       ·right
        refine ⟨k + 1, by omega, ?_, by omega, ?_⟩
        ·refine Nat.lt_of_not_le fun hge => ?_
         have hke : k + 1 = L.length := by omega
         rw [List.drop_eq_getElem_cons hk', ks_cons, hke, List.drop_of_length_le (Nat.le_refl _)] at c
         have hp := pos _ (List.getElem_mem hk')
         have : 2 ^ (E' + 1 - L[k]) ≤ 2 ^ E' := Nat.pow_le_pow_right oo oo
         simp [ks, sN] at c
         omega
        ·rw [List.drop_eq_getElem_cons hk', ks_cons] at c
         have hp := pos _ (List.getElem_mem hk')
         have hq := hE _ (List.getElem_mem hk')
         have hdv := ks_dvd (E' + 1) L[k] hq (L.drop (k + 1)) (fun x hx => by
          obtain ⟨j, hj, rfl⟩ := List.getElem_of_mem hx
          rw [List.getElem_drop]
          exact List.pairwise_iff_getElem.1 hd k (k + 1 + j) hk' (by simp at hj; omega) oo)
         have hdh : 2 ^ (E' + 1 - L[k]) ∣ 2 ^ E' := Nat.pow_dvd_pow 2 oo
         obtain ⟨p, hp'⟩ := hdv
         obtain ⟨q, hq'⟩ := hdh
         have ht : 0 < 2 ^ (E' + 1 - L[k]) := Nat.two_pow_pos _
         rw [hp', hq'] at h
         rw [hp', hq'] at c
         generalize 2 ^ (E' + 1 - L[k]) = t at *
         rw [hp', hq']
         have h5 : p ≤ q := Nat.le_of_mul_le_mul_left h ht
         have h6 : q < p + 1 := by
          have : t * q < t * (p + 1) := by rw [Nat.mul_add, Nat.mul_one]; omega
          exact Nat.lt_of_mul_lt_mul_left this
         rw [show p = q by omega]
      ·exact Or.inr ⟨k', by omega, a2, a3, a4⟩
    rcases key L.length 0 oo with h | ⟨k', a1, a2, a3, a4⟩
    ·rw [List.drop_zero] at h; exact absurd h half
    ·exact ⟨k', a2, a3, a4⟩
   obtain ⟨k, k1, k2, k3⟩ := cut
   have hsplit : ks 2 (E' + 1) L = ks 2 (E' + 1) (L.take k) + ks 2 (E' + 1) (L.drop k) := by rw [← ks_append, List.take_append_drop]
   have hsn : sN (L.take k) + sN (L.drop k) = sN L := by rw [← sN_append, List.take_append_drop]
   obtain ⟨x, hx1, hx2⟩ := part (w.take k) (L.take k) (by simp; omega) (by simp; omega) (fun x hx => hw x (List.mem_of_mem_take hx)) (hd.sublist (List.take_sublist _ _)) (fun l h => ⟨pos l (List.mem_of_mem_take h), hE l (List.mem_of_mem_take h)⟩) oo oo
   obtain ⟨y, hy1, hy2⟩ := part (w.drop k) (L.drop k) (by simp; omega) (by simp; omega) (fun x hx => hw x (List.mem_of_mem_drop hx)) (hd.sublist (List.drop_sublist _ _)) (fun l h => ⟨pos l (List.mem_of_mem_drop h), hE l (List.mem_of_mem_drop h)⟩) oo oo
   have ht := OT.two hx1 hy1
   rw [List.take_append_drop] at ht
   refine ⟨_, ht, ?_⟩
   rw [dot_split w L hl k]
   have hs : sI (w.take k) + sI (w.drop k) = w.sum := by rw [← sI_append, List.take_append_drop, sI_sum]
   omega
termination_by N => N
def intsOf (L : List Nat) : List Int := L.map fun (x : Nat) => (x : Int)
theorem ints_len (L : List Nat) : (intsOf L).length = L.length := by simp [intsOf]
theorem ints_at (L : List Nat) (i : Nat) (h : i < L.length) : rd (intsOf L) (i : Int) = ((L[i] : Nat) : Int) := by
 rw [rd_nat _ i (by rw [ints_len]; exact h)]
 simp [intsOf]
theorem ints_of (l : List Int) (h : ∀ x ∈ l, 1 ≤ x) : l = intsOf (l.map Int.toNat) := by
 unfold intsOf
 rw [List.map_map]
 conv => lhs; rw [← List.map_id l]
 apply List.map_congr_left
 intro x hx
 have := h x hx
 simp
 omega
theorem cost_l0 (w : List Int) (L : List Nat) (hl : L.length = w.length) (h12 : w.length ≤ 12) (hw : ∀ x ∈ w, 1 ≤ x ∧ x ≤ 100) (hb : ∀ x ∈ L, 1 ≤ x ∧ x ≤ 11) : ∀ (d i : Nat) (s : Int), i + d = w.length → 0 ≤ s → s ≤ 1200 * (i : Int) → Ev (fun k => impl_costOf.l0 k (intsOf L) s w (w.length : Int) (i : Int)) (s + dot (w.drop i) (L.drop i))
 | 0, i, s, hd, _, _ => by
  rw [List.drop_of_length_le oo]
  exact Ev.succ (by simp only [impl_costOf.l0]; exact Ev.neg oo (Ev.pure (by simp [dot])))
 | d + 1, i, s, hd, h0, hs => by
  have hi : i < w.length := by omega
  have hi' : i < L.length := by omega
  rw [List.drop_eq_getElem_cons hi, List.drop_eq_getElem_cons hi']
  simp only [dot]
  have hp := mul_le_1100 (l := L[i]) (x := w[i]) (by have := hb _ (List.getElem_mem hi'); omega) (hw _ (List.getElem_mem hi))
  have hc : w[i] * ((L[i] : Nat) : Int) = ((L[i] : Nat) : Int) * w[i] := Int.mul_comm _ _
  generalize hP : ((L[i] : Nat) : Int) * w[i] = P at hp hc
  have h1 := cost_l0 w L hl h12 hw hb d (i + 1) (s + P) oo oo oo
  rw [show s + P + dot (w.drop (i + 1)) (L.drop (i + 1)) = s + (P + dot (w.drop (i + 1)) (L.drop (i + 1))) by omega] at h1
  have wi := w1 (show 0 ≤ (i : Int) by omega) (show (i : Int) < 9223372036854775807 by omega)
  have e1 : Aside0 (wrap64 P = P) := ⟨w64 oo oo⟩
  have e2 : Aside0 (wrap64 (s + P) = s + P) := ⟨w64 oo oo⟩
  refine Ev.succ ?_
  simp only [impl_costOf.l0, rd_nat w i hi, ints_at L i hi', hc, e1.out, e2.out, wi]
  exact Ev.pos oo (Ev.pos oo (Ev.pos oo (Ev.pos (by rw [ints_len]; omega) h1)))
def deepB (l : List Int) : Bool := decide (1 ≤ (l.length : Int) ∧ (l.length : Int) ≤ 12) && l.all fun x => decide (1 ≤ x ∧ x ≤ 11)
theorem deepB_ints {L : List Nat} (h1 : 1 ≤ L.length) (h2 : L.length ≤ 12) (hb : ∀ x ∈ L, 1 ≤ x ∧ x ≤ 11) : deepB (intsOf L) = true := by
 unfold deepB
 simp only [Bool.and_eq_true, decide_eq_true_eq, List.all_eq_true, ints_len]
 refine ⟨by omega, fun x hx => ?_⟩
 obtain ⟨y, hy, rfl⟩ := List.mem_map.1 hx
 have := hb y hy
 omega
theorem implDeep (l : List Int) (hl : l.length ≤ 1048576) : Ev (fun k => impl_areDeep.f k l) (deepB l) := impl_areDeep_ev l hl
theorem specDeep (l : List Int) (hl : l.length ≤ 1048576) : Ev (fun k => spec_beLengths.f k l) (deepB l) := beLengths_ev l hl
def weighB (w : List Int) : Bool := decide (1 ≤ (w.length : Int) ∧ (w.length : Int) ≤ 12) && w.all fun x => decide (1 ≤ x ∧ x ≤ 100)
theorem implWeigh (w : List Int) (hl : w.length ≤ 1048576) : Ev (fun k => impl_areWeights.f k w) (weighB w) := impl_areWeights_ev w hl
theorem specWeigh (w : List Int) (hl : w.length ≤ 1048576) : Ev (fun k => spec_beWeights.f k w) (weighB w) := beWeights_ev w hl
theorem weighB_of {w : List Int} (h : weighB w = true) : 1 ≤ w.length ∧ w.length ≤ 12 ∧ ∀ x ∈ w, 1 ≤ x ∧ x ≤ 100 := by
 unfold weighB at h
 simp only [Bool.and_eq_true, decide_eq_true_eq, List.all_eq_true] at h
 exact ⟨by omega, by omega, h.2⟩
abbrev ch (s : ByteArray) : List UInt8 := s.data.toList
theorem ch_length (s : ByteArray) : (ch s).length = s.size := Array.length_toList
theorem ch_extract (s : ByteArray) (a b : Nat) : ch (s.extract a b) = ((ch s).drop a).take (b - a) := by
 simp [ch, ByteArray.data_extract, Array.toList_extract, List.extract_eq_take_drop]
theorem begins_test (a w : ByteArray) (h : w.size ≤ a.size) : ((a.extract 0 w.size).toList == w.toList) = (ch w).isPrefixOf (ch a) := by
 rw [ByteArray.toList_eq, ByteArray.toList_eq]
 change (ch (a.extract 0 w.size) == ch w) = _
 rw [ch_extract, List.drop_zero, Nat.sub_zero, ← ch_length w, Bool.eq_iff_iff, beq_iff_eq, List.isPrefixOf_iff_prefix, List.prefix_iff_eq_take]
 exact eq_comm
theorem prefix_long (a w : ByteArray) (h : ¬ w.size ≤ a.size) : (ch w).isPrefixOf (ch a) = false := by
 rw [Bool.eq_false_iff]
 intro hp
 have := (List.isPrefixOf_iff_prefix.1 hp).length_le
 rw [ch_length, ch_length] at this
 exact h this
theorem toList_ch (s : ByteArray) : s.toList = ch s := ByteArray.toList_eq s
theorem rdOf_nat (l : List ByteArray) (i : Nat) (h : i < l.length) : rdOf ByteArray.empty l (i : Int) = l[i] := by
 unfold rdOf; simp [List.getD_eq_getElem?_getD, h]
theorem yBegins_eq (a w : ByteArray) : laws_yBegins.f a w = some ((ch w).isPrefixOf (ch a)) := by
 unfold laws_yBegins.f
 by_cases h : w.size ≤ a.size
 ·rw [if_pos oo, if_pos oo, begins_test a w h]
 ·rw [if_neg oo, prefix_long a w h]
def Free (ws : List ByteArray) : Prop := ∀ i j (hi : i < ws.length) (hj : j < ws.length), i ≠ j → (ch ws[j]).isPrefixOf (ch ws[i]) = false
theorem yPrefix_l1 (ws : List ByteArray) (hl : ws.length ≤ 1048576) (hf : Free ws) (x7 : List ByteArray) (x8 : Int) (i : Nat) (hi : i < ws.length) (next : Ev (fun k => laws_yPrefix.l0 k ws x7 x8 ((i : Int) + 1)) true) : ∀ (d j : Nat), j + d = ws.length → Ev (fun k => laws_yPrefix.l1 k ws (i : Int) ws[i] x7 x8 (i : Int) ws (ws.length : Int) (j : Int)) true
 | 0, j, hd => by
  have wi := w1 (show 0 ≤ (i : Int) by omega) (show (i : Int) < 9223372036854775807 by omega)
  refine Ev.succ ?_
  simp only [laws_yPrefix.l1, wi]
  exact Ev.neg oo next
 | d + 1, j, hd => by
  have hj : j < ws.length := by omega
  have ih := yPrefix_l1 ws hl hf x7 x8 i hi next d (j + 1) oo
  have wj := w1 (show 0 ≤ (j : Int) by omega) (show (j : Int) < 9223372036854775807 by omega)
  refine Ev.succ ?_
  simp only [laws_yPrefix.l1, rdOf_nat ws j hj, wj, yBegins_eq]
  refine Ev.pos oo (Ev.pos oo (Ev.pos oo ?_))
  by_cases c : i = j
  ·exact Ev.pos oo ih
  ·refine Ev.neg oo (Ev.known (fun _ => rfl) ?_)
   rw [hf i j hi hj c]
   exact Ev.neg (by simp) ih
theorem yPrefix_l0 (ws : List ByteArray) (hl : ws.length ≤ 1048576) (hf : Free ws) : ∀ (d i : Nat), i + d = ws.length → Ev (fun k => laws_yPrefix.l0 k ws ws (ws.length : Int) (i : Int)) true
 | 0, i, hd => by
  refine Ev.succ ?_
  simp only [laws_yPrefix.l0]
  exact Ev.neg oo (Ev.now _)
 | d + 1, i, hd => by
  have hi : i < ws.length := by omega
  have ih := yPrefix_l0 ws hl hf d (i + 1) oo
  refine Ev.succ ?_
  simp only [laws_yPrefix.l0, rdOf_nat ws i hi]
  exact Ev.pos oo (Ev.pos oo (Ev.pos oo (yPrefix_l1 ws hl hf ws _ i hi ih ws.length 0 oo)))
theorem yPrefix_ev (ws : List ByteArray) (hl : ws.length ≤ 1048576) (hf : Free ws) : Ev (fun k => laws_yPrefix.f k ws) true := yPrefix_l0 ws hl hf ws.length 0 oo
theorem digs_take (m l : Nat) : ∀ d n, (digs m (l + d) n).take l = digs m l (n / m ^ d)
 | 0, n => by rw [Nat.add_zero, Nat.pow_zero, Nat.div_one, List.take_of_length_le (by rw [digs_length]; exact Nat.le_refl _)]
 | d + 1, n => by
  rw [← Nat.add_assoc, digs, List.take_append_of_le_length (by rw [digs_length]; omega), digs_take m l d, Nat.div_div_eq_div_mul, Nat.pow_succ, Nat.mul_comm m]
theorem bl_lt : ∀ (x y s t : List UInt8), x.length = y.length → Op.bytesLess x y = true → Op.bytesLess (x ++ s) (y ++ t) = true
 | [], [], s, t, _, h => by simp [Op.bytesLess] at h
 | a :: x, b :: y, s, t, hl, h => by
  simp only [Op.bytesLess, List.cons_append, Bool.or_eq_true, Bool.and_eq_true] at h ⊢
  rcases h with h | ⟨h1, h2⟩
  ·exact Or.inl h
  ·exact Or.inr ⟨h1, bl_lt x y s t (by simpa using hl) h2⟩
theorem bl_same : ∀ (x s t : List UInt8), Op.bytesLess (x ++ s) (x ++ t) = Op.bytesLess s t
 | [], s, t => rfl
 | a :: x, s, t => by
  simp only [List.cons_append, Op.bytesLess]
  rw [bl_same x s t]
  simp
theorem bl_irr : ∀ x : List UInt8, Op.bytesLess x x = false
 | [] => rfl
 | a :: x => by simp only [Op.bytesLess, bl_irr x]; simp
theorem digs_lt : ∀ (c A B : Nat), A < B → B < 2 ^ c → Op.bytesLess (digs 2 c A) (digs 2 c B) = true
 | 0, A, B, h, hB => by simp at hB; omega
 | c + 1, A, B, h, hB => by
  rw [digs, digs]
  have hp : 2 ^ (c + 1) = 2 * 2 ^ c := by rw [Nat.pow_succ, Nat.mul_comm]
  by_cases e : A / 2 < B / 2
  ·exact bl_lt _ _ _ _ (by rw [digs_length, digs_length]) (digs_lt c _ _ e oo)
  ·have e' : A / 2 = B / 2 := by omega
   rw [e', bl_same, show A % 2 = 0 by omega, show B % 2 = 1 by omega]
   decide
theorem words_gap (p q A B : Nat) (hA : A < 2 ^ p) (hB : B < 2 ^ q) (hp : p ≤ 11) (hq : q ≤ 11) (h : (A + 1) * 2 ^ (11 - p) ≤ B * 2 ^ (11 - q)) :
  Op.bytesLess (digs 2 p A) (digs 2 q B) = true ∧ (digs 2 p A).isPrefixOf (digs 2 q B) = false ∧ (digs 2 q B).isPrefixOf (digs 2 p A) = false := by
 obtain ⟨c, A', B', hc, h1, h2, h3⟩ : ∃ c A' B', c ≤ p ∧ c ≤ q ∧ (c = p ∨ c = q) ∧ A' < B' ∧ B' < 2 ^ c ∧ (digs 2 p A).take c = digs 2 c A' ∧ (digs 2 q B).take c = digs 2 c B' := by
  rcases Nat.le_total p q with c | c
  ·obtain ⟨d, rfl⟩ : ∃ d, q = p + d := ⟨q - p, by omega⟩
   have e : 2 ^ (11 - p) = 2 ^ d * 2 ^ (11 - (p + d)) := by rw [← Nat.pow_add]; congr 1; omega
   rw [e, ← Nat.mul_assoc] at h
   have h' := Nat.le_of_mul_le_mul_right h (Nat.two_pow_pos _)
   have hd : 0 < 2 ^ d := Nat.two_pow_pos _
   refine ⟨p, A, B / 2 ^ d, Nat.le_refl _, by omega, Or.inl rfl, ?_, ?_, ?_, digs_take 2 p d B⟩
   ·exact (Nat.le_div_iff_mul_le hd).2 h'
   ·rw [Nat.pow_add] at hB
    exact Nat.div_lt_of_lt_mul (by rw [Nat.mul_comm]; exact hB)
   ·rw [List.take_of_length_le (by rw [digs_length]; exact Nat.le_refl _)]
  ·obtain ⟨d, rfl⟩ : ∃ d, p = q + d := ⟨p - q, by omega⟩
   have e : 2 ^ (11 - q) = 2 ^ d * 2 ^ (11 - (q + d)) := by rw [← Nat.pow_add]; congr 1; omega
   rw [e, ← Nat.mul_assoc] at h
   have h' := Nat.le_of_mul_le_mul_right h (Nat.two_pow_pos _)
   have hd : 0 < 2 ^ d := Nat.two_pow_pos _
   refine ⟨q, A / 2 ^ d, B, by omega, Nat.le_refl _, Or.inr rfl, ?_, hB, digs_take 2 q d A, ?_⟩
   ·exact Nat.div_lt_of_lt_mul (by rw [Nat.mul_comm]; exact h')
   ·rw [List.take_of_length_le (by rw [digs_length]; exact Nat.le_refl _)]
 obtain ⟨hc2, h4, h5, h6⟩ := h3
 have hlt := digs_lt c A' B' hc2 h4
 have ne : (digs 2 p A).take c ≠ (digs 2 q B).take c := fun e => by
  rw [h5, h6] at e
  rw [e, bl_irr] at hlt
  cases hlt
 refine ⟨?_, ?_, ?_⟩
 ·rw [← List.take_append_drop c (digs 2 p A), ← List.take_append_drop c (digs 2 q B), h5, h6]
  exact bl_lt _ _ _ _ (by rw [digs_length, digs_length]) hlt
 ·rw [Bool.eq_false_iff]
  intro hpre
  rw [List.isPrefixOf_iff_prefix] at hpre
  obtain ⟨t, ht⟩ := hpre
  refine ne ?_
  rw [← ht, List.take_append_of_le_length (by rw [digs_length]; exact hc)]
 ·rw [Bool.eq_false_iff]
  intro hpre
  rw [List.isPrefixOf_iff_prefix] at hpre
  obtain ⟨t, ht⟩ := hpre
  refine ne ?_
  rw [← ht, List.take_append_of_le_length (by rw [digs_length]; exact h1)]
theorem place_up (b n l : Nat) (hb : b ≤ 11) (hl : l ≤ 11) : n * 2 ^ (11 - b) ≤ place b n l * 2 ^ (11 - l) := by
 rw [← place_impl b n l hb hl]
 have hp : 0 < 2 ^ (11 - l) := Nat.two_pow_pos _
 generalize n * 2 ^ (11 - b) = a
 generalize 2 ^ (11 - l) = t at hp
 have h1 := Nat.div_add_mod (a + t - 1) t
 have h2 := Nat.mod_lt (a + t - 1) hp
 rw [Nat.mul_comm] at h1
 omega
theorem go_gap : ∀ (xs : List Int) (b n : Nat) (ps : List Nat), b ≤ 11 → n ≤ 2 ^ b → (∀ x ∈ xs, 1 ≤ x ∧ x ≤ 11) → go b n xs = some ps →
  (∀ i (h1 : i < xs.length) (h2 : i < ps.length), ps[i] < 2 ^ xs[i].toNat ∧ n * 2 ^ (11 - b) ≤ ps[i] * 2 ^ (11 - xs[i].toNat)) ∧ ∀ i j (h1 : j < xs.length) (h2 : j < ps.length) (h : i < j), (ps[i]'oo + 1) * 2 ^ (11 - (xs[i]'oo).toNat) ≤ ps[j] * 2 ^ (11 - xs[j].toNat)
 | [], b, n, ps, hb, hn, hx, h => ⟨fun i h1 => by simp at h1, fun i j h1 => by simp at h1⟩
 | x :: xs, b, n, ps, hb, hn, hx, h => by
  have hxx := hx x (by simp)
  have hpu := place_up b n x.toNat hb oo
  simp only [go] at h
  split at h
  ·cases h
  ·rename_i hge
   obtain ⟨z, hz, rfl⟩ := Option.map_eq_some_iff.mp h
   obtain ⟨g1, g2⟩ := go_gap xs x.toNat _ z oo oo (fun y hy => hx y (by simp [hy])) hz
   refine ⟨fun i h1 h2 => ?_, fun i j h1 h2 h => ?_⟩
   ·cases i with
    | zero => exact ⟨by simp; omega, by simpa using hpu⟩
    | succ i =>
     obtain ⟨a1, a2⟩ := g1 i (by simpa using h1) (by simpa using h2)
     refine ⟨by simpa using a1, ?_⟩
     simp only [List.getElem_cons_succ]
     refine Nat.le_trans hpu (Nat.le_trans (Nat.mul_le_mul_right _ oo) a2)
   ·cases j with
    | zero => omega
    | succ j =>
     cases i with
     | zero =>
      obtain ⟨a1, a2⟩ := g1 j (by simpa using h1) (by simpa using h2)
      simpa using a2
     | succ i =>
      have := g2 i j (by simpa using h1) (by simpa using h2) oo
      simpa using this
theorem wordsOf_get : ∀ (ps : List Nat) (xs : List Int) (i : Nat) (h1 : i < ps.length) (h2 : i < xs.length) (h : i < (wordsOf ps xs).length), (wordsOf ps xs)[i] = ⟨(digs 2 xs[i].toNat ps[i]).toArray⟩
 | p :: ps, x :: xs, 0, _, _, _ => rfl
 | p :: ps, x :: xs, i + 1, h1, h2, h => by
  simp only [wordsOf, List.getElem_cons_succ]
  exact wordsOf_get ps xs i (by simpa using h1) (by simpa using h2) _
theorem bx_size (l : List UInt8) : (⟨l.toArray⟩ : ByteArray).size = l.length := by simp [ByteArray.size]
theorem bx_ch (l : List UInt8) : ch (⟨l.toArray⟩ : ByteArray) = l := by simp [ch]
theorem words_ok (L : List Int) (ps : List Nat) (hb : ∀ x ∈ L, 1 ≤ x ∧ x ≤ 11) (hg : go 0 0 L = some ps) : ∃ hw : (wordsOf ps L).length = L.length, (∀ i (h : i < L.length), (((wordsOf ps L)[i]'oo).size : Int) = L[i]) ∧ Free (wordsOf ps L) ∧ ∀ i j (h : j < L.length) (hij : i < j), Op.bytesLess ((wordsOf ps L)[i]'oo).toList ((wordsOf ps L)[j]'oo).toList = true := by
 have hpl := go_length L 0 0 ps hg
 have hw := wordsOf_length ps L hpl
 obtain ⟨g1, g2⟩ := go_gap L 0 0 ps oo oo hb hg
 have gap : ∀ i j (h : j < L.length) (hij : i < j), _ := fun i j h hij => words_gap (L[i]'oo).toNat L[j].toNat (ps[i]'oo) (ps[j]'oo) (g1 i oo oo).1 (g1 j h oo).1 (by have := hb _ (List.getElem_mem (show i < L.length by omega)); omega) (by have := hb _ (List.getElem_mem h); omega) (g2 i j h oo hij)
 refine ⟨hw, fun i h => ?_, fun i j hi hj hij => ?_, fun i j h hij => ?_⟩
 ·rw [wordsOf_get ps L i oo h, bx_size, digs_length]
  have := hb _ (List.getElem_mem h)
  omega
 ·rw [wordsOf_get ps L i oo oo, wordsOf_get ps L j oo oo, bx_ch, bx_ch]
  rcases Nat.lt_or_ge i j with c | c
  ·exact (gap i j oo c).2.2
  ·exact (gap j i oo oo).2.1
 ·rw [wordsOf_get ps L i oo oo, wordsOf_get ps L j oo h, toList_ch, toList_ch, bx_ch, bx_ch]
  exact (gap i j h hij).1
def numsOf (l : List UInt8) : List Int := l.map fun c => (c.toNat : Int)
theorem strOfNums_nums (l : List UInt8) : strOfNums (numsOf l) = ⟨l.toArray⟩ := by
 apply ByteArray.ext
 simp [strOfNums, numsOf, Function.comp_def]
theorem abc_at (r : Nat) (h : r < 3) : bt (⟨#[97, 98, 99]⟩ : ByteArray) (r : Int) = ((UInt8.ofNat (97 + r)).toNat : Int) := by
 match r, h with
 | 0, _ => decide
 | 1, _ => decide
 | 2, _ => decide
theorem wordAt_l0 (m : Nat) (hm : 2 ≤ m) (hm3 : m ≤ 3) : ∀ (d n : Nat) (acc : List UInt8), d ≤ 1048576 → n < 4611686018427387904 → Ev (fun k => impl_wordAt.l0 k (n : Int) (m : Int) (List.replicate d 0 ++ numsOf acc) ((d : Int) - 1)) (⟨(digs m d n ++ acc).toArray⟩ : ByteArray)
 | 0, n, acc, hd, hn => by
  refine Ev.succ ?_
  simp only [impl_wordAt.l0]
  exact Ev.neg oo (Ev.pure (by simp [strOfNums_nums, digs]))
 | d + 1, n, acc, hd, hn => by
  have h2 : n / m ≤ n := Nat.div_le_self _ _
  have hr : n % m < m := Nat.mod_lt _ oo
  have ih := wordAt_l0 m hm hm3 d (n / m) (UInt8.ofNat (97 + n % m) :: acc) oo oo
  have e1 : Int.tmod (n : Int) (m : Int) = ((n % m : Nat) : Int) := (Int.ofNat_tmod n m).symm
  have e2 : Aside0 (wrap64 (Int.tdiv (n : Int) (m : Int)) = ((n / m : Nat) : Int)) := ⟨by
   rw [← Int.ofNat_tdiv]; generalize n / m = q at h2 ⊢; exact w64 oo oo⟩
  have e3 : Aside0 (wrap64 (((d + 1 : Nat) : Int) - 1 - 1) = (d : Int) - 1) := ⟨by rw [w64 oo oo]; omega⟩
  have e4 : (((d + 1 : Nat) : Int) - 1).toNat = d := by omega
  have e5 : (List.replicate (d + 1) (0 : Int) ++ numsOf acc).set d (((UInt8.ofNat (97 + n % m)).toNat : Int)) = List.replicate d 0 ++ numsOf (UInt8.ofNat (97 + n % m) :: acc) := by
   rw [List.set_append_left _ _ (by simp), List.replicate_succ', List.set_append_right _ _ (by simp)]
   simp [numsOf]
  refine Ev.succ ?_
  simp only [impl_wordAt.l0, e1, e2.out, e3.out, e4, abc_at _ (show n % m < 3 by omega), e5]
  refine Ev.pos oo (Ev.neg oo (Ev.pos oo (Ev.pos oo (Ev.pos oo (Ev.pos (by simp; omega) ?_)))))
  rw [digs, List.append_assoc]; exact ih
theorem wordAt_ev (m : Nat) (hm : 2 ≤ m) (hm3 : m ≤ 3) (d n : Nat) (hd : d ≤ 1048576) (hn : n < 4611686018427387904) : Ev (fun k => impl_wordAt.f k (n : Int) (d : Int) (m : Int)) (⟨(digs m d n).toArray⟩ : ByteArray) := by
 have h := wordAt_l0 m hm hm3 d n [] hd hn
 have e : Aside0 (wrap64 ((d : Int) - 1) = (d : Int) - 1) := ⟨w64 oo oo⟩
 unfold impl_wordAt.f
 rw [e.out]
 refine Ev.pos oo (Ev.pos oo ?_)
 simpa [numsOf] using h
theorem yTexts_l0 (l : List ByteArray) (hl : l.length ≤ 1048576) : ∀ (d i : Nat), i + d = l.length → Ev (fun k => laws_yTexts.l0 k l l (l.length : Int) (i : Int)) true
 | 0, i, hd => Ev.succ (by simp only [laws_yTexts.l0]; exact Ev.neg oo (Ev.now _))
 | d + 1, i, hd => by
  have ih := yTexts_l0 l hl d (i + 1) oo
  refine Ev.succ ?_
  simp only [laws_yTexts.l0, w1 (show 0 ≤ (i : Int) by omega) (show (i : Int) < 9223372036854775807 by omega)]
  exact Ev.pos oo (Ev.pos oo (Ev.pos oo (Ev.pos oo (Ev.pos (by simp) ih))))
theorem yTexts_ev (l : List ByteArray) (hl : l.length ≤ 1048576) : Ev (fun k => laws_yTexts.f k l l) true := by
 unfold laws_yTexts.f
 exact Ev.pos rfl (by simpa using yTexts_l0 l hl l.length 0 oo)
theorem oc_told (w : List Int) (hl : w.length ≤ 1048576) : ∃ r, Ev (fun k => spec_OrderedCost.f k w) (r, weighB w) ∧ Ev (fun k => impl_OrderedCost.f k w) (r, weighB w) ∧ (weighB w = true → Ev (fun k => impl_orderedCost.f k w) r ∧ (w.length = 1 → r = rd w 0) ∧ (w.length ≠ 1 → Lst w r)) := by
 have a1 := specWeigh w hl
 have a2 := implWeigh w hl
 unfold spec_OrderedCost.f impl_OrderedCost.f
 cases hA : weighB w with
 | false =>
  rw [hA] at a1 a2
  exact ⟨0, Ev.bind a1 (Ev.neg (by simp) (Ev.now _)), Ev.bind a2 (Ev.neg (by simp) (Ev.now _)), fun h => by cases h⟩
 | true =>
  rw [hA] at a1 a2
  obtain ⟨h1, h2, h3⟩ := weighB_of hA
  by_cases e : w.length = 1
  ·have o : Ev (fun k => impl_orderedCost.f k w) (rd w 0) := by unfold impl_orderedCost.f; exact Ev.pos oo (Ev.pos oo (Ev.now _))
   exact ⟨rd w 0, Ev.bind a1 (Ev.pos rfl (Ev.pos oo (Ev.pos oo (Ev.now _)))), Ev.bind a2 (Ev.pos rfl (Ev.bind o (Ev.now _))), fun _ => ⟨o, fun _ => rfl, fun h => absurd e h⟩⟩
  ·obtain ⟨r, s1, s2⟩ := joined_same w h1 h2
   obtain ⟨r', t1, t2⟩ := joined_least w h3 h1 h2
   obtain rfl := ev_one s2 t1
   have o : Ev (fun k => impl_orderedCost.f k w) r := by unfold impl_orderedCost.f; exact Ev.neg oo (Ev.bind s2 (Ev.now _))
   exact ⟨r, Ev.bind a1 (Ev.pos rfl (Ev.neg oo (Ev.bind s1 (Ev.now _)))), Ev.bind a2 (Ev.pos rfl (Ev.bind o (Ev.now _))), fun _ => ⟨o, fun h => absurd h e, fun _ => t2⟩⟩
theorem split_l0 (w : List Int) (hw : w.length ≤ 12) (c : Int) (r : Int × Bool) : ∀ (d i : Nat) (s : Int), i + d = w.length →
  Ev (fun k => spec_SplitCost.l0 k w c (wsum s (w.drop i)) w (w.length : Int) (w.length : Int)) r → Ev (fun k => spec_SplitCost.l0 k w c s w (w.length : Int) (i : Int)) r
 | 0, i, s, hd, h => by
  rw [List.drop_of_length_le oo] at h
  rw [show i = w.length by omega]; exact h
 | d + 1, i, s, hd, h => by
  have h1 : i < w.length := by omega
  rw [List.drop_eq_getElem_cons h1] at h
  have ih := split_l0 w hw c r d (i + 1) (wrap64 (s + w[i])) oo h
  refine Ev.succ ?_
  simp only [spec_SplitCost.l0, rd_nat w i h1, w1 (show 0 ≤ (i : Int) by omega) (show (i : Int) < 9223372036854775807 by omega)]
  exact Ev.pos oo (Ev.pos oo (Ev.pos oo ih))
theorem sc_told (w : List Int) (c : Int) (hw : w.length ≤ 1048576) : ∃ r, Ev (fun k => spec_SplitCost.f k w c) r ∧ Ev (fun k => impl_SplitCost.f k w c) r ∧ (r.2 = true → weighB w = true ∧ ∃ m : Nat, c = (m : Int) ∧ 1 ≤ m ∧ m < w.length) ∧ ∀ m : Nat, weighB w = true → c = (m : Int) → 1 ≤ m → m < w.length → r.2 = true ∧ ∃ x y, Lst (w.take m) x ∧ Lst (w.drop m) y ∧ r.1 = x + y + w.sum := by
 unfold spec_SplitCost.f impl_SplitCost.f
 have a1 := specWeigh w hw
 have a2 := implWeigh w hw
 have no1 : Ev (fun k => spec_SplitCost.j0 k w c true) (0, false) := by
  refine Ev.succ ?_
  simp only [spec_SplitCost.j0]
  exact Ev.pos (by simp) (Ev.now _)
 have no2 : Ev (fun k => impl_SplitCost.j0 k w c true) (0, false) := by
  refine Ev.succ ?_
  simp only [impl_SplitCost.j0]
  exact Ev.pos (by simp) (Ev.now _)
 cases hA : weighB w with
 | false =>
  rw [hA] at a1 a2
  exact ⟨(0, false), Ev.bind a1 (Ev.neg (by simp) no1), Ev.bind a2 (Ev.neg (by simp) no2), fun h => by simp at h, fun m h => by cases h⟩
 | true =>
  rw [hA] at a1 a2
  obtain ⟨g1, g2, g3⟩ := weighB_of hA
  have hn : 1 ≤ w.length ∧ w.length ≤ 12 := ⟨g1, g2⟩
  have e1 : wrap64 ((w.length : Int) - 1) = (w.length : Int) - 1 := w64 oo oo
  by_cases hc : 1 ≤ c ∧ c ≤ (w.length : Int) - 1
  ·have hd : decide (1 ≤ c ∧ c ≤ wrap64 ((w.length : Int) - 1)) = true := by rw [e1]; exact decide_eq_true hc
   obtain ⟨c, rfl⟩ : ∃ m : Nat, c = (m : Int) := ⟨c.toNat, by omega⟩
   obtain ⟨x, x1, x2⟩ := joined_same (w.take c) (by simp; omega) (by simp; omega)
   obtain ⟨y, y1, y2⟩ := joined_same (w.drop c) (by simp; omega) (by simp; omega)
   obtain ⟨x', x3, x4⟩ := joined_least (w.take c) (fun v h => g3 v (List.mem_of_mem_take h)) (by simp; omega) (by simp; omega)
   obtain ⟨y', y3, y4⟩ := joined_least (w.drop c) (fun v h => g3 v (List.mem_of_mem_drop h)) (by simp; omega) (by simp; omega)
   obtain rfl := ev_one x2 x3
   obtain rfl := ev_one y2 y3
   have hs := sumWeights_ev w hw
   have hws : wsum 0 w = w.sum := by rw [wsum_exact w 0 g3 oo oo]; omega
   have hsb := sum_bound w g3
   have bx := x4.1.bound (fun v h => g3 v (List.mem_of_mem_take h))
   have by_ := y4.1.bound (fun v h => g3 v (List.mem_of_mem_drop h))
   have lx : (w.take c).length ≤ 12 := by simp; omega
   have ly : (w.drop c).length ≤ 12 := by simp; omega
   have b2 : ∀ n : Nat, n ≤ 12 → 100 * (n : Int) * (n : Int) ≤ 14400 := fun n hn => by
    have : 100 * (n : Int) * (n : Int) ≤ 1200 * 12 := Int.mul_le_mul oo oo oo oo
    omega
   have bx2 := b2 _ lx
   have by2 := b2 _ ly
   rw [hws] at hs
   have hv : wrap64 ((wrap64 (w.sum + x)) + y) = x + y + w.sum := by
    generalize 100 * ((w.take c).length : Int) * ((w.take c).length : Int) = A at *
    generalize 100 * ((w.drop c).length : Int) * ((w.drop c).length : Int) = B at *
    rw [w64 (i := w.sum + x) oo oo, w64 oo oo]
    omega
   refine ⟨(wrap64 ((wrap64 (w.sum + x)) + y), true), Ev.bind a1 (Ev.pos rfl (Ev.known (fun k => spec_in _ _ _) ?_)), Ev.bind a2 (Ev.pos rfl (Ev.known (fun k => impl_in_eq _ _ _) ?_)), fun _ => ⟨rfl, c, rfl, by omega, by omega⟩, fun m _ hm _ _ => ?_⟩
   ·rw [hd]
    refine Ev.succ ?_
    simp only [spec_SplitCost.j0]
    refine Ev.neg (by simp) (split_l0 w hn.2 c _ w.length 0 0 oo ?_)
    refine Ev.succ ?_
    simp only [spec_SplitCost.l0, Int.toNat_natCast, List.drop_zero, hws]
    exact Ev.neg oo (Ev.pos oo (Ev.pos oo (Ev.bind x1 (Ev.bind y1 (Ev.now _)))))
   ·rw [hd]
    refine Ev.succ ?_
    simp only [impl_SplitCost.j0, Int.toNat_natCast]
    refine Ev.neg (by simp) (Ev.bind hs (Ev.pos oo (Ev.pos oo (Ev.bind x2 ?_))))
    first
     | exact Ev.bind y2 (Ev.now _)
     | exact Ev.pos oo (Ev.bind y2 (Ev.now _))
     | exact Ev.pos oo (Ev.pos oo (Ev.bind y2 (Ev.now _)))
   ·obtain rfl : c = m := by omega
    exact ⟨rfl, x, y, x4, y4, hv⟩
  ·have hd : decide (1 ≤ c ∧ c ≤ wrap64 ((w.length : Int) - 1)) = false := by rw [e1]; exact decide_eq_false hc
   refine ⟨(0, false), Ev.bind a1 (Ev.pos rfl (Ev.known (fun k => spec_in _ _ _) ?_)), Ev.bind a2 (Ev.pos rfl (Ev.known (fun k => impl_in_eq _ _ _) ?_)), fun h => by simp at h, fun m _ hm _ _ => absurd (show 1 ≤ c ∧ c ≤ (w.length : Int) - 1 by omega) hc⟩
   ·rw [hd]; exact no1
   ·rw [hd]; exact no2
theorem go_small : ∀ (xs : List Int) (b n : Nat) (ps : List Nat), b ≤ 11 → n ≤ 2 ^ b → (∀ x ∈ xs, 1 ≤ x ∧ x ≤ 11) → go b n xs = some ps → ∀ p ∈ ps, p ≤ 2048
 | [], b, n, ps, hb, hn, hx, h, p, hp => by simp only [go, Option.some.injEq] at h; subst h; cases hp
 | x :: xs, b, n, ps, hb, hn, hx, h, p, hp => by
  have hxx := hx x (by simp)
  have hpl := place_le b n x.toNat hb oo hn
  simp only [go] at h
  split at h
  ·cases h
  ·rename_i hge
   obtain ⟨z, hz, rfl⟩ := Option.map_eq_some_iff.mp h
   rcases List.mem_cons.1 hp with rfl | hp
   ·exact hpl.1
   ·exact go_small xs x.toNat _ z oo oo (fun y hy => hx y (by simp [hy])) hz p hp
theorem OW_l0 (L : List Int) (ps : List Nat) (hb : ∀ x ∈ L, 1 ≤ x ∧ x ≤ 11) (hp : ∀ p ∈ ps, p ≤ 2048) (hl : ps.length = L.length) (hL : L.length ≤ 12) : ∀ (d i : Nat) (acc : List ByteArray), i + d = L.length → acc.length ≤ i → Ev (fun k => impl_OrderedWords.l0 k L acc (ps.map fun p : Nat => (p : Int)) (L.length : Int) (i : Int)) (acc ++ wordsOf (ps.drop i) (L.drop i), true)
 | 0, i, acc, hd, ha => by
  refine Ev.succ ?_
  simp only [impl_OrderedWords.l0]
  exact Ev.neg oo (Ev.pure (by rw [List.drop_of_length_le oo, List.drop_of_length_le oo]; simp [wordsOf]))
 | d + 1, i, acc, hd, ha => by
  have h1 : i < L.length := by omega
  have h2 : i < ps.length := by omega
  have h3 : i < (ps.map fun p : Nat => (p : Int)).length := by simp; omega
  have hm := hb L[i] (List.getElem_mem h1)
  have hpp := hp ps[i] (List.getElem_mem h2)
  obtain ⟨x, hx⟩ : ∃ x : Nat, L[i] = (x : Int) := ⟨L[i].toNat, by omega⟩
  have ih := OW_l0 L ps hb hp hl hL d (i + 1) (acc ++ [(⟨(digs 2 x ps[i]).toArray⟩ : ByteArray)]) oo (by simp; omega)
  rw [List.drop_eq_getElem_cons h1, List.drop_eq_getElem_cons h2, hx]
  refine Ev.succ ?_
  simp only [impl_OrderedWords.l0, rd_nat L i h1, rd_nat _ i h3, List.getElem_map, hx, w1 (show 0 ≤ (i : Int) by omega) (show (i : Int) < 9223372036854775807 by omega)]
  refine Ev.pos oo (Ev.pos oo (Ev.pos (by simp; omega) (Ev.pos oo (Ev.bind (wordAt_ev 2 oo oo x ps[i] oo oo) (Ev.pos oo ?_)))))
  simpa [wordsOf] using ih
theorem ow_told (l : List Int) (hl : l.length ≤ 1048576) : ∃ (r : List ByteArray) (b : Bool), Ev (fun k => spec_OrderedWords.f k l) (r, deepB l && b) ∧ Ev (fun k => impl_OrderedWords.f k l) (r, deepB l && b) ∧ Ev (fun k => spec_CanBeOrdered.f k l) (deepB l && b, deepB l) ∧ Ev (fun k => impl_CanBeOrdered.f k l) (deepB l && b, deepB l) ∧ r.length ≤ 12 ∧ ((deepB l && b) = true → (∀ x ∈ l, 1 ≤ x ∧ x ≤ 11) ∧ ∃ ps, go 0 0 l = some ps ∧ r = wordsOf ps l) ∧ (deepB l = true → (go 0 0 l).isSome = b) := by
 unfold spec_OrderedWords.f impl_OrderedWords.f spec_CanBeOrdered.f impl_CanBeOrdered.f spec_beCan.f
 have a1 := specDeep l hl
 have a2 := implDeep l hl
 cases hA : deepB l with
 | false =>
  rw [hA] at a1 a2
  exact ⟨[], false, Ev.bind a1 (Ev.neg (by simp) (Ev.now _)), Ev.bind a2 (Ev.neg (by simp) (Ev.now _)), Ev.bind a1 (Ev.neg (by simp) (Ev.now _)), Ev.bind a2 (Ev.neg (by simp) (Ev.now _)), by simp, fun h => by simp at h, fun h => by cases h⟩
 | true =>
  rw [hA] at a1 a2
  have hA' := hA
  unfold deepB at hA'
  simp only [Bool.and_eq_true, decide_eq_true_eq, List.all_eq_true] at hA'
  have h12 : l.length ≤ 12 := by omega
  have t := beTexts_ev l h12 hA'.2
  have o := orderedWords_ev l h12 hA'.2
  cases hg : go 0 0 l with
  | none =>
   have t' : textsOf [] 0 0 l = [] := by unfold textsOf; rw [hg]
   have o' : placesOf [] 0 0 l = ([], false) := by unfold placesOf; rw [hg]
   rw [t'] at t; rw [o'] at o
   refine ⟨[], false, Ev.bind a1 (Ev.pos rfl (Ev.bind (Ev.bind t (Ev.now _)) (Ev.neg ?_ (Ev.now _)))), Ev.bind a2 (Ev.pos rfl (Ev.bind o (Ev.neg (by simp) (Ev.now _)))), Ev.bind a1 (Ev.pos rfl (Ev.bind (Ev.bind t (Ev.now _)) (Ev.pure ?_))), Ev.bind a2 (Ev.pos rfl (Ev.bind o (Ev.now _))), by simp, fun h => by simp at h, fun _ => rfl⟩
   ·simp; omega
   ·simp; omega
  | some ps =>
   have hpl := go_length l 0 0 ps hg
   have hwl := wordsOf_length ps l hpl
   have t' : textsOf [] 0 0 l = wordsOf ps l := by unfold textsOf; rw [hg]; simp
   have o' : placesOf [] 0 0 l = (ps.map (fun p : Nat => (p : Int)), true) := by unfold placesOf; rw [hg]; simp
   rw [t'] at t; rw [o'] at o
   have w := OW_l0 l ps hA'.2 (go_small l 0 0 ps oo oo hA'.2 hg) hpl h12 l.length 0 [] oo (by simp)
   refine ⟨wordsOf ps l, true, Ev.bind a1 (Ev.pos rfl (Ev.bind (Ev.bind t (Ev.now _)) (Ev.pos (by simp [hwl]) (Ev.bind t (Ev.now _))))), Ev.bind a2 (Ev.pos rfl (Ev.bind o (Ev.pos rfl ?_))), Ev.bind a1 (Ev.pos rfl (Ev.bind (Ev.bind t (Ev.now _)) (Ev.pure (by simp [hwl])))), Ev.bind a2 (Ev.pos rfl (Ev.bind o (Ev.now _))), by simp [hwl, h12], fun _ => ⟨hA'.2, ps, rfl, rfl⟩, fun _ => rfl⟩
   simpa [hpl] using w
namespace OL
theorem srch_spec (ws : List Int) (due : Int) : ∀ (m : Nat) (done : List Int) (cost : Int) (x : List Int), done.length + m = ws.length → srch ws due m done cost = some x → can x = true ∧ ∃ rest, x = done ++ rest ∧ rest.length = m ∧ (∀ y ∈ rest, 1 ≤ y ∧ y ≤ 11) ∧ cost + dot (ws.drop done.length) rest = due
 | 0, done, cost, x, hl, h => by
  simp only [srch] at h
  split at h
  ·rename_i hc
   obtain rfl := Option.some.inj h
   refine ⟨hc.1, [], by simp, rfl, by simp, ?_⟩
   have : dot (ws.drop done.length) [] = 0 := by cases ws.drop done.length <;> rfl
   rw [this]; omega
  ·cases h
 | m + 1, done, cost, x, hl, h => by
  simp only [srch] at h
  obtain ⟨l, hmem, h1⟩ := List.exists_of_findSome?_eq_some h
  split at h1
  ·rename_i hc
   have hlt : done.length < ws.length := by omega
   obtain ⟨g1, rest, rfl, g2, g3, g4⟩ := srch_spec ws due m (done ++ [l]) _ x (by simp; omega) h1
   have hl1 : 1 ≤ l ∧ l ≤ 11 := by
    simp only [List.mem_cons, List.not_mem_nil, or_false] at hmem
    omega
   refine ⟨g1, l :: rest, by simp, by simp [g2], fun y hy => ?_, ?_⟩
   ·rcases List.mem_cons.1 hy with rfl | hy
    ·exact hl1
    ·exact g3 y hy
   ·rw [List.drop_eq_getElem_cons hlt, dot]
    rw [rd_nat ws done.length hlt, List.length_append, List.length_singleton] at g4
    omega
  ·cases h1
theorem due_met (w : List Int) (hw : ∀ x ∈ w, 1 ≤ x ∧ x ≤ 100) (hn1 : 1 ≤ w.length) (hn : w.length ≤ 6) : ∃ due, Ev (fun k => impl_orderedCost.f k w) due ∧ 0 ≤ due ∧ due ≤ 1000000 ∧ ∃ x, srch w due w.length [] 0 = some x := by
 unfold impl_orderedCost.f
 by_cases e : w.length = 1
 ·have h0 : 0 < w.length := by omega
  have hx := hw _ (List.getElem_mem h0)
  have hr : rd w 0 = w[0] := rd_nat w 0 h0
  refine ⟨rd w 0, Ev.pos oo (Ev.pos oo (Ev.now _)), by omega, by omega, ?_⟩
  have h := srch_some w (rd w 0) (fun x hx => (hw x hx).1) [1] [] 0 (by simp; omega) (by simp) (by decide) (by
   rw [List.length_nil, List.drop_eq_getElem_cons h0, hr]; simp [dot])
  rw [show w.length = ([1] : List Int).length from e]
  exact h
 ·obtain ⟨r, h1, D, t, hl, hv, h2, h3⟩ := joined_ach w hw hn1 hn
  refine ⟨r, Ev.neg oo (Ev.bind h1 (Ev.now _)), h2, by omega, ?_⟩
  have hle := t.le
  have h := srch_some w r (fun x hx => (hw x hx).1) (D.map fun x : Nat => (x : Int)) [] 0 (by simp; omega) (fun x hx => by
   obtain ⟨d, hd, rfl⟩ := List.mem_map.1 hx
   have h9 := hle d hd
   have : 1 ≤ d := by
    have hlt : 1 < D.length := by omega
    generalize hh : w.length - 0 - 1 = hgt at t
    cases t with
    | leaf h => simp at hlt
    | node t1 t2 =>
     rcases List.mem_append.1 hd with hd | hd
     ·obtain ⟨y, _, rfl⟩ := List.mem_map.1 hd; omega
     ·obtain ⟨y, _, rfl⟩ := List.mem_map.1 hd; omega
   omega) (by
    obtain ⟨b', n', -, -, hf⟩ := t.fits 0 0 0 0 [] oo (by simp) oo (by simp)
    have := hf rfl
    rw [List.append_nil] at this
    rw [List.nil_append]
    simpa [can] using this) (by rw [hv]; simp)
  rw [show w.length = (D.map fun x : Nat => (x : Int)).length by simp; omega]
  exact h
theorem ol_told (w : List Int) (hl : w.length ≤ 1048576) : ∃ r : List Int × Bool, Ev (fun k => spec_OrderedLengths.f k w) r ∧ Ev (fun k => impl_OrderedLengths.f k w) r ∧ r.1.length ≤ 12 ∧ (r.2 = true → weighB w = true ∧ ∃ c, Ev (fun k => impl_orderedCost.f k w) c ∧ r.1.length = w.length ∧ (∀ y ∈ r.1, 1 ≤ y ∧ y ≤ 11) ∧ can r.1 = true ∧ dot w r.1 = c) := by
 have a1 := specWeigh w hl
 have a2 := implWeigh w hl
 obtain ⟨c, c1, -, c3⟩ := oc_told w hl
 unfold spec_OrderedLengths.f impl_OrderedLengths.f impl_isSearched.f
 cases hA : weighB w with
 | false =>
  rw [hA] at a1 a2 c1
  exact ⟨([], false), Ev.bind c1 (Ev.neg (by simp) (Ev.now _)), Ev.bind (Ev.bind a2 (Ev.neg (by simp) (Ev.now _))) (Ev.neg (by simp) (Ev.now _)), by simp, fun h => by simp at h⟩
 | true =>
  rw [hA] at a1 a2 c1
  obtain ⟨g1, g2, hw⟩ := weighB_of hA
  obtain ⟨c2, -, -⟩ := c3 hA
  by_cases h6 : w.length ≤ 6
  ·obtain ⟨due, d1, d2, d3, x, hx⟩ := due_met w hw g1 h6
   obtain rfl := Ev.unique c2 d1
   have hxl := srch_length w c w.length [] 0 x hx
   obtain ⟨s1, rest, s2, s3, s4, s5⟩ := srch_spec w c w.length [] 0 x (by simp) hx
   have hf := find_ev w c w.length [] 0 ⟨h6, hw, by simp, by simp, by omega, d2, d3⟩
   have hs := first_ev w c oo h6 hw d3 w.length [] 0 (by simp) (by simp) oo oo
   rw [if_pos ⟨d2, rfl⟩, hx, Int.sub_zero] at hs
   rw [hx] at hf
   rw [List.nil_append] at s2
   subst s2
   rw [List.length_nil, List.drop_zero, Int.zero_add] at s5
   exact ⟨(x, true), Ev.bind c1 (Ev.pos rfl (Ev.neg oo (Ev.bind hs (Ev.now _)))), Ev.bind (Ev.bind a2 (Ev.pos rfl (Ev.pure (decide_eq_true oo)))) (Ev.pos rfl (Ev.pos oo (Ev.bind c2 (Ev.bind hf (Ev.now _))))), by simp at hxl ⊢; omega, fun _ => ⟨rfl, c, c2, s3, s4, s1, s5⟩⟩
  ·exact ⟨([], false), Ev.bind c1 (Ev.pos rfl (Ev.pos oo (Ev.now _))), Ev.bind (Ev.bind a2 (Ev.pos rfl (Ev.pure (decide_eq_false oo)))) (Ev.neg (by simp) (Ev.now _)), by simp, fun h => by simp at h⟩
theorem dot_ints : ∀ (w : List Int) (L : List Nat), dot w (intsOf L) = Pure.dot w L
 | [], L => by cases L <;> simp [dot, Pure.dot, intsOf]
 | _ :: _, [] => by simp [dot, Pure.dot, intsOf]
 | x :: w, l :: L => by
  have ih := dot_ints w L
  unfold intsOf at ih ⊢
  simp only [List.map_cons, dot, Pure.dot, ih, Int.mul_comm]
end OL
theorem j11_ev (x : List Int) (s : Int) (b : Bool) (h : b = true → ∃ r, Ev (fun k => impl_OrderedCost.f k x) (r, true) ∧ r ≤ s) : Ev (fun k => laws_FnOrderedCodes.j11 k x s b false) true := by
 refine Ev.succ ?_
 simp only [laws_FnOrderedCodes.j11]
 refine Ev.neg (by simp) (Ev.cases (fun hb => ?_) (fun _ => Ev.now _))
 obtain ⟨r, h1, h2⟩ := h hb
 exact Ev.bind h1 (Ev.pos rfl (Ev.pure (decide_eq_true h2)))
theorem OT.least_split {w : List Int} {c m : Nat} {v x y : Int} (hv : Lst w v) (hx : Lst (w.take m) x) (hy : Lst (w.drop m) y) : v ≤ x + y + w.sum := by
 have := OT.two hx.1 hy.1
 rw [List.take_append_drop] at this
 exact hv.2 _ this
theorem j10_ev {l1 : List Int} (hl : OkL l1) : Ev (fun k => laws_FnOrderedCodes.j10 k l1) true := by
 obtain ⟨w, at1, sd1, e1, hw, p1, p2⟩ := weights_ev hl 0 0 10 oo oo oo oo
 obtain ⟨v, at2, sd2, e2, hv, p3, p4⟩ := weights_ev hl 0 0 8 oo oo oo oo
 obtain ⟨c1, at3, sd3, e3, -, -, p5, p6⟩ := pick_ev hl at2 sd2 (wrap64 ((v.length : Int) + 1)) oo oo
 obtain ⟨c2, at4, sd4, e4, -, -, -, -⟩ := pick_ev hl at3 sd3 9 oo oo
 have d1 : Ev (fun k => spec_DrawOrderedCost.f k l1) w := by
  unfold spec_DrawOrderedCost.f
  exact Ev.bind e1 (Ev.now _)
 have d2 : Ev (fun k => spec_DrawSplitCost.f k l1) (v, wrap64 (c1 - (wrap64 (Int.tdiv c2 8)))) := by
  unfold spec_DrawSplitCost.f
  exact Ev.bind e2 (Ev.known (fun _ => e3) (Ev.known (fun _ => e4) (Ev.now _)))
 generalize wrap64 (c1 - (wrap64 (Int.tdiv c2 8))) = c at d2
 obtain ⟨r, r1, r2, -⟩ := oc_told w oo
 obtain ⟨s, s1, s2, s3, s4⟩ := sc_told v c oo
 obtain ⟨o, -, o2, o3⟩ := oc_told v oo
 refine Ev.succ ?_
 simp only [laws_FnOrderedCodes.j10]
 refine Ev.bind d1 (Ev.bind r2 (Ev.bind r1 (Ev.bind d2 (Ev.bind s2 (Ev.bind s1 (Ev.neg (by simp) (Ev.pos rfl (Ev.neg (by simp) ?_))))))))
 simp only [bne_self_eq_false]
 refine j11_ev v s.1 s.2 (fun hb => ?_)
 obtain ⟨hA, m, hc, m1, m2⟩ := s3 hb
 obtain ⟨-, x, y, hx, hy, e⟩ := s4 m hA hc m1 m2
 rw [hA] at o2
 obtain ⟨-, -, q⟩ := o3 hA
 refine ⟨o, o2, ?_⟩
 rw [e]
 exact OT.least_split (c := 0) (q oo) hx hy
theorem l2_ev {l1 : List Int} (l : List Int) (W : List ByteArray) (hlen : W.length = l.length) (h12 : W.length ≤ 12) (hs : ∀ i (h : i < l.length), ((W[i]'oo).size : Int) = l[i]) (hu : ∀ i j (h : j < l.length) (hij : i < j), Op.bytesLess (W[i]'oo).toList (W[j]'oo).toList = true) (next : Ev (fun k => laws_FnOrderedCodes.j10 k l1) true) : ∀ (d i : Nat), i + d = W.length → Ev (fun k => laws_FnOrderedCodes.l2 k l1 l W W (W.length : Int) (i : Int)) true
 | 0, i, hd => Ev.succ (by simp only [laws_FnOrderedCodes.l2]; exact Ev.neg oo next)
 | d + 1, i, hd => by
  have ih := l2_ev l W hlen h12 hs hu next d (i + 1) oo
  have hi : i < W.length := by omega
  have hi2 : i < l.length := by omega
  refine Ev.succ ?_
  simp only [laws_FnOrderedCodes.l2, w1 (show 0 ≤ (i : Int) by omega) (show (i : Int) < 9223372036854775807 by omega), rdOf_nat W i hi, rd_nat l i hi2]
  refine Ev.pos oo (Ev.pos oo (Ev.pos oo (Ev.pos oo (Ev.pos (hs i hi2) ?_))))
  cases i with
  | zero => exact Ev.neg oo ih
  | succ j =>
   have e : wrap64 (((j + 1 : Nat) : Int) - 1) = (j : Int) := by rw [w64 oo oo]; omega
   rw [e]
   simp only [rdOf_nat W j oo]
   exact Ev.pos oo (Ev.pos oo (Ev.pos oo (Ev.pos (hu j (j + 1) hi2 oo) ih)))
theorem j6_ev {l1 : List Int} (hl : OkL l1) : Ev (fun k => laws_FnOrderedCodes.j6 k l1) true := by
 have draw : ∃ l, Ev (fun k => spec_DrawOrderedWords.f k l1) l ∧ l.length ≤ 14 := by
  unfold spec_DrawOrderedWords.f spec_DrawCanBeOrdered.f
  obtain ⟨w, at1, sd1, e1, hw, p1, p2⟩ := weights_ev hl 0 0 6 oo oo oo oo
  obtain ⟨r, r1, -, r3, -⟩ := OL.ol_told w oo
  obtain ⟨y, at3, sd3, e3, h3⟩ := lengthsFor_ev hl at1 sd1 w 2 hw oo oo
  by_cases c : r.2 = true
  ·obtain ⟨b, at2, sd2, e2, q1, q2⟩ := one_ev hl at1 sd1 2 oo oo
   cases b with
   | true => exact ⟨r.1, Ev.bind (Ev.bind e1 (Ev.bind r1 (Ev.pos c (Ev.known (fun _ => e2) (Ev.pos rfl (Ev.now _)))))) (Ev.now _), by omega⟩
   | false =>
    obtain ⟨z, at4, sd4, e4, h4⟩ := lengthsFor_ev hl at2 sd2 w 2 hw oo oo
    exact ⟨z, Ev.bind (Ev.bind e1 (Ev.bind r1 (Ev.pos c (Ev.known (fun _ => e2) (Ev.neg (by simp) (Ev.bind e4 (Ev.now _))))))) (Ev.now _), h4⟩
  ·exact ⟨y, Ev.bind (Ev.bind e1 (Ev.bind r1 (Ev.neg c (Ev.bind e3 (Ev.now _))))) (Ev.now _), h3⟩
 obtain ⟨l, d, hl14⟩ := draw
 obtain ⟨r, b, o1, o2, o3, o4, o5, o6, -⟩ := ow_told l oo
 have next := j10_ev hl
 have j7 : Ev (fun k => laws_FnOrderedCodes.j7 k l1 l r (deepB l && b) false) true := by
  refine Ev.succ ?_
  simp only [laws_FnOrderedCodes.j7]
  refine Ev.neg (by simp) (Ev.cases (fun hb => ?_) (fun _ => next))
  obtain ⟨hbd, ps, hg, rfl⟩ := o6 hb
  obtain ⟨w1', w2, w3, w4⟩ := words_ok l ps hbd hg
  refine Ev.bind (yPrefix_ev _ oo w3) (Ev.pos rfl ?_)
  have e : (((wordsOf ps l).length : Int) != (l.length : Int)) = false := by rw [w1']; simp
  rw [e]
  refine Ev.succ ?_
  simp only [laws_FnOrderedCodes.j8]
  exact Ev.neg (by simp) (by simpa using l2_ev l (wordsOf ps l) w1' oo w2 w4 next (wordsOf ps l).length 0 oo)
 refine Ev.succ ?_
 simp only [laws_FnOrderedCodes.j6]
 refine Ev.bind d (Ev.bind o2 (Ev.bind o1 (Ev.bind o4 (Ev.bind o3 (Ev.neg (by simp) (Ev.bind (yTexts_ev r oo) (Ev.pos rfl (Ev.neg (by simp) (Ev.neg (by simp) ?_)))))))))
 simp only [bne_self_eq_false]
 cases hD : deepB l with
 | true => rw [hD] at j7; exact Ev.pos rfl j7
 | false => rw [hD] at j7; exact Ev.neg (by simp) (by simpa using j7)
theorem CostOf_ev (w : List Int) (L : List Nat) (hA : weighB w = true) (hl : L.length = w.length) (hb : ∀ x ∈ L, 1 ≤ x ∧ x ≤ 11) : Ev (fun k => impl_CostOf.f k w (intsOf L)) (dot w L, true) := by
 obtain ⟨g1, g2, g3⟩ := weighB_of hA
 have a2 := implWeigh w oo
 have b2 := implDeep (intsOf L) (by rw [ints_len]; omega)
 rw [hA] at a2
 rw [deepB_ints oo oo hb] at b2
 have h := cost_l0 w L hl g2 g3 hb w.length 0 0 oo oo oo
 rw [List.drop_zero, List.drop_zero, Int.zero_add] at h
 unfold impl_CostOf.f
 exact Ev.bind a2 (Ev.pos rfl (Ev.bind b2 (Ev.pos rfl (Ev.pos (by rw [ints_len]; omega) (Ev.bind (show Ev (fun k => impl_costOf.f k w (intsOf L)) (dot w L) from h) (Ev.now _))))))
theorem j5_ev {l1 : List Int} (hl : OkL l1) (w x : List Int) (b : Bool) (c : Int) (h : b = true → weighB w = true ∧ Ev (fun k => impl_orderedCost.f k w) c ∧ x.length = w.length ∧ (∀ y ∈ x, 1 ≤ y ∧ y ≤ 11) ∧ OL.can x = true ∧ OL.dot w x = c) : Ev (fun k => laws_FnOrderedCodes.j5 k l1 w x b c) true := by
 have next := j6_ev hl
 refine Ev.succ ?_
 simp only [laws_FnOrderedCodes.j5]
 refine Ev.cases (fun hb => ?_) (fun _ => next)
 obtain ⟨h1, h2, h3, h4, h5, h6⟩ := h hb
 obtain ⟨g1, g2, g3⟩ := weighB_of h1
 have hx : x = intsOf (x.map Int.toNat) := ints_of x (fun y hy => (h4 y hy).1)
 generalize x.map Int.toNat = L at hx
 subst hx
 rw [ints_len] at h3
 have hb' : ∀ y ∈ L, 1 ≤ y ∧ y ≤ 11 := fun y hy => by
  have := h4 (y : Int) (List.mem_map.2 ⟨y, hy, rfl⟩); omega
 have co := CostOf_ev w L h1 h3 hb'
 rw [OL.dot_ints] at h6
 rw [h6] at co
 have hD := deepB_ints (L := L) oo oo hb'
 obtain ⟨r, b', o1, o2, o3, o4, o5, o6, o7⟩ := ow_told (intsOf L) (by rw [ints_len]; omega)
 have hb2 : b' = true := by
  rw [← o7 hD]; exact h5
 subst hb2
 rw [hD, Bool.true_and] at o2 o4 o6
 obtain ⟨hbd, ps, hg, rfl⟩ := o6 rfl
 obtain ⟨w1', w2, w3, w4⟩ := words_ok (intsOf L) ps hbd hg
 exact Ev.bind co (Ev.bind o4 (Ev.bind o2 (Ev.pos rfl (Ev.pos rfl (Ev.pos rfl (Ev.pos rfl (Ev.pos rfl (Ev.bind (yPrefix_ev _ (by show (wordsOf ps (intsOf L)).length ≤ 1048576; rw [w1', ints_len]; omega) w3) (Ev.pos rfl next)))))))))
theorem l1_ev {l1 : List Int} (w x : List Int) (b : Bool) (c B : Int) (hw : w.length ≤ 12) (hup : w.Pairwise (fun x y => x ≤ y) → c = B) (next : Ev (fun k => laws_FnOrderedCodes.j5 k l1 w x b c) true) : ∀ (d i : Nat) (f : Bool), i + d = max w.length 1 → 1 ≤ i → (f = true → ∀ j (h : j < w.length), j + 1 ≤ i → ∀ m (hm : m < j), w[m] ≤ w[j]) → Ev (fun k => laws_FnOrderedCodes.l1 k l1 w x b c B f (i : Int)) true
 | 0, i, f, hd, h1, hf => by
  refine Ev.succ ?_
  simp only [laws_FnOrderedCodes.l1]
  refine Ev.neg oo (Ev.cases (fun hft => Ev.pos ?_ next) (fun _ => next))
  refine hup (List.pairwise_iff_getElem.2 (fun m j hm hj hmj => hf hft j hj oo m hmj))
 | d + 1, i, f, hd, h1, hf => by
  have hi : i < w.length := by omega
  obtain ⟨j, rfl⟩ : ∃ j, i = j + 1 := ⟨i - 1, by omega⟩
  have e : wrap64 (((j + 1 : Nat) : Int) - 1) = (j : Int) := by rw [w64 oo oo]; omega
  have e2 := w1 (show 0 ≤ ((j + 1 : Nat) : Int) by omega) (show ((j + 1 : Nat) : Int) < 9223372036854775807 by omega)
  refine Ev.succ ?_
  simp only [laws_FnOrderedCodes.l1, e, e2, rd_nat w (j + 1) hi, rd_nat w j (show j < w.length by omega)]
  refine Ev.pos oo (Ev.cases (fun hft => ?_) (fun hft => ?_))
  ·refine Ev.pos oo (Ev.pos oo (Ev.pos oo ?_))
   refine l1_ev w x b c B hw hup next d (j + 1 + 1) _ oo oo (fun hle j' hj' hj2 m hm => ?_)
   have hle := of_decide_eq_true hle
   by_cases c1 : j' = j + 1
   ·subst c1
    by_cases c2 : m = j
    ·subst c2; exact hle
    ·have := hf hft j oo oo m oo
     exact Int.le_trans this hle
   ·exact hf hft j' hj' oo m hm
  ·exact l1_ev w x b c B hw hup next d (j + 1 + 1) false oo oo (fun h => by cases h)
theorem l0_ev {l1 : List Int} (w x : List Int) (b : Bool) (c B : Int) (hA : weighB w = true) (h2 : 2 ≤ w.length) (hc : Lst w c) (next : Ev (fun k => laws_FnOrderedCodes.j3 k l1 w x b c B) true) : ∀ (d i : Nat) (s : Int), i + d = w.length → 1 ≤ i → ((i = 1 ∧ s = -1) ∨ (0 ≤ s ∧ OT w s ∧ ∀ m, 1 ≤ m → m < i → ∀ x y, Lst (w.take m) x → Lst (w.drop m) y → s ≤ x + y + w.sum)) → Ev (fun k => laws_FnOrderedCodes.l0 k l1 w x b c B s (i : Int)) true
 | 0, i, s, hd, h1, hs => by
  obtain ⟨g1, g2, g3⟩ := weighB_of hA
  refine Ev.succ ?_
  simp only [laws_FnOrderedCodes.l0]
  refine Ev.neg oo (Ev.pos ?_ next)
  rcases hs with ⟨e, -⟩ | ⟨s0, s1, s2⟩
  ·omega
  ·refine Int.le_antisymm ?_ (hc.2 s s1)
   obtain ⟨m, x, y, m1, m2, hx, hy, e⟩ := hc.1.split h2
   obtain ⟨x', -, lx⟩ := joined_least (w.take m) (fun v h => g3 v (List.mem_of_mem_take h)) (by simp; omega) (by simp; omega)
   obtain ⟨y', -, ly⟩ := joined_least (w.drop m) (fun v h => g3 v (List.mem_of_mem_drop h)) (by simp; omega) (by simp; omega)
   have := s2 m m1 oo x' y' lx ly
   have := lx.2 x hx
   have := ly.2 y hy
   omega
 | d + 1, i, s, hd, h1, hs => by
  obtain ⟨g1, g2, g3⟩ := weighB_of hA
  obtain ⟨r, -, r2, -, r4⟩ := sc_told w (i : Int) oo
  obtain ⟨r5, p, q, hp, hq, er⟩ := r4 i hA rfl h1 oo
  have ot : OT w r.1 := by
   have := OT.two hp.1 hq.1
   rw [List.take_append_drop, ← er] at this
   exact this
  have r0 : 0 ≤ r.1 := (ot.bound g3).1
  have only : ∀ x y, Lst (w.take i) x → Lst (w.drop i) y → r.1 = x + y + w.sum := fun x y hx hy => by rw [er, hp.only hx, hq.only hy]
  have e2 := w1 (show 0 ≤ (i : Int) by omega) (show (i : Int) < 9223372036854775807 by omega)
  have ih := fun s hs => l0_ev (l1 := l1) w x b c B hA h2 hc next d (i + 1) s oo oo hs
  refine Ev.succ ?_
  simp only [laws_FnOrderedCodes.l0, e2]
  refine Ev.pos oo (Ev.bind r2 (Ev.pos r5 (Ev.cases (fun hn => ?_) (fun hn => Ev.cases (fun hlt => ?_) (fun hlt => ?_)))))
  ·refine ih r.1 (Or.inr ⟨r0, ot, fun m m1 m2 x y hx hy => ?_⟩)
   rcases hs with ⟨e, -⟩ | ⟨s0, -⟩
   ·obtain rfl : m = i := by omega
    exact Int.le_of_eq (only x y hx hy)
   ·omega
  ·refine ih r.1 (Or.inr ⟨r0, ot, fun m m1 m2 x y hx hy => ?_⟩)
   by_cases c1 : m = i
   ·subst c1; exact Int.le_of_eq (only x y hx hy)
   ·rcases hs with ⟨e, -⟩ | ⟨s0, s1, s2⟩
    ·omega
    ·have := s2 m m1 oo x y hx hy; omega
  ·rcases hs with ⟨e, e'⟩ | ⟨s0, s1, s2⟩
   ·omega
   ·refine ih s (Or.inr ⟨s0, s1, fun m m1 m2 x y hx hy => ?_⟩)
    by_cases c1 : m = i
    ·subst c1; have := only x y hx hy; omega
    ·exact s2 m m1 oo x y hx hy
theorem FnOrderedCodes : laws_FnOrderedCodes.Pure := by
 intro l0 l1 _ _ w0 _ _ w1'
 have h0 := okL_of w0
 have h1 := okL_of w1'
 clear w0 w1'
 refine Ev.rounds ?_
 obtain ⟨w, at1, sd1, e1, hw, -, -⟩ := weights_ev h0 0 0 5 oo oo oo oo
 have d : Ev (fun k => spec_DrawOrderedLengths.f k l0) w := by
  unfold spec_DrawOrderedLengths.f
  exact Ev.bind e1 (Ev.now _)
 obtain ⟨r, r1, r2, r3, r4⟩ := OL.ol_told w oo
 obtain ⟨c, c1, c2, c3⟩ := oc_told w oo
 have j5 : Ev (fun k => laws_FnOrderedCodes.j5 k l1 w r.1 r.2 c) true := j5_ev h1 w r.1 r.2 c (fun h => by
  obtain ⟨a1, c', a2, a3, a4, a5, a6⟩ := r4 h
  obtain ⟨b1, -, -⟩ := c3 a1
  obtain rfl := ev_one b1 a2
  exact ⟨a1, b1, a3, a4, a5, a6⟩)
 have j0 : Ev (fun k => laws_FnOrderedCodes.j0 k l1 w r.1 r.2 c (weighB w) false) true := by
  refine Ev.succ ?_
  simp only [laws_FnOrderedCodes.j0]
  refine Ev.neg (by simp) (Ev.cases (fun hA => ?_) (fun _ => j5))
  obtain ⟨g1, g2, g3⟩ := weighB_of hA
  obtain ⟨o1, o2, o3⟩ := c3 hA
  obtain ⟨B, ps, b1, b2, b3, b4, p1, p2, p3, p4⟩ := best_fits w 2 g1 g2 oo g3
  obtain ⟨rr, B', q1, q2, -, -, -, -, -, q8⟩ := best_run w 2 g1 g2 oo g3
  obtain rfl := ev_one b2 q2
  have hask : askB w 2 = true := by
   unfold askB
   unfold weighB at hA
   rw [hA]; rfl
  have ib := implBest_ev w 2 oo B (fun _ => b2)
  rw [if_pos hask] at ib
  -- no ordered cost is less than the best one
  have hle : B ≤ c := by
   by_cases e : w.length = 1
   ·obtain ⟨v, rfl⟩ := List.length_eq_one_iff.1 e
    have hv := g3 v (by simp)
    have := q8 [1] (by simp) (by simp) (by decide)
    rw [o2 e]
    have e0 : rd [v] 0 = v := by simp [rd]
    rw [e0]
    simpa [dot] using this
   ·obtain ⟨D, t1, t2, t3, t4, t5⟩ := (o3 e).1.depths
    rw [← t4]
    exact q8 D t1 (fun y hy => ⟨t3 oo y hy, by have := t2 y hy; omega⟩) (t5 11 oo)
  -- rising weights are as cheap in order
  have hup : w.Pairwise (fun x y => x ≤ y) → c = B := fun hup => by
   refine Int.le_antisymm ?_ hle
   by_cases e : w.length = 1
   ·obtain ⟨v, rfl⟩ := List.length_eq_one_iff.1 e
    have hv := g3 v (by simp)
    rw [o2 e]
    have e0 : rd [v] 0 = v := by simp [rd]
    rw [e0]
    have hps : ps.length = 1 := by have := congrArg List.length p1; simpa using this
    obtain ⟨p, rfl⟩ := List.length_eq_one_iff.1 hps
    have hp1 : p.1 = v := by simpa using p1
    have hp2 := p2 p (by simp)
    simp only [List.map_cons, List.map_nil, sI, Int.add_zero] at p4
    rw [← p4, hp1]
    have : 1 * v ≤ (p.2 : Int) * v := Int.mul_le_mul_of_nonneg_right oo oo
    omega
   ·obtain ⟨L', s1, s2, s3⟩ := rearr w (ps.map Prod.snd) (by rw [← p1]; simp) hup
    have hks : ks 2 11 L' ≤ 2 ^ 11 := by
     rw [ks_perm 2 11 s1]
     unfold ks
     rw [List.map_map]
     exact p3
    have hlen : L'.length = w.length := by rw [s1.length_eq, ← p1]; simp
    obtain ⟨v, v1, v2⟩ := desc_tree 11 (sN L') w L' (Nat.le_refl _) hlen g1 (fun x hx => by have := g3 x hx; omega) s2 (fun l h => by
     obtain ⟨p, hp, rfl⟩ := List.mem_map.1 (s1.subset h)
     exact (p2 p hp).2) hks
    have := (o3 e).2 v v1
    have hB : dot w (ps.map Prod.snd) = B := by
     rw [← p4, dot_pairs, p1]
    omega
  have j3 : Ev (fun k => laws_FnOrderedCodes.j3 k l1 w r.1 r.2 c B) true := by
   refine Ev.succ ?_
   simp only [laws_FnOrderedCodes.j3]
   refine l1_ev w r.1 r.2 c B g2 hup j5 (w.length - 1) 1 true oo oo (fun _ j hj hj1 m hm => by omega)
  have hj1 : Ev (fun k => laws_FnOrderedCodes.j1 k l1 w r.1 r.2 c B false) true := by
   refine Ev.succ ?_
   simp only [laws_FnOrderedCodes.j1]
   refine Ev.neg (by simp) (Ev.cases (fun hgt => ?_) (fun _ => j3))
   exact l0_ev w r.1 r.2 c B hA oo (o3 oo) j3 (w.length - 1) 1 (-1) oo oo (Or.inl ⟨rfl, rfl⟩)
  refine Ev.bind ib (Ev.pos rfl ?_)
  rw [decide_eq_false (show ¬ c < B by omega)]
  exact hj1
 have main : Ev (fun k => (spec_DrawOrderedLengths.f k l0).bind fun t474 => ((impl_OrderedLengths.f k t474).bind fun bt477 => ((spec_OrderedLengths.f k t474).bind fun bt481 => ((impl_OrderedCost.f k t474).bind fun bt485 => ((spec_OrderedCost.f k t474).bind fun bt487 => (if (bt477.2 != bt481.2) = true then (laws_FnOrderedCodes.j0 k l1 t474 bt477.1 bt477.2 bt485.1 bt485.2 true) else ((laws_ySame.f k bt477.1 bt481.1).bind fun t489 => (if t489 = true then (if (bt485.2 != bt487.2) = true then (laws_FnOrderedCodes.j0 k l1 t474 bt477.1 bt477.2 bt485.1 bt485.2 true) else (if bt485.1 = bt487.1 then (if bt477.2 = true then (laws_FnOrderedCodes.j0 k l1 t474 bt477.1 bt477.2 bt485.1 bt485.2 (!bt485.2)) else (laws_FnOrderedCodes.j0 k l1 t474 bt477.1 bt477.2 bt485.1 bt485.2 false)) else (laws_FnOrderedCodes.j0 k l1 t474 bt477.1 bt477.2 bt485.1 bt485.2 true))) else (laws_FnOrderedCodes.j0 k l1 t474 bt477.1 bt477.2 bt485.1 bt485.2 true))))))))) true := by
  refine Ev.bind d (Ev.bind r2 (Ev.bind r1 (Ev.bind c2 (Ev.bind c1 (Ev.neg (by simp) (Ev.bind (ySame_ev r.1 oo) (Ev.pos rfl (Ev.neg (by simp) (Ev.pos rfl (Ev.cases (fun hb => ?_) (fun _ => j0)))))))))))
  obtain ⟨a1, -⟩ := r4 hb
  rw [a1] at j0 ⊢
  exact j0
 unfold laws_FnOrderedCodes.f laws_big.f
 by_cases cc : (l0.length : Int) > 1048576
 ·rw [if_pos cc]
  exact Ev.known (fun _ => rfl) (Ev.pos rfl (Ev.now _))
 ·rw [if_neg cc]
  exact Ev.known (fun _ => rfl) (Ev.cases (fun _ => Ev.now _) (fun _ => main))
end Go.Proofs.Ytcdmmpbcjcajlaa.Pure
