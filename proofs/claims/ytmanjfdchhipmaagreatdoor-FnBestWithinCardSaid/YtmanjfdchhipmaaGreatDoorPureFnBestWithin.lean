/- The least cost of lengths that are bounded, the even cost and the words for lengths are what the law says, at all inputs: no condition. -/
import Derived.Test.YtmanjfdchhipmaaGreatDoorXFnBestWithinx15
namespace Go.Proofs.YtmanjfdchhipmaaGreatDoor.Pure
set_option linter.unusedSimpArgs false
set_option linter.unusedVariables false
open Go.RowKit Go.Proofs.YtmanjfdchhipmaaGreatDoor.Hand Go.Proofs.YtmanjfdchhipmaaGreatDoor.XFnBestWithin Go.Proofs.YtmanjfdchhipmaaGreatDoorW.PrintWords Go.Proofs.YtmanjfdchhipmaaGreatDoorW.PrintLast Go.Proofs.YtmanjfdchhipmaaGreatDoorW.PrintMore
theorem w1 {i : Int} (h0 : 0 ≤ i) (h : i < 9223372036854775807) : wrap64 (i + 1) = i + 1 := by unfold wrap64; omega
theorem w64 {i : Int} (h0 : -9223372036854775808 ≤ i) (h : i < 9223372036854775808) : wrap64 i = i := by unfold wrap64; omega
theorem rd_nat (l : List Int) (i : Nat) (h : i < l.length) : rd l (i : Int) = l[i] := by
 unfold rd; simp [List.getD_eq_getElem?_getD, h]
theorem Ev.pos {α : Type} {c : Prop} [Decidable c] {g g' : Nat → Option α} {r : α} (h : c) (k : Ev g r) : Ev (fun n => if c then g n else g' n) r :=
 Ev.congr (fun n => if_pos h) k
theorem Ev.neg {α : Type} {c : Prop} [Decidable c] {g g' : Nat → Option α} {r : α} (h : ¬ c) (k : Ev g' r) : Ev (fun n => if c then g n else g' n) r :=
 Ev.congr (fun n => if_neg h) k
theorem Ev.cases {α : Type} {c : Prop} [Decidable c] {g g' : Nat → Option α} {r : α} (h : c → Ev g r) (k : ¬ c → Ev g' r) : Ev (fun n => if c then g n else g' n) r := by
 by_cases e : c
 ·exact Ev.pos e (h e)
 ·exact Ev.neg e (k e)
theorem Ev.known {α β : Type} {g : Nat → Option α} {f : Nat → α → Option β} {a : α} {r : β} (h : ∀ n, g n = some a) (k : Ev (fun n => f n a) r) : Ev (fun n => (g n).bind (f n)) r :=
 Ev.bind ⟨0, fun n _ => h n⟩ k
theorem Ev.pure {α : Type} {r q : α} (h : r = q) : Ev (fun _ => some r) q := h ▸ Ev.now r
theorem Ev.succ {α : Type} {g : Nat → Option α} {r : α} (h : Ev (fun k => g (k + 1)) r) : Ev g r := Ev.step (f := fun k => g (k + 1)) (fun _ => rfl) h
theorem rdOf_nat (l : List ByteArray) (i : Nat) (h : i < l.length) : rdOf ByteArray.empty l (i : Int) = l[i] := by
 unfold rdOf; simp [List.getD_eq_getElem?_getD, h]
def plLt (l : List Int) (x y : Nat) : Bool := decide (l.getD x 0 < l.getD y 0 ∨ (l.getD x 0 = l.getD y 0 ∧ x < y))
def finLt {n : Nat} (l : List Int) (x y : Fin (n + 1)) : Bool := plLt l x.val y.val
theorem plLt_anti (l : List Int) (x y : Nat) (h1 : plLt l x y = false) (h2 : plLt l y x = false) : x = y := by
 unfold plLt at h1 h2
 rw [decide_eq_false_iff_not] at h1 h2
 omega
theorem finLt_swo {n : Nat} (l : List Int) : Go.Sort.SWO (finLt (n := n) l) where
 irrefl x := by unfold finLt plLt; rw [decide_eq_false_iff_not]; omega
 trans x y z h1 h2 := by
  unfold finLt plLt at *
  rw [decide_eq_true_eq] at *
  omega
 ntrans x y z h1 h2 := by
  unfold finLt plLt at *
  rw [decide_eq_false_iff_not] at *
  omega
theorem later_eq {n : Nat} (l : List Int) (hl : ∀ x, -1000 ≤ l.getD x 0 ∧ l.getD x 0 ≤ 1000) (x y : Fin (n + 1)) (h : y.val < x.val) : ltOf (cmpP l) x y = finLt l x y := by
 have hx := hl x.val
 have hy := hl y.val
 unfold ltOf cmpP finLt plLt
 rw [w64 (by omega) (by omega)]
 exact decide_eq_decide.2 (by omega)
theorem inner_eq {n : Nat} (l : List Int) (hl : ∀ x, -1000 ≤ l.getD x 0 ∧ l.getD x 0 ≤ 1000) : ∀ (j : Nat) (d : Array (Fin (n + 1))), j < d.size → (∀ p, p < j → (d[p]!).val < (d[j]!).val) → Go.Sort.insInner (ltOf (cmpP l)) 0 j d = Go.Sort.insInner (finLt l) 0 j d
 | 0, d, _, _ => by unfold Go.Sort.insInner; rfl
 | j + 1, d, hj, h => by
  unfold Go.Sort.insInner
  rw [later_eq l hl _ _ (h j (by omega))]
  split
  ·refine inner_eq l hl j _ (by rw [Go.Sort.swp_size]; omega) (fun p hp => ?_)
   rw [Go.Sort.swp_other d (j + 1) j p (by omega) (by omega), Go.Sort.swp_right d (j + 1) j (by omega)]
   exact h p (by omega)
  ·rfl
theorem inner_all {α : Type} [Inhabited α] (lt : α → α → Bool) : ∀ (j : Nat) (d : Array α), j < d.size → (∀ p, j < p → (Go.Sort.insInner lt 0 j d)[p]! = d[p]!) ∧ ∀ Q : α → Prop, (∀ p, p ≤ j → Q d[p]!) → ∀ p, p ≤ j → Q (Go.Sort.insInner lt 0 j d)[p]!
 | 0, d, _ => by unfold Go.Sort.insInner; exact ⟨fun _ _ => rfl, fun Q h => h⟩
 | j + 1, d, hj => by
  unfold Go.Sort.insInner
  split
  ·obtain ⟨h1, h2⟩ := inner_all lt j (Go.Sort.swp d (j + 1) j) (by rw [Go.Sort.swp_size]; omega)
   refine ⟨fun p hp => ?_, fun Q hQ p hp => ?_⟩
   ·rw [h1 p (by omega), Go.Sort.swp_other d (j + 1) j p (by omega) (by omega)]
   ·by_cases hpj : p = j + 1
    ·subst hpj
     rw [h1 (j + 1) (by omega), Go.Sort.swp_left d (j + 1) j hj (by omega)]
     exact hQ j (by omega)
    ·refine h2 Q (fun q hq => ?_) p (by omega)
     by_cases hqj : q = j
     ·subst hqj
      rw [Go.Sort.swp_right d (q + 1) q (by omega)]
      exact hQ _ (Nat.le_refl _)
     ·rw [Go.Sort.swp_other d (j + 1) j q (by omega) hqj]
      exact hQ q (by omega)
  ·exact ⟨fun _ _ => rfl, fun Q h => h⟩
theorem outer_eq {n : Nat} (l : List Int) (hl : ∀ x, -1000 ≤ l.getD x 0 ∧ l.getD x 0 ≤ 1000) : ∀ (t i : Nat) (d : Array (Fin (n + 1))), d.size = n + 1 → i + t = n + 1 → (∀ p, i ≤ p → p < n + 1 → (d[p]!).val = p) → (∀ p, p < i → (d[p]!).val < i) →
  Go.Sort.insOuter (ltOf (cmpP l)) 0 (n + 1) i d = Go.Sort.insOuter (finLt l) 0 (n + 1) i d
 | 0, i, d, _, hi, _, _ => by
  rw [Go.Sort.insOuter, if_neg (by omega)]
  rw [Go.Sort.insOuter, if_neg (by omega)]
 | t + 1, i, d, hs, hi, h1, h2 => by
  have e := inner_eq l hl i d (by omega) (fun p hp => by rw [h1 i (Nat.le_refl _) (by omega)]; exact h2 p hp)
  obtain ⟨k1, k2⟩ := inner_all (finLt l) i d (by omega)
  rw [Go.Sort.insOuter, if_pos (by omega), e]
  conv => rhs; rw [Go.Sort.insOuter, if_pos (by omega)]
  refine outer_eq l hl t (i + 1) _ (by rw [insInner_size]; exact hs) (by omega) (fun p hp hp2 => ?_) (fun p hp => ?_)
  ·rw [k1 p (by omega)]
   exact h1 p (by omega) hp2
  ·refine k2 (fun x => x.val < i + 1) (fun q hq => ?_) p (by omega)
   by_cases hqi : q = i
   ·subst hqi
    rw [h1 q (Nat.le_refl _) (by omega)]
    omega
   ·have := h2 q (by omega)
    omega
theorem allP_at (n p : Nat) (hp : p < n + 1) : ((allP n)[p]!).val = p := by
 rw [getElem!_pos (allP n) p (by rw [allP_size]; exact hp)]
 simp [allP]
theorem stable_eq {n : Nat} (l : List Int) (hl : ∀ x, -1000 ≤ l.getD x 0 ∧ l.getD x 0 ≤ 1000) : stableP l (allP n) = Go.Sort.insertionSort (finLt l) (allP n) 0 (n + 1) := by
 unfold stableP Go.Sort.insertionSort
 rw [allP_size]
 refine outer_eq l hl n (0 + 1) (allP n) (allP_size n) (by omega) (fun p _ hp => allP_at n p hp) (fun p hp => ?_)
 obtain rfl : p = 0 := by omega
 rw [allP_at n 0 (by omega)]
 omega
theorem extract_all {α : Type} (d : Array α) {m : Nat} (h : d.size = m) : d.extract 0 m = d := by subst h; simp
theorem places_sorted (n : Nat) (l : List Int) (hl : ∀ x, -1000 ≤ l.getD x 0 ∧ l.getD x 0 ≤ 1000) : (impl_WordsFor.places l n).Pairwise (fun x y => plLt l y x = false) ∧ (impl_WordsFor.places l n).Perm (List.range (n + 1)) := by
 unfold impl_WordsFor.places
 rw [stable_eq l hl]
 have hsz := allP_size n
 obtain ⟨⟨p1, -, p3⟩, hs⟩ := Go.Sort.insertionSort_holds (lt := finLt (n := n) l) (finLt_swo l) (allP n) 0 (n + 1) (by omega) (by omega)
 generalize Go.Sort.insertionSort (finLt l) (allP n) 0 (n + 1) = d at p1 p3 hs
 have hd : d.size = n + 1 := by omega
 constructor
 ·rw [List.pairwise_map, List.pairwise_iff_getElem]
  intro i j hi hj hij
  have hi' : i < d.size := by simpa using hi
  have hj' : j < d.size := by simpa using hj
  have := hs i j (by omega) hij (by omega)
  rw [getElem!_pos d i hi', getElem!_pos d j hj'] at this
  simpa [finLt] using this
 ·have e1 : (d.extract 0 (n + 1)) = d := extract_all d hd
  have e2 : ((allP n).extract 0 (n + 1)) = allP n := extract_all _ hsz
  rw [e1, e2] at p3
  refine (p3.map _).trans ?_
  have : (allP n).toList.map (fun i => i.val) = List.range (n + 1) := by
   apply List.ext_getElem
   ·simp [allP]
   ·intro j h1 h2
    simp only [allP, List.getElem_map, List.getElem_range, Array.getElem_toList, Array.getElem_ofFn, id]
  rw [this]
theorem spec_in (a b c : Int) : spec_l1In.f a b c = some (decide (b ≤ a ∧ a ≤ c)) := by
 unfold spec_l1In.f
 by_cases h : a ≥ b
 ·rw [if_pos h]; simp [h]
 ·rw [if_neg h]; simp; omega
theorem spec_all_l0 (a b : Int) (l : List Int) (hl : l.length ≤ 1048576) : ∀ (d i : Nat), i + d = l.length → Ev (fun k => spec_l1All.l0 k a b l (l.length : Int) (i : Int)) ((l.drop i).all fun x => decide (a ≤ x ∧ x ≤ b))
 | 0, i, hd => Ev.step (f := fun _ => some true) (fun k => by simp only [spec_l1All.l0]; rw [if_neg (by omega)]) (Ev.pure (by rw [List.drop_of_length_le (by omega)]; rfl))
 | d + 1, i, hd => by
  have h1 : i < l.length := by omega
  have ih := spec_all_l0 a b l hl d (i + 1) (by omega)
  rw [List.drop_eq_getElem_cons h1, List.all_cons]
  refine Ev.step (f := fun k => if (decide (a ≤ l[i] ∧ l[i] ≤ b)) = true then spec_l1All.l0 k a b l (l.length : Int) ((i + 1 : Nat) : Int) else some false) (fun k => ?_) ?_
  ·simp only [spec_l1All.l0, spec_in]; rw [if_pos (by omega), if_pos (by omega), if_pos (by omega), w1 (by omega) (by omega), rd_nat l i h1]; simp
  ·refine Ev.cases (fun h => ?_) (fun h => ?_)
   ·rw [h, Bool.true_and]; exact ih
   ·rw [Bool.eq_false_iff.mpr h, Bool.false_and]; exact Ev.now _
theorem spec_all (l : List Int) (a b : Int) (hl : l.length ≤ 1048576) : Ev (fun k => spec_l1All.f k l a b) (l.all fun x => decide (a ≤ x ∧ x ≤ b)) := by
 have h := spec_all_l0 a b l hl l.length 0 (by omega)
 simpa [spec_l1All.f] using h
theorem impl_in_eq (a b c : Int) : impl_in.f a b c = some (decide (b ≤ a ∧ a ≤ c)) := by
 unfold impl_in.f
 by_cases h : b ≤ a
 ·rw [if_pos h]; simp [h]
 ·rw [if_neg h]; simp [h]
theorem impl_areWeights__1_l0 (l : List Int) (hl : l.length ≤ 1048576) : ∀ (d i : Nat), i + d = l.length → ∃ r, Ev (fun k => slices_IndexFunc_int_int__at_impl_areWeights__1.l0 k l (l.length : Int) (i : Int)) r ∧ decide (r ≥ 0) = (l.drop i).any fun x => !decide (1 ≤ x ∧ x ≤ 100)
 | 0, i, hd => ⟨-1, Ev.step (f := fun _ => some (-1)) (fun k => by simp only [slices_IndexFunc_int_int__at_impl_areWeights__1.l0]; rw [if_neg (by omega)]) (Ev.now _), by rw [List.drop_of_length_le (by omega)]; rfl⟩
 | d + 1, i, hd => by
  have h1 : i < l.length := by omega
  obtain ⟨r, ih, hr⟩ := impl_areWeights__1_l0 l hl d (i + 1) (by omega)
  have hs : ∀ k, slices_IndexFunc_int_int__at_impl_areWeights__1.l0 (k + 1) l (l.length : Int) (i : Int) = if (!decide (1 ≤ l[i] ∧ l[i] ≤ 100)) = true then some (i : Int) else slices_IndexFunc_int_int__at_impl_areWeights__1.l0 k l (l.length : Int) ((i + 1 : Nat) : Int) := by
   intro k
   simp only [slices_IndexFunc_int_int__at_impl_areWeights__1.l0, impl_areWeights__1.f, impl_in_eq]; rw [if_pos (by omega), if_pos (by omega), if_pos (by omega), w1 (by omega) (by omega), rd_nat l i h1]; simp
  rw [List.drop_eq_getElem_cons h1, List.any_cons]
  by_cases h : (!decide (1 ≤ l[i] ∧ l[i] ≤ 100)) = true
  ·exact ⟨i, Ev.step hs (Ev.pos h (Ev.now _)), by rw [h]; simp⟩
  ·exact ⟨r, Ev.step hs (Ev.neg h ih), by rw [hr, Bool.eq_false_iff.mpr h, Bool.false_or]⟩
theorem impl_areWeights__1_contains (l : List Int) (hl : l.length ≤ 1048576) : Ev (fun k => slices_ContainsFunc_int_int__at_impl_areWeights__1.f k l) (l.any fun x => !decide (1 ≤ x ∧ x ≤ 100)) := by
 obtain ⟨r, h, hr⟩ := impl_areWeights__1_l0 l hl l.length 0 (by omega)
 unfold slices_ContainsFunc_int_int__at_impl_areWeights__1.f slices_IndexFunc_int_int__at_impl_areWeights__1.f
 refine Ev.bind (by simpa using h) (Ev.pure ?_)
 simpa using hr
theorem impl_areWeights_ev (l : List Int) (hl : l.length ≤ 1048576) : Ev (fun k => impl_areWeights.f k l) (decide (1 ≤ (l.length : Int) ∧ (l.length : Int) ≤ 12) && l.all fun x => decide (1 ≤ x ∧ x ≤ 100)) := by
 unfold impl_areWeights.f
 refine Ev.known (fun n => impl_in_eq _ _ _) (Ev.cases (fun h => ?_) (fun h => ?_))
 ·refine Ev.bind (impl_areWeights__1_contains l hl) (Ev.pure ?_)
  rw [h, Bool.true_and, List.any_eq_not_all_not, Bool.not_not]; simp
 ·refine Ev.pure ?_
  rw [Bool.eq_false_iff.mpr h, Bool.false_and]
theorem beWeights_ev (l : List Int) (hl : l.length ≤ 1048576) : Ev (fun k => spec_beWeights.f k l) (decide (1 ≤ (l.length : Int) ∧ (l.length : Int) ≤ 12) && l.all fun x => decide (1 ≤ x ∧ x ≤ 100)) := by
 unfold spec_beWeights.f
 refine Ev.known (fun n => spec_in _ _ _) (Ev.cases (fun h => ?_) (fun h => ?_))
 ·exact Ev.bind (spec_all l _ _ hl) (Ev.pure (by rw [h, Bool.true_and]))
 ·exact Ev.pure (by rw [Bool.eq_false_iff.mpr h, Bool.false_and])
theorem beAsked_ev (l : List Int) (m : Int) (hl : l.length ≤ 1048576) : Ev (fun k => spec_beAsked.f k l m) (decide (2 ≤ m ∧ m ≤ 3) && (decide (1 ≤ (l.length : Int) ∧ (l.length : Int) ≤ 12) && l.all fun x => decide (1 ≤ x ∧ x ≤ 100))) := by
 unfold spec_beAsked.f spec_krLetters.f
 refine Ev.known (fun _ => by rw [spec_in, Option.bind_some]) (Ev.cases (fun h => ?_) (fun h => ?_))
 ·exact Ev.bind (beWeights_ev l hl) (Ev.pure (by rw [h, Bool.true_and]))
 ·exact Ev.pure (by rw [Bool.eq_false_iff.mpr h, Bool.false_and])
theorem areLetters_eq (m : Int) : impl_areLetters.f m = some (decide (2 ≤ m ∧ m ≤ 3)) := by
 unfold impl_areLetters.f
 rw [impl_in_eq, Option.bind_some]
theorem Ev.loop {R : Type} (g : Nat → Nat → Option R) (n : Nat) (r : R) (hstep : ∀ i, i < n → Ev (g (i + 1)) r → Ev (g i) r) (hend : Ev (g n) r) : Ev (g 0) r := by
 have h : ∀ d i, i + d = n → Ev (g i) r := by
  intro d
  induction d with
  | zero => intro i hi; rw [show i = n by omega]; exact hend
  | succ d ih => intro i hi; exact hstep i (by omega) (ih (i + 1) (by omega))
 exact h n 0 (by omega)
theorem sortI_up (l : List Int) : (sortI l).Pairwise fun x y => x ≤ y := by
 have h := List.pairwise_mergeSort (le := fun x y : Int => decide (x ≤ y)) (fun a b c h1 h2 => by simp at h1 h2 ⊢; omega) (fun a b => by simp; omega) l
 exact h.imp fun {a b} h => by simpa using h
theorem sortI_perm (l : List Int) : (sortI l).Perm l := List.mergeSort_perm l _
theorem up_unique {a b : List Int} (ha : a.Pairwise fun x y => x ≤ y) (hb : b.Pairwise fun x y => x ≤ y) (h : a.Perm b) : a = b :=
 List.Perm.eq_of_pairwise (le := fun x y : Int => x ≤ y) (fun x y _ _ h1 h2 => by omega) ha hb h
theorem sortI_of {a b : List Int} (ha : a.Pairwise fun x y => x ≤ y) (h : a.Perm b) : a = sortI b := up_unique ha (sortI_up b) (h.trans (sortI_perm b).symm)
theorem sortI_len (l : List Int) : (sortI l).length = l.length := (sortI_perm l).length_eq
theorem sortI_nil : sortI [] = [] := (sortI_of (by simp) (List.Perm.refl _)).symm
theorem l1Own_ev (l : List Int) (h : l.length ≤ 1048576) : spec_l1Own.f l = some l := by
 unfold spec_l1Own.f
 rw [Option.bind_some, if_pos (by simp; omega)]
 simp
theorem bePut_l0 (L : List Int) (x : Int) (hL : L.length ≤ 1000) (hu : L.Pairwise fun x y => x ≤ y) : ∀ (d i : Nat), i + d = L.length → (∀ j (h : j < L.length), j < i → L[j] ≤ x) → Ev (fun k => spec_bePut.l0 k L x (i : Int)) (sortI (L ++ [x])) := by
 have fin : ∀ i, i ≤ L.length → (∀ j (h : j < L.length), j < i → L[j] ≤ x) → (∀ j (h : j < L.length), i ≤ j → x ≤ L[j]) → L.take i ++ [x] ++ L.drop i = sortI (L ++ [x]) := by
  intro i hi h1 h2
  refine sortI_of ?_ ?_
  ·rw [List.pairwise_append, List.pairwise_append]
   refine ⟨⟨hu.sublist (List.take_sublist _ _), by simp, ?_⟩, hu.sublist (List.drop_sublist _ _), ?_⟩
   ·intro a ha b hb
    rw [List.mem_singleton] at hb
    subst hb
    obtain ⟨j, hj, rfl⟩ := List.getElem_of_mem ha
    rw [List.length_take] at hj
    rw [List.getElem_take]
    exact h1 j (by omega) (by omega)
   ·intro a ha b hb
    obtain ⟨j, hj, rfl⟩ := List.getElem_of_mem hb
    rw [List.length_drop] at hj
    rw [List.getElem_drop]
    have hb' := h2 (i + j) (by omega) (by omega)
    rcases List.mem_append.1 ha with ha | ha
    ·obtain ⟨j', hj', rfl⟩ := List.getElem_of_mem ha
     rw [List.length_take] at hj'
     rw [List.getElem_take]
     have := h1 j' (by omega) (by omega)
     omega
    ·rw [List.mem_singleton] at ha
     subst ha
     exact hb'
  ·have e : (L ++ [x]).Perm (L.take i ++ L.drop i ++ [x]) := by rw [List.take_append_drop]
   refine List.Perm.trans ?_ e.symm
   rw [List.append_assoc, List.append_assoc]
   exact List.Perm.append_left _ List.perm_append_comm
 intro d
 induction d with
 | zero =>
  intro i hd h1
  have hf := fin i (by omega) h1 (fun j hj h => by omega)
  refine Ev.succ ?_
  simp only [spec_bePut.l0, Int.toNat_natCast]
  refine Ev.neg (by omega) (Ev.pos (by omega) (Ev.pos (by omega) (Ev.known (fun _ => l1Own_ev _ (by rw [List.length_take]; omega)) (Ev.pos (by rw [List.length_take]; omega) (Ev.known (fun _ => rfl) (Ev.pos (by simp; omega) (Ev.pure hf)))))))
 | succ d ih =>
  intro i hd h1
  have hi : i < L.length := by omega
  refine Ev.succ ?_
  simp only [spec_bePut.l0, Int.toNat_natCast, rd_nat L i hi, w1 (show 0 ≤ (i : Int) by omega) (show (i : Int) < 9223372036854775807 by omega)]
  refine Ev.pos (by omega) (Ev.pos (by omega) (Ev.cases (fun h => ?_) (fun h => ?_)))
  ·exact ih (i + 1) (by omega) (fun j hj hji => by
    by_cases e : j = i
    ·subst e; exact h
    ·exact h1 j hj (by omega))
  ·have hf := fin i (by omega) h1 (fun j hj hij => by
    by_cases e : j = i
    ·subst e; omega
    ·have := List.pairwise_iff_getElem.1 hu i j hi hj (by omega)
     omega)
   exact Ev.pos (by omega) (Ev.known (fun _ => l1Own_ev _ (by rw [List.length_take]; omega)) (Ev.pos (by rw [List.length_take]; omega) (Ev.known (fun _ => rfl) (Ev.pos (by simp; omega) (Ev.pure hf)))))
theorem bePut_ev (L : List Int) (x : Int) (hL : L.length ≤ 1000) (hu : L.Pairwise fun x y => x ≤ y) : Ev (fun k => spec_bePut.f k L x) (sortI (L ++ [x])) :=
 bePut_l0 L x hL hu L.length 0 (by omega) (fun j _ h => by omega)
theorem sortI_put (l : List Int) (x : Int) : sortI (sortI l ++ [x]) = sortI (l ++ [x]) :=
 (sortI_of (sortI_up _) ((sortI_perm _).trans ((sortI_perm l).append_right [x])))
theorem beMerge_l2 (many : Int) (list out : List Int) (take : Nat) (r : List Int) (ht : take ≤ list.length) (hl : list.length ≤ 1000) (ys : List Int) (hys : ys.length ≤ 1000) (S : Int)
  (next : Ev (fun k => (spec_bePut.f k (list.drop take) S).bind fun t159 => (if out.length < 17592186044416 then (spec_beMerge.l1 k many t159 (out ++ [S]) many) else none)) r) :
  ∀ (d j : Nat) (s : Int), j + d = ys.length → sumW (ys.drop j) s = S → Ev (fun k => spec_beMerge.l2 k many list out (take : Int) s ys (ys.length : Int) (j : Int)) r
 | 0, j, s, hd, hs => by
  rw [List.drop_of_length_le (by omega), sumW] at hs
  subst hs
  refine Ev.succ ?_
  simp only [spec_beMerge.l2, Int.toNat_natCast]
  exact Ev.neg (by omega) (Ev.pos (by omega) (Ev.pos (by omega) next))
 | d + 1, j, s, hd, hs => by
  have hj : j < ys.length := by omega
  rw [List.drop_eq_getElem_cons hj, sumW] at hs
  have ih := beMerge_l2 many list out take r ht hl ys hys S next d (j + 1) _ (by omega) hs
  refine Ev.succ ?_
  simp only [spec_beMerge.l2, rd_nat ys j hj, w1 (show 0 ≤ (j : Int) by omega) (show (j : Int) < 9223372036854775807 by omega)]
  exact Ev.pos (by omega) (Ev.pos (by omega) (Ev.pos (by omega) ih))
def TakeOk (many take n : Nat) : Prop := (many = 2 ∧ take = 2) ∨ (many = 3 ∧ ((take = 2 ∧ n % 2 = 0) ∨ (take = 3 ∧ n % 2 = 1)))
theorem beMerge_l0 (l : List Int) (many : Int) (hl : l.length ≤ 12) (r : List Int) (next : Ev (fun k => (if many = 3 then (spec_beMerge.j1 k many (sortI l) ([] : List Int) many ((((sortI l).length : Int) % 2) == 0)) else (spec_beMerge.j1 k many (sortI l) ([] : List Int) many false))) r) : Ev (fun k => spec_beMerge.f k l many) r := by
 unfold spec_beMerge.f
 have s0 : ([] : List Int) = sortI (l.take 0) := by rw [List.take_zero, sortI_nil]
 rw [s0]
 refine Ev.loop (fun i k => spec_beMerge.l0 k many (sortI (l.take i)) l (l.length : Int) (i : Int)) l.length _ (fun i hi hnext => ?_) ?_
 ·have hput := bePut_ev (sortI (l.take i)) l[i] (by rw [sortI_len, List.length_take]; omega) (sortI_up _)
  rw [sortI_put, List.take_append_getElem hi] at hput
  refine Ev.succ ?_
  simp only [spec_beMerge.l0, rd_nat l i hi, w1 (show 0 ≤ (i : Int) by omega) (show (i : Int) < 9223372036854775807 by omega)]
  exact Ev.pos (by omega) (Ev.pos (by omega) (Ev.pos (by omega) (Ev.bind hput hnext)))
 ·refine Ev.succ ?_
  simp only [spec_beMerge.l0]
  rw [List.take_of_length_le (Nat.le_refl _)]
  exact Ev.neg (by omega) next
def sI : List Int → Int
 | [] => 0
 | x :: t => x + sI t
def sN : List Nat → Nat
 | [] => 0
 | x :: t => x + sN t
theorem sI_append : ∀ a b : List Int, sI (a ++ b) = sI a + sI b
 | [], b => by simp [sI]
 | x :: t, b => by simp only [List.cons_append, sI, sI_append t b]; omega
theorem sN_append : ∀ a b : List Nat, sN (a ++ b) = sN a + sN b
 | [], b => by simp [sN]
 | x :: t, b => by simp only [List.cons_append, sN, sN_append t b]; omega
theorem sI_perm {a b : List Int} (h : a.Perm b) : sI a = sI b := by
 induction h with
 | nil => rfl
 | cons x _ ih => simp only [sI, ih]
 | swap x y l => simp only [sI]; omega
 | trans _ _ ih1 ih2 => exact ih1.trans ih2
theorem sN_perm {a b : List Nat} (h : a.Perm b) : sN a = sN b := by
 induction h with
 | nil => rfl
 | cons x _ ih => simp only [sN, ih]
 | swap x y l => simp only [sN]; omega
 | trans _ _ ih1 ih2 => exact ih1.trans ih2
theorem sI_nonneg : ∀ l : List Int, (∀ x ∈ l, 0 ≤ x) → 0 ≤ sI l
 | [], _ => by simp [sI]
 | x :: t, h => by
  have h1 := h x (by simp)
  have h2 := sI_nonneg t (fun y hy => h y (by simp [hy]))
  simp only [sI]; omega
theorem sI_le (B : Int) : ∀ l : List Int, (∀ x ∈ l, x ≤ B) → sI l ≤ B * (l.length : Int)
 | [], _ => by simp [sI]
 | x :: t, h => by
  have h1 := h x (by simp)
  have h2 := sI_le B t (fun y hy => h y (by simp [hy]))
  simp only [sI, List.length_cons]
  have e : B * ((t.length + 1 : Nat) : Int) = B * (t.length : Int) + B := by rw [Int.natCast_add, Int.mul_add]; simp
  omega
theorem perm_lift {L M : List Int} (h : L.Perm M) : ∀ ps : List (Int × Nat), ps.map Prod.fst = L → ∃ qs : List (Int × Nat), ps.Perm qs ∧ qs.map Prod.fst = M := by
 induction h with
 | nil => intro ps h; exact ⟨ps, List.Perm.refl _, h⟩
 | cons x _ ih =>
  intro ps h
  match ps, h with
  | p :: ps, h =>
   simp only [List.map_cons, List.cons.injEq] at h
   obtain ⟨qs, h1, h2⟩ := ih ps h.2
   exact ⟨p :: qs, h1.cons p, by simp [h.1, h2]⟩
 | swap x y l =>
  intro ps h
  match ps, h with
  | p :: q :: ps, h =>
   simp only [List.map_cons, List.cons.injEq] at h
   exact ⟨q :: p :: ps, List.Perm.swap q p ps, by simp [h.1, h.2.1, h.2.2]⟩
 | trans _ _ ih1 ih2 =>
  intro ps h
  obtain ⟨qs, h1, h2⟩ := ih1 ps h
  obtain ⟨rs, h3, h4⟩ := ih2 qs h2
  exact ⟨rs, h1.trans h3, h4⟩
theorem sN_const (T : List Int) (a : Nat) : sN (T.map fun _ => a) = T.length * a := by
 induction T with
 | nil => simp [sN]
 | cons x t ih => simp only [List.map_cons, sN, ih, List.length_cons, Nat.add_mul, Nat.one_mul]; omega
theorem sI_scale (T : List Int) (a : Int) : sI (T.map fun x => a * x) = a * sI T := by
 induction T with
 | nil => simp [sI]
 | cons x t ih => simp only [List.map_cons, sI, ih, Int.mul_add]
theorem sN_up (m D : Nat) : ∀ q : List (Int × Nat), (∀ p ∈ q, p.2 ≤ D) → sN (q.map fun p => m ^ (D + 1 - p.2)) = m * sN (q.map fun p => m ^ (D - p.2))
 | [], _ => by simp [sN]
 | p :: q, h => by
  have h1 := h p (by simp)
  have ih := sN_up m D q (fun r hr => h r (by simp [hr]))
  simp only [List.map_cons, sN, ih, Nat.mul_add, show D + 1 - p.2 = (D - p.2) + 1 by omega, Nat.pow_succ]
  rw [Nat.mul_comm m (m ^ (D - p.2))]
theorem sumW_sI : ∀ (ys : List Int) (s : Int), (∀ y ∈ ys, 0 ≤ y) → 0 ≤ s → s + sI ys ≤ 1000000 → sumW ys s = s + sI ys
 | [], s, _, _, _ => by simp [sumW, sI]
 | y :: t, s, h, hs, hb => by
  have h1 := h y (by simp)
  have h2 := sI_nonneg t (fun z hz => h z (by simp [hz]))
  simp only [sI] at hb ⊢
  have e : Aside0 (wrap64 (s + y) = s + y) := ⟨w64 (by omega) (by omega)⟩
  rw [sumW, e.out, sumW_sI t (s + y) (fun z hz => h z (by simp [hz])) (by omega) (by omega)]
  omega
def Fits (m D : Nat) (L : List Int) (c : Int) : Prop := ∃ ps : List (Int × Nat), (ps.map Prod.fst).Perm L ∧ (∀ p ∈ ps, p.2 ≤ D) ∧ (2 ≤ L.length → ∀ p ∈ ps, 1 ≤ p.2) ∧ sN (ps.map (fun p => m ^ (D - p.2))) ≤ m ^ D ∧ sI (ps.map (fun p => (p.2 : Int) * p.1)) = c
theorem Fits.merge {m D : Nat} {T R : List Int} {c : Int} (hm : T.length ≤ m) (h : Fits m D (sortI (R ++ [sI T])) c) : Fits m (D + 1) (T ++ R) (c + sI T) := by
 obtain ⟨ps, hp, h1, h2, h3, h4⟩ := h
 obtain ⟨qs, hq, hqs⟩ := perm_lift (hp.trans (sortI_perm _)) ps rfl
 rw [sN_perm (hq.map _)] at h3
 rw [sI_perm (hq.map _)] at h4
 obtain ⟨q1, q2, rfl, e1, e2⟩ := List.map_eq_append_iff.1 hqs
 obtain ⟨s, d, rfl, rfl⟩ : ∃ s d, q2 = [(s, d)] ∧ s = sI T := by
  match q2, e2 with
  | [(s, d)], e2 => exact ⟨s, d, rfl, by simpa using e2⟩
 have hd : d ≤ D := h1 _ (hq.symm.subset (by simp : (sI T, d) ∈ q1 ++ [(sI T, d)]))
 have hq1 : ∀ p ∈ q1, p.2 ≤ D := fun p hp => h1 p (hq.symm.subset (by simp [hp]))
 have hlen : (sortI (R ++ [sI T])).length = R.length + 1 := by rw [sortI_len]; simp
 refine ⟨(T.map fun x => (x, d + 1)) ++ q1, ?_, ?_, ?_, ?_, ?_⟩
 ·rw [List.map_append, e1, List.map_map]
  rw [show (Prod.fst ∘ fun x : Int => (x, d + 1)) = id from rfl, List.map_id]
 ·intro p hp
  rcases List.mem_append.1 hp with hp | hp
  ·obtain ⟨x, -, rfl⟩ := List.mem_map.1 hp
   show d + 1 ≤ D + 1
   omega
  ·have := hq1 p hp; omega
 ·intro _ p hp
  rcases List.mem_append.1 hp with hp | hp
  ·obtain ⟨x, -, rfl⟩ := List.mem_map.1 hp
   show 1 ≤ d + 1
   omega
  ·have hl1 : q1.length = R.length := by rw [← e1, List.length_map]
   have hpos := List.length_pos_of_mem hp
   exact h2 (by omega) p (hq.symm.subset (by simp [hp]))
 ·rw [List.map_append, sN_append, List.map_map, sN_up m D q1 hq1, show ((fun p : Int × Nat => m ^ (D + 1 - p.2)) ∘ fun x : Int => (x, d + 1)) = fun _ => m ^ (D - d) from by funext x; simp [show D + 1 - (d + 1) = D - d by omega], sN_const]
  rw [List.map_append, sN_append] at h3
  simp only [List.map_cons, List.map_nil, sN, Nat.add_zero] at h3
  have h5 := Nat.mul_le_mul_right (m ^ (D - d)) hm
  have h6 := Nat.mul_le_mul_left m h3
  rw [Nat.mul_add] at h6
  rw [Nat.pow_succ, Nat.mul_comm (m ^ D) m]
  omega
 ·rw [List.map_append, sI_append, List.map_map, show ((fun p : Int × Nat => (p.2 : Int) * p.1) ∘ fun x : Int => (x, d + 1)) = fun x => ((d + 1 : Nat) : Int) * x from rfl, sI_scale]
  rw [List.map_append, sI_append] at h4
  simp only [List.map_cons, List.map_nil, sI, Int.add_zero] at h4
  have e : ((d + 1 : Nat) : Int) * sI T = (d : Int) * sI T + sI T := by rw [Int.natCast_add, Int.add_mul]; simp
  omega
theorem Fits.up {m D : Nat} {L : List Int} {c : Int} (h : Fits m D L c) : Fits m (D + 1) L c := by
 obtain ⟨ps, hp, h1, h2, h3, h4⟩ := h
 refine ⟨ps, hp, fun p hp => by have := h1 p hp; omega, h2, ?_, h4⟩
 rw [sN_up m D ps h1, Nat.pow_succ, Nat.mul_comm (m ^ D) m]
 exact Nat.mul_le_mul_left m h3
theorem Fits.to {m D : Nat} {L : List Int} {c : Int} (h : Fits m D L c) : ∀ d, Fits m (D + d) L c
 | 0 => h
 | d + 1 => (h.to d).up
theorem merge_loop2 (many : Nat) : ∀ (n : Nat) (list out : List Int) (take : Nat), 1 ≤ list.length → list.length ≤ n → list.length ≤ 12 → out.length + list.length ≤ 12 → list.Pairwise (fun x y => x ≤ y) → TakeOk many take list.length → (∀ x ∈ list, 0 ≤ x) → sI list ≤ 10000 →
  ∃ (cs : List Int) (D : Nat), Ev (fun k => spec_beMerge.l1 k (many : Int) list out (take : Int)) (out ++ cs) ∧ Ev (fun k => impl_mergeRun.l0 k many list out take) (out ++ cs) ∧ D + 1 ≤ list.length ∧ (∀ x ∈ cs, 0 ≤ x ∧ x ≤ 10000) ∧ cs.length + 1 ≤ list.length ∧ Fits many D list (sI cs)
 | 0, list, out, take, h0, hn, hl, ho, hu, ht, hx, hs => by omega
 | n + 1, list, out, take, h0, hn, hl, ho, hu, ht, hx, hs => by
  by_cases h1 : 1 < list.length
  ·have htk : 2 ≤ take ∧ take ≤ list.length ∧ take ≤ many := by
    rcases ht with ⟨a, b⟩ | ⟨a, ⟨b, c⟩ | ⟨b, c⟩⟩ <;> omega
   have hdt : sI list = sI (list.take take) + sI (list.drop take) := by rw [← sI_append, List.take_append_drop]
   have hx1 : ∀ x ∈ list.take take, 0 ≤ x := fun x h => hx x (List.mem_of_mem_take h)
   have hx2 : ∀ x ∈ list.drop take, 0 ≤ x := fun x h => hx x (List.mem_of_mem_drop h)
   have hn1 := sI_nonneg _ hx1
   have hn2 := sI_nonneg _ hx2
   have hS0 : sumW (list.take take) 0 = sI (list.take take) := by rw [sumW_sI _ 0 hx1 (by omega) (by omega)]; omega
   obtain ⟨S, hS⟩ : ∃ S, S = sI (list.take take) := ⟨_, rfl⟩
   have hlen : (sortI (list.drop take ++ [S])).length = list.length - take + 1 := by rw [sortI_len]; simp
   have htk' : TakeOk many many (list.length - take + 1) := by
    rcases ht with ⟨a, b⟩ | ⟨a, ⟨b, c⟩ | ⟨b, c⟩⟩
    ·exact Or.inl ⟨a, by omega⟩
    ·exact Or.inr ⟨a, Or.inr ⟨a, by omega⟩⟩
    ·exact Or.inr ⟨a, Or.inr ⟨a, by omega⟩⟩
   have hx' : ∀ x ∈ sortI (list.drop take ++ [S]), 0 ≤ x := fun x h => by
    have h := (sortI_perm _).subset h
    rcases List.mem_append.1 h with h | h
    ·exact hx2 x h
    ·rw [List.mem_singleton] at h; omega
   have hs' : sI (sortI (list.drop take ++ [S])) ≤ 10000 := by
    rw [sI_perm (sortI_perm _), sI_append]
    simp only [sI, Int.add_zero]
    omega
   obtain ⟨cs, D, r1, r2, r3, r4, r5, r6⟩ := merge_loop2 many n (sortI (list.drop take ++ [S])) (out ++ [S]) many (by omega) (by omega) (by omega) (by simp; omega) (sortI_up _) (by rw [hlen]; exact htk') hx' hs'
   rw [List.append_assoc] at r1 r2
   refine ⟨S :: cs, D + 1, Ev.succ ?_, Ev.succ ?_, by omega, ?_, by simp only [List.length_cons]; omega, ?_⟩
   ·simp only [spec_beMerge.l1, Int.toNat_natCast, Option.bind_some]
    refine Ev.pos (by omega) (Ev.pos (by omega) (Ev.pos (by omega) ?_))
    have hput := bePut_ev (list.drop take) S (by rw [List.length_drop]; omega) (hu.sublist (List.drop_sublist _ _))
    exact beMerge_l2 (many : Int) list out take (out ++ S :: cs) htk.2.1 (by omega) (list.take take) (by rw [List.length_take]; omega) S (Ev.bind hput (Ev.pos (by omega) r1)) (list.take take).length 0 0 (by omega) (by rw [List.drop_zero, hS, hS0])
   ·simp only [impl_mergeRun.l0]
    rw [hS, ← hS0] at r2
    rw [hS, ← hS0]
    exact Ev.pos h1 (Ev.pos (by omega) r2)
   ·intro x h
    rcases List.mem_cons.1 h with rfl | h
    ·omega
    ·exact r4 x h
   ·have h7 := Fits.merge (m := many) (T := list.take take) (R := list.drop take) (by rw [List.length_take]; omega) (hS ▸ r6)
    rw [List.take_append_drop] at h7
    rw [show sI (S :: cs) = sI cs + sI (list.take take) by simp only [sI]; omega]
    exact h7
  ·refine ⟨[], 0, Ev.succ ?_, Ev.succ ?_, by omega, by simp, by simp; omega, ?_⟩
   ·simp only [spec_beMerge.l1]; exact Ev.neg (by omega) (Ev.pure (by simp))
   ·simp only [impl_mergeRun.l0]; exact Ev.neg (by omega) (Ev.pure (by simp))
   ·match list, h0, h1 with
    | [x], _, _ => exact ⟨[(x, 0)], by simp, by simp, fun h => by simp at h, by simp [sN], by simp [sI]⟩
    | x :: y :: t, _, h1 => exact absurd (show 1 < (x :: y :: t).length by simp) h1
theorem merge_same2 (l : List Int) (m : Nat) (h1 : 1 ≤ l.length) (hl : l.length ≤ 12) (hm : 2 ≤ m ∧ m ≤ 3) (hx : ∀ x ∈ l, 1 ≤ x ∧ x ≤ 100) : ∃ (r : List Int) (D : Nat), Ev (fun k => spec_beMerge.f k l (m : Int)) r ∧ Ev (fun k => impl_mergeRun.f k l (m : Int)) r ∧ D + 1 ≤ l.length ∧ (∀ x ∈ r, 0 ≤ x ∧ x ≤ 10000) ∧ r.length + 1 ≤ l.length ∧ Fits m D l (sI r) := by
 obtain ⟨t, ht⟩ : ∃ t : Nat, t = if (m : Int) = 3 ∧ l.length % 2 = 0 then 2 else m := ⟨_, rfl⟩
 have hlen := sortI_len l
 have htk : TakeOk m t (sortI l).length := by
  rw [hlen, ht]
  unfold TakeOk
  by_cases c : (m : Int) = 3 ∧ l.length % 2 = 0
  ·rw [if_pos c]; omega
  ·rw [if_neg c]; omega
 have hsum : sI (sortI l) ≤ 10000 := by
  rw [sI_perm (sortI_perm l)]
  have := sI_le 100 l (fun x h => (hx x h).2)
  omega
 obtain ⟨r, D, r1, r2, r3, r4, r5, r6⟩ := merge_loop2 m 12 (sortI l) [] t (by omega) (by omega) (by omega) (by simp; omega) (sortI_up l) htk (fun x h => by have := hx x ((sortI_perm l).subset h); omega) hsum
 rw [List.nil_append] at r1 r2
 rw [hlen] at r3 r5
 have r7 : Fits m D l (sI r) := by
  obtain ⟨ps, hp, a, b, c, d⟩ := r6
  exact ⟨ps, hp.trans (sortI_perm l), a, fun h => b (by omega), c, d⟩
 refine ⟨r, D, beMerge_l0 l (m : Int) hl r (Ev.cases (fun c => Ev.succ ?_) (fun c => Ev.succ ?_)), ?_, r3, r4, r5, r7⟩
 ·simp only [spec_beMerge.j1]
  refine Ev.cases (fun c2 => Ev.succ ?_) (fun c2 => Ev.succ ?_)
  ·simp only [spec_beMerge.j2]
   rw [beq_iff_eq, hlen] at c2
   rw [if_pos ⟨c, by omega⟩] at ht
   subst ht
   exact r1
  ·simp only [spec_beMerge.j2]
   rw [beq_iff_eq, hlen] at c2
   rw [if_neg (fun h => c2 (by omega))] at ht
   subst ht
   exact r1
 ·simp only [spec_beMerge.j1]
  refine Ev.neg (by simp) (Ev.succ ?_)
  simp only [spec_beMerge.j2]
  rw [if_neg (fun h => c h.1)] at ht
  subst ht
  exact r1
 ·unfold impl_mergeRun.f
  rw [Int.toNat_natCast, ← ht]
  exact Ev.pos (by omega) r2
theorem bestSum2 (ys : List Int) (hl : ys.length ≤ 1000) (hy : ∀ y ∈ ys, 0 ≤ y ∧ y ≤ 10000) : ∀ (d i : Nat) (s : Int), i + d = ys.length → 0 ≤ s → s + sI (ys.drop i) ≤ 1000000000 → Ev (fun k => spec_beBest.l0 k s ys (ys.length : Int) (i : Int)) (s + sI (ys.drop i)) ∧ Ev (fun k => impl_bestCost.l0 k s ys (ys.length : Int) (i : Int)) (s + sI (ys.drop i))
 | 0, i, s, hd, _, _ => by
  rw [List.drop_of_length_le (by omega)]
  exact ⟨Ev.succ (by simp only [spec_beBest.l0]; exact Ev.neg (by omega) (Ev.pure (by simp [sI]))), Ev.succ (by simp only [impl_bestCost.l0]; exact Ev.neg (by omega) (Ev.pure (by simp [sI])))⟩
 | d + 1, i, s, hd, h0, hb => by
  have hi : i < ys.length := by omega
  rw [List.drop_eq_getElem_cons hi] at hb ⊢
  simp only [sI] at hb ⊢
  have hyi := hy _ (List.getElem_mem hi)
  have hn := sI_nonneg (ys.drop (i + 1)) (fun x h => (hy x (List.mem_of_mem_drop h)).1)
  obtain ⟨h1, h2⟩ := bestSum2 ys hl hy d (i + 1) (s + ys[i]) (by omega) (by omega) (by omega)
  rw [show s + ys[i] + sI (ys.drop (i + 1)) = s + (ys[i] + sI (ys.drop (i + 1))) by omega] at h1 h2
  have wi := w1 (show 0 ≤ (i : Int) by omega) (show (i : Int) < 9223372036854775807 by omega)
  have ws : Aside0 (wrap64 (s + ys[i]) = s + ys[i]) := ⟨w64 (by omega) (by omega)⟩
  refine ⟨Ev.succ ?_, Ev.succ ?_⟩
  ·simp only [spec_beBest.l0, rd_nat ys i hi, ws.out, wi]; exact Ev.pos (by omega) (Ev.pos (by omega) (Ev.pos (by omega) h1))
  ·simp only [impl_bestCost.l0, rd_nat ys i hi, ws.out, wi]; exact Ev.pos (by omega) (Ev.pos (by omega) (Ev.pos (by omega) h2))
theorem best_fits (l : List Int) (m : Nat) (h1 : 1 ≤ l.length) (hl : l.length ≤ 12) (hm : 2 ≤ m ∧ m ≤ 3) (hx : ∀ x ∈ l, 1 ≤ x ∧ x ≤ 100) : ∃ (B : Int) (ps : List (Int × Nat)), Ev (fun k => spec_beBest.f k l (m : Int)) B ∧ Ev (fun k => impl_bestCost.f k l (m : Int)) B ∧ 0 ≤ B ∧ B ≤ 1000000 ∧
  ps.map Prod.fst = l ∧ (∀ p ∈ ps, 1 ≤ p.2 ∧ p.2 ≤ 11) ∧ sN (ps.map (fun p => m ^ (11 - p.2))) ≤ m ^ 11 ∧ sI (ps.map (fun p => (p.2 : Int) * p.1)) = B := by
 unfold spec_beBest.f impl_bestCost.f
 by_cases e : l.length = 1
 ·match l, e with
  | [x], _ =>
   have hx0 := hx x (by simp)
   have e0 : rd [x] 0 = x := by simp [rd]
   refine ⟨x, [(x, 1)], Ev.pos (by simp) (Ev.pos (by simp) (Ev.pure e0)), Ev.pos (by simp) (Ev.pos (by simp) (Ev.pure e0)), by omega, by omega, by simp, by simp, ?_, by simp [sI]⟩
   simp only [List.map_cons, List.map_nil, sN, Nat.add_zero]
   exact Nat.pow_le_pow_right (by omega) (by omega)
 ·obtain ⟨r, D, r1, r2, r3, r4, r5, r6⟩ := merge_same2 l m h1 hl hm hx
  have hb := sI_le 10000 r (fun x h => (r4 x h).2)
  have hb0 := sI_nonneg r (fun x h => (r4 x h).1)
  obtain ⟨s1, s2⟩ := bestSum2 r (by omega) r4 r.length 0 0 (by omega) (by omega) (by rw [List.drop_zero]; omega)
  rw [List.drop_zero, Int.zero_add] at s1 s2
  have r7 := r6.to (11 - D)
  rw [show D + (11 - D) = 11 by omega] at r7
  obtain ⟨ps, hp, a, b, c, d⟩ := r7
  obtain ⟨qs, hq, hqs⟩ := perm_lift hp ps rfl
  refine ⟨sI r, qs, Ev.neg (by omega) (Ev.bind r1 s1), Ev.neg (by omega) (Ev.bind r2 s2), hb0, by omega, hqs, fun p h => ⟨b (by omega) p (hq.symm.subset h), a p (hq.symm.subset h)⟩, ?_, ?_⟩
  ·rw [← sN_perm (hq.map _)]; exact c
  ·rw [← sI_perm (hq.map _)]; exact d
theorem wf64 {n : Int} (h1 : -9223372036854775808 ≤ n) (h2 : n ≤ 9223372036854775807) : (Lit.int .i64 n).wf = true := by
 simp only [Lit.wf, IntKind.min, IntKind.max, IntKind.signed, IntKind.bits, Bool.and_eq_true, decide_eq_true_eq, if_true]
 omega
theorem pow_small {m n : Nat} (hm : 2 ≤ m ∧ m ≤ 3) (hn : n ≤ 11) : 1 ≤ m ^ n ∧ m ^ n ≤ 177147 := by
 have e : (3 : Nat) ^ 11 = 177147 := by decide
 exact ⟨Nat.pow_pos (by omega), by rw [← e]; exact Nat.le_trans (Nat.pow_le_pow_left hm.2 _) (Nat.pow_le_pow_right (by omega) hn)⟩
theorem krPower_l0 (b m : Nat) (hb : 1 ≤ b) (hp : b ^ m < 4611686018427387904) (hm : m ≤ 1048576) : ∀ (d i : Nat), i + d = m → Ev (fun k => spec_krPower.l0 k (b : Int) (d : Int) ((b ^ i : Nat) : Int)) ((b ^ m : Nat) : Int)
 | 0, i, hd => by
  refine Ev.succ ?_
  simp only [spec_krPower.l0]
  exact Ev.neg (by omega) (Ev.pure (by rw [show i = m by omega]))
 | d + 1, i, hd => by
  have ih := krPower_l0 b m hb hp hm d (i + 1) (by omega)
  have h1 : b ^ (i + 1) ≤ b ^ m := Nat.pow_le_pow_right hb (by omega)
  have e : Aside0 (wrap64 (((b ^ i : Nat) : Int) * (b : Int)) = ((b ^ (i + 1) : Nat) : Int)) := ⟨by
   rw [← Int.natCast_mul, show b ^ i * b = b ^ (i + 1) from rfl]; exact w64 (by omega) (by omega)⟩
  have e2 : Aside0 (wrap64 (((d + 1 : Nat) : Int) - 1) = (d : Int)) := ⟨by rw [w64 (by omega) (by omega)]; omega⟩
  refine Ev.succ ?_
  simp only [spec_krPower.l0, e.out, e2.out]
  exact Ev.pos (by omega) ih
theorem krPower_ev (b m : Nat) (hb : 1 ≤ b) (hp : b ^ m < 4611686018427387904) (hm : m ≤ 1048576) : Ev (fun k => spec_krPower.f k (b : Int) (m : Int)) ((b ^ m : Nat) : Int) := by
 have h := krPower_l0 b m hb hp hm m 0 (by omega)
 simpa [spec_krPower.f] using h
theorem power_l0 (b m : Nat) (hb : 1 ≤ b) (hp : b ^ m < 4611686018427387904) (hm : m ≤ 1048576) : ∀ (d i : Nat), i + d = m → Ev (fun k => impl_power.l0 k (b : Int) ((b ^ i : Nat) : Int) (m : Int) (i : Int)) ((b ^ m : Nat) : Int)
 | 0, i, hd => by
  refine Ev.succ ?_
  simp only [impl_power.l0]
  exact Ev.neg (by omega) (Ev.pure (by rw [show i = m by omega]))
 | d + 1, i, hd => by
  have ih := power_l0 b m hb hp hm d (i + 1) (by omega)
  have h1 : b ^ (i + 1) ≤ b ^ m := Nat.pow_le_pow_right hb (by omega)
  have e : Aside0 (wrap64 (((b ^ i : Nat) : Int) * (b : Int)) = ((b ^ (i + 1) : Nat) : Int)) := ⟨by
   rw [← Int.natCast_mul, show b ^ i * b = b ^ (i + 1) from rfl]; exact w64 (by omega) (by omega)⟩
  refine Ev.succ ?_
  simp only [impl_power.l0, e.out, w1 (show 0 ≤ (i : Int) by omega) (show (i : Int) < 9223372036854775807 by omega)]
  exact Ev.pos (by omega) ih
theorem power_ev (b m : Nat) (hb : 1 ≤ b) (hp : b ^ m < 4611686018427387904) (hm : m ≤ 1048576) : Ev (fun k => impl_power.f k (b : Int) (m : Int)) ((b ^ m : Nat) : Int) := by
 have h := power_l0 b m hb hp hm m 0 (by omega)
 simpa [impl_power.f] using h
def solL (m : Nat) (x : Int) (rec : Int → Int → List (List Int)) (s c : Int) : Nat → Nat → List (List Int)
 | 0, _ => []
 | d + 1, l => (if 0 ≤ c - (l : Int) * x ∧ 0 ≤ s - ((m ^ (11 - l) : Nat) : Int) then (rec (s - ((m ^ (11 - l) : Nat) : Int)) (c - (l : Int) * x)).map (fun t => (l : Int) :: t) else []) ++ solL m x rec s c d (l + 1)
def sols (m : Nat) : List Int → Int → Int → List (List Int)
 | [], _, c => if c = 0 then [[]] else []
 | x :: xs, s, c => solL m x (sols m xs) s c 11 1
theorem solL_len (m : Nat) (x : Int) (rec : Int → Int → List (List Int)) (s c : Int) (N : Nat) (h : ∀ a b, (rec a b).length ≤ N) : ∀ (d l : Nat), (solL m x rec s c d l).length ≤ d * N
 | 0, _ => by simp [solL]
 | d + 1, l => by
  have ih := solL_len m x rec s c N h d (l + 1)
  rw [solL, List.length_append, Nat.add_mul, Nat.one_mul]
  split
  ·rw [List.length_map]; have := h (s - ((m ^ (11 - l) : Nat) : Int)) (c - (l : Int) * x); omega
  ·simp; omega
theorem sols_len (m : Nat) : ∀ (xs : List Int) (s c : Int), (sols m xs s c).length ≤ 11 ^ xs.length
 | [], s, c => by
  unfold sols
  split <;> simp
 | x :: xs, s, c => by
  rw [sols, List.length_cons, Nat.pow_succ, Nat.mul_comm]
  exact solL_len m x (sols m xs) s c _ (sols_len m xs) 11 1
theorem solL_mem (m : Nat) (x : Int) (rec : Int → Int → List (List Int)) (s c : Int) (l' : Nat) (t : List Int) (h1 : 0 ≤ c - (l' : Int) * x) (h2 : 0 ≤ s - ((m ^ (11 - l') : Nat) : Int)) (ht : t ∈ rec (s - ((m ^ (11 - l') : Nat) : Int)) (c - (l' : Int) * x)) : ∀ (d l : Nat), l ≤ l' → l' < l + d → ((l' : Int) :: t) ∈ solL m x rec s c d l
 | 0, l, ha, hb => by omega
 | d + 1, l, ha, hb => by
  rw [solL, List.mem_append]
  by_cases e : l' = l
  ·subst e
   left
   rw [if_pos ⟨h1, h2⟩]
   exact List.mem_map.2 ⟨t, ht, rfl⟩
  ·right
   exact solL_mem m x rec s c l' t h1 h2 ht d (l + 1) (by omega) (by omega)
theorem sols_mem (m : Nat) : ∀ (ps : List (Int × Nat)) (s c : Int), (∀ p ∈ ps, 1 ≤ p.2 ∧ p.2 ≤ 11) → (∀ p ∈ ps, 0 ≤ p.1) → ((sN (ps.map (fun p => m ^ (11 - p.2))) : Nat) : Int) ≤ s → sI (ps.map (fun p => (p.2 : Int) * p.1)) = c → ps.map (fun p => (p.2 : Int)) ∈ sols m (ps.map Prod.fst) s c
 | [], s, c, _, _, _, h => by
  simp only [List.map_nil, sI] at h
  simp [sols, ← h]
 | p :: ps, s, c, h1, h2, h3, h4 => by
  simp only [List.map_cons, sI, sN] at h3 h4 ⊢
  have hp := h1 p (by simp)
  have hn : 0 ≤ sI (ps.map (fun p => (p.2 : Int) * p.1)) := sI_nonneg _ (fun x hx => by
   obtain ⟨q, hq, rfl⟩ := List.mem_map.1 hx
   exact Int.mul_nonneg (by omega) (h2 q (by simp [hq])))
  have ih := sols_mem m ps (s - ((m ^ (11 - p.2) : Nat) : Int)) (c - (p.2 : Int) * p.1) (fun q hq => h1 q (by simp [hq])) (fun q hq => h2 q (by simp [hq])) (by omega) (by omega)
  exact solL_mem m p.1 (sols m (ps.map Prod.fst)) s c p.2 _ (by omega) (by omega) ih 11 1 hp.1 (by omega)
theorem solL_each (m : Nat) (x : Int) (rec : Int → Int → List (List Int)) (s c : Int) (n : Nat) (h : ∀ a b t, t ∈ rec a b → t.length = n) : ∀ (d l : Nat) (t : List Int), t ∈ solL m x rec s c d l → t.length = n + 1
 | 0, _, t, ht => by simp [solL] at ht
 | d + 1, l, t, ht => by
  rw [solL, List.mem_append] at ht
  rcases ht with ht | ht
  ·split at ht
   ·obtain ⟨u, hu, rfl⟩ := List.mem_map.1 ht
    rw [List.length_cons, h _ _ u hu]
   ·simp at ht
  ·exact solL_each m x rec s c n h d (l + 1) t ht
theorem sols_each (m : Nat) : ∀ (xs : List Int) (s c : Int) (t : List Int), t ∈ sols m xs s c → t.length = xs.length
 | [], s, c, t, ht => by
  unfold sols at ht
  split at ht
  ·rw [List.mem_singleton] at ht; rw [ht]
  ·simp at ht
 | x :: xs, s, c, t, ht => solL_each m x (sols m xs) s c xs.length (fun a b t h => sols_each m xs a b t h) 11 1 t ht
def upd (f : List Int) (cnt : Int) : List (List Int) → List Int × Int
 | [] => (f, cnt)
 | a :: t => (if cnt = 0 then a else f, cnt + ((t.length : Int) + 1))
theorem upd_append (f : List Int) (cnt : Int) (h : 0 ≤ cnt) (A B : List (List Int)) : upd f cnt (A ++ B) = upd (upd f cnt A).1 (upd f cnt A).2 B := by
 cases A with
 | nil => rfl
 | cons a t =>
  cases B with
  | nil => simp [upd]
  | cons b u =>
   show upd f cnt (a :: (t ++ b :: u)) = upd (if cnt = 0 then a else f) (cnt + ((t.length : Int) + 1)) (b :: u)
   have hne : ¬ cnt + ((t.length : Int) + 1) = 0 := by omega
   show ((if cnt = 0 then a else f), cnt + (((t ++ b :: u).length : Int) + 1)) = (if cnt + ((t.length : Int) + 1) = 0 then b else (if cnt = 0 then a else f), cnt + ((t.length : Int) + 1) + ((u.length : Int) + 1))
   rw [if_neg hne, List.length_append, List.length_cons]
   congr 1
   omega
theorem upd_cnt (f : List Int) (cnt : Int) (A : List (List Int)) : (upd f cnt A).2 = cnt + (A.length : Int) := by
 cases A with
 | nil => simp [upd]
 | cons a t => simp [upd]
theorem drop_at (ws : List Int) (i : Nat) (h : i < ws.length) : ws.drop i = rd ws (i : Int) :: ws.drop (i + 1) := by rw [rd_nat ws i h, List.drop_eq_getElem_cons h]
theorem rd_in (ws : List Int) (i : Nat) (h : i < ws.length) (hx : ∀ x ∈ ws, 1 ≤ x ∧ x ≤ 100) : 1 ≤ rd ws (i : Int) ∧ rd ws (i : Int) ≤ 100 := by rw [rd_nat ws i h]; exact hx _ (List.getElem_mem h)
theorem mul_le_1100 {l : Nat} {x : Int} (hl : l ≤ 12) (hx : 1 ≤ x ∧ x ≤ 100) : 0 ≤ (l : Int) * x ∧ (l : Int) * x ≤ 1200 := by
 refine ⟨Int.mul_nonneg (by omega) (by omega), ?_⟩
 have h1 := Int.mul_le_mul_of_nonneg_left hx.2 (show (0 : Int) ≤ (l : Int) by omega)
 omega
theorem map_pre (list : List Int) (l : Int) (A : List (List Int)) : (A.map (fun t => l :: t)).map (list ++ ·) = A.map ((list ++ [l]) ++ ·) := by
 rw [List.map_map]
 congr 1
 funext t
 simp
theorem seek_ev (ws : List Int) (hw : ws.length ≤ 6) (hx : ∀ x ∈ ws, 1 ≤ x ∧ x ≤ 100) (m : Nat) (hm : 2 ≤ m ∧ m ≤ 3) : ∀ (d : Nat) (list : List Int) (share cost : Int) (f : List Int) (cnt : Int), list.length + d = ws.length → 0 ≤ share → share ≤ 1000000 → 0 ≤ cost → cost ≤ 1000000 → 0 ≤ cnt → cnt + ((11 ^ d : Nat) : Int) ≤ 1000000000 →
  Ev (fun k => spec_beFind.seek k ws (m : Int) list share cost f cnt) (upd f cnt ((sols m (ws.drop list.length) share cost).map (list ++ ·)))
 | 0, list, share, cost, f, cnt, hd, s1, s2, c1, c2, n1, n2 => by
  refine Ev.succ ?_
  simp only [spec_beFind.seek]
  have ec : Aside0 (wrap64 (cnt + 1) = cnt + 1) := ⟨w64 (by omega) (by omega)⟩
  refine Ev.neg (by omega) (Ev.neg (by omega) (Ev.pos (by omega) (Ev.pos (by omega) ?_)))
  rw [List.drop_of_length_le (by omega)]
  by_cases e : cost = 0
  ·have hs : sols m [] share cost = [[]] := by rw [sols, if_pos e]
   rw [hs, ec.out]
   simp only [List.map_cons, List.map_nil, List.append_nil, upd]
   refine Ev.pos e (Ev.cases (fun h => ?_) (fun h => ?_))
   ·rw [if_pos h]; exact Ev.now _
   ·rw [if_neg h]; exact Ev.now _
  ·have hs : sols m [] share cost = [] := by rw [sols, if_neg e]
   rw [hs]
   exact Ev.neg e (Ev.now _)
 | d + 1, list, share, cost, f, cnt, hd, s1, s2, c1, c2, n1, n2 => by
  have hi : list.length < ws.length := by omega
  have hx0 := rd_in ws list.length hi hx
  rw [drop_at ws list.length hi]
  generalize hrd0 : rd ws (list.length : Int) = x at hx0 ⊢
  have hN : (11 : Nat) ^ (d + 1) = 11 * 11 ^ d := by rw [Nat.pow_succ, Nat.mul_comm]
  have loop : ∀ (e l : Nat) (f : List Int) (cnt : Int), l + e = 12 → 1 ≤ l → 0 ≤ cnt → cnt + ((e * 11 ^ d : Nat) : Int) ≤ 1000000000 → rd ws (list.length : Int) = x →
    Ev (fun k => spec_beFind.loop k ws (m : Int) list share cost f cnt l) (upd f cnt ((solL m x (sols m (ws.drop (list.length + 1))) share cost e l).map (list ++ ·))) := by
   intro e
   induction e with
   | zero =>
    intro l f cnt he hl hc hb _
    refine Ev.succ ?_
    simp only [spec_beFind.loop]
    exact Ev.neg (by omega) (Ev.now _)
   | succ e ih =>
    intro l f cnt he hl hc hb hrd
    have hlx := mul_le_1100 (l := l) (by omega) hx0
    have hp := pow_small (m := m) (n := 11 - l) hm (by omega)
    have kp := krPower_ev m (11 - l) (by omega) (by omega) (by omega)
    rw [show ((11 - l : Nat) : Int) = 11 - (l : Int) by omega] at kp
    generalize hP : m ^ (11 - l) = P at hp kp
    have e1 : Aside0 (wrap64 (share - (P : Int)) = share - (P : Int)) := ⟨w64 (by omega) (by omega)⟩
    have e2 : Aside0 (wrap64 ((l : Int) * x) = (l : Int) * x) := ⟨w64 (by omega) (by omega)⟩
    generalize hL : (l : Int) * x = L at hlx e2
    have e3 : Aside0 (wrap64 (cost - L) = cost - L) := ⟨w64 (by omega) (by omega)⟩
    have hmul : (e + 1) * 11 ^ d = e * 11 ^ d + 11 ^ d := by rw [Nat.add_mul, Nat.one_mul]
    rw [hmul] at hb
    refine Ev.succ ?_
    simp only [spec_beFind.loop, hrd, hL, e1.out, e2.out, e3.out]
    rw [solL, hP, hL, List.map_append, upd_append f cnt hc]
    refine Ev.pos (by omega) (Ev.bind kp ?_)
    simp only [e1.out]
    by_cases c : 0 ≤ cost - L ∧ 0 ≤ share - (P : Int)
    ·rw [if_pos c, map_pre]
     have hlen : ((((sols m (ws.drop (list.length + 1)) (share - (P : Int)) (cost - L)).map ((list ++ [(l : Int)]) ++ ·)).length : Nat) : Int) ≤ ((11 ^ d : Nat) : Int) := by
      rw [List.length_map]
      have h9 := sols_len m (ws.drop (list.length + 1)) (share - (P : Int)) (cost - L)
      rw [List.length_drop, show ws.length - (list.length + 1) = d by omega] at h9
      omega
     have h1 := seek_ev ws hw hx m hm d (list ++ [(l : Int)]) (share - (P : Int)) (cost - L) f cnt (by simp; omega) (by omega) (by omega) (by omega) (by omega) hc (by omega)
     rw [show (list ++ [(l : Int)]).length = list.length + 1 by simp] at h1
     refine Ev.bind h1 ?_
     have hu := upd_cnt f cnt ((sols m (ws.drop (list.length + 1)) (share - (P : Int)) (cost - L)).map ((list ++ [(l : Int)]) ++ ·))
     exact ih (l + 1) _ _ (by omega) (by omega) (by omega) (by omega) hrd
    ·rw [if_neg c]
     refine Ev.bind (a := (f, cnt)) (Ev.succ ?_) ?_
     ·simp only [spec_beFind.seek]
      by_cases c1 : cost - L < 0
      ·exact Ev.pos c1 (Ev.now _)
      ·exact Ev.neg c1 (Ev.pos (by omega) (Ev.now _))
     ·exact ih (l + 1) f cnt (by omega) (by omega) hc (by omega) hrd
  refine Ev.succ ?_
  simp only [spec_beFind.seek]
  refine Ev.neg (by omega) (Ev.neg (by omega) (Ev.pos (by omega) (Ev.neg (by omega) ?_)))
  exact loop 11 1 f cnt (by omega) (by omega) n1 (by omega) hrd0
theorem search_spec (l : List Int) (m : Nat) (h1 : 1 ≤ l.length) (hl : l.length ≤ 6) (hm : 2 ≤ m ∧ m ≤ 3) (hx : ∀ x ∈ l, 1 ≤ x ∧ x ≤ 100) : ∃ S : List (List Int), S ≠ [] ∧ (∀ t ∈ S, t.length = l.length) ∧ Ev (fun k => spec_beFind.f k l (m : Int)) (upd [] 0 S) := by
 obtain ⟨B, ps, b1, b2, b3, b4, p1, p2, p3, p4⟩ := best_fits l m h1 (by omega) hm hx
 have hp := pow_small (m := m) (n := 11) hm (by omega)
 have k1 := krPower_ev m 11 (by omega) (by omega) (by omega)
 have h6 : (11 : Nat) ^ l.length ≤ 1771561 := by
  have : (11 : Nat) ^ 6 = 1771561 := by decide
  rw [← this]
  exact Nat.pow_le_pow_right (by omega) hl
 have s1 := seek_ev l hl hx m hm l.length [] ((m ^ 11 : Nat) : Int) B [] 0 (by simp) (by omega) (by omega) b3 b4 (by omega) (by omega)
 have hmap : ∀ A : List (List Int), A.map (([] : List Int) ++ ·) = A := fun A => by simp
 rw [List.length_nil, List.drop_zero, hmap] at s1
 have hmem := sols_mem m ps ((m ^ 11 : Nat) : Int) B p2 (fun p hp => by have := hx p.1 (by rw [← p1]; exact List.mem_map_of_mem hp); omega) (by omega) p4
 rw [p1] at hmem
 refine ⟨sols m l ((m ^ 11 : Nat) : Int) B, fun h => by rw [h] at hmem; simp at hmem, ?_, ?_⟩
 ·exact fun t ht => sols_each m l _ _ t ht
 ·unfold spec_beFind.f
  exact Ev.bind k1 (Ev.bind b1 s1)
def dot : List Int → List Nat → Int
 | w :: ws, l :: ls => (l : Int) * w + dot ws ls
 | _, _ => 0
theorem dot_append : ∀ (a b : List Int) (x y : List Nat), x.length = a.length → dot (a ++ b) (x ++ y) = dot a x + dot b y
 | [], b, [], y, _ => by simp [dot]
 | w :: a, b, l :: x, y, h => by
  have ih := dot_append a b x y (by simpa using h)
  simp only [List.cons_append, dot, ih]; omega
theorem dot_rep (d : Nat) : ∀ ws : List Int, dot ws (List.replicate ws.length d) = (d : Int) * sI ws
 | [] => by simp [dot, sI]
 | w :: ws => by rw [List.length_cons, List.replicate_succ, dot, dot_rep d ws, sI, Int.mul_add]
theorem dot_zip : ∀ (ws : List Int) (ls : List Nat), ls.length = ws.length → dot ws ls = sI ((ws.zip ls).map fun p => (p.2 : Int) * p.1)
 | [], [], _ => by simp [dot, sI]
 | w :: ws, l :: ls, h => by
  have ih := dot_zip ws ls (by simpa using h)
  simp only [dot, ih, List.zip_cons_cons, List.map_cons, sI]
theorem dot_pairs : ∀ ps : List (Int × Nat), sI (ps.map fun p => (p.2 : Int) * p.1) = dot (ps.map Prod.fst) (ps.map Prod.snd)
 | [] => by simp [dot, sI]
 | p :: ps => by simp only [List.map_cons, sI, dot, dot_pairs ps]
theorem max_of : ∀ (l : List Nat), l ≠ [] → ∃ x ∈ l, ∀ y ∈ l, y ≤ x
 | [], h => absurd rfl h
 | [x], _ => ⟨x, by simp, by simp⟩
 | x :: y :: l, _ => by
  obtain ⟨z, hz, h⟩ := max_of (y :: l) (by simp)
  by_cases c : x ≤ z
  ·exact ⟨z, List.mem_cons_of_mem _ hz, fun q hq => by
    rcases List.mem_cons.1 hq with rfl | hq
    ·exact c
    ·exact h q hq⟩
  ·exact ⟨x, by simp, fun q hq => by
    rcases List.mem_cons.1 hq with rfl | hq
    ·exact Nat.le_refl _
    ·have := h q hq; omega⟩
theorem dot_swap (w : Int) (M l : Nat) (h : l ≤ M) : ∀ (ws : List Int) (a b : List Nat), (a ++ M :: b).length = ws.length → (∀ v ∈ ws, w ≤ v) → (M : Int) * w + dot ws (a ++ l :: b) ≤ (l : Int) * w + dot ws (a ++ M :: b)
 | [], a, b, hl, _ => by simp at hl
 | v :: ws, [], b, hl, hw => by
  have hv := hw v (by simp)
  simp only [List.nil_append, dot]
  obtain ⟨e, rfl⟩ : ∃ e, M = l + e := ⟨M - l, by omega⟩
  have q : (e : Int) * w ≤ (e : Int) * v := Int.mul_le_mul_of_nonneg_left hv (by omega)
  rw [Int.natCast_add, Int.add_mul, Int.add_mul]
  omega
 | v :: ws, x :: a, b, hl, hw => by
  have ih := dot_swap w M l h ws a b (by simpa using hl) (fun u hu => hw u (by simp [hu]))
  simp only [List.cons_append, dot]
  omega
theorem rearr : ∀ (ws : List Int) (ls : List Nat), ls.length = ws.length → ws.Pairwise (fun x y => x ≤ y) → ∃ ls' : List Nat, ls'.Perm ls ∧ ls'.Pairwise (fun x y => y ≤ x) ∧ dot ws ls' ≤ dot ws ls
 | [], [], _, _ => ⟨[], List.Perm.refl _, by simp, by simp [dot]⟩
 | w :: ws, l :: ls, hl, hs => by
  have hs' := List.pairwise_cons.1 hs
  have hl' : ls.length = ws.length := by simpa using hl
  obtain ⟨M, hM, hmax⟩ := max_of (l :: ls) (by simp)
  by_cases e : M = l
  ·subst e
   obtain ⟨r, r1, r2, r3⟩ := rearr ws ls hl' hs'.2
   refine ⟨M :: r, r1.cons M, List.pairwise_cons.2 ⟨fun x hx => hmax x (List.mem_cons_of_mem _ (r1.subset hx)), r2⟩, ?_⟩
   simp only [dot]; omega
  ·have hM' : M ∈ ls := by
    rcases List.mem_cons.1 hM with h | h
    ·exact absurd h e
    ·exact h
   obtain ⟨a, b, rfl⟩ := List.append_of_mem hM'
   have hlM := hmax l (by simp)
   have hsw := dot_swap w M l hlM ws a b hl' hs'.1
   obtain ⟨r, r1, r2, r3⟩ := rearr ws (a ++ l :: b) (by simp at hl' ⊢; omega) hs'.2
   have hperm : (M :: (a ++ l :: b)).Perm (l :: (a ++ M :: b)) := by
    have p1 : (a ++ l :: b).Perm (l :: (a ++ b)) := List.perm_middle
    have p2 : (a ++ M :: b).Perm (M :: (a ++ b)) := List.perm_middle
    exact ((p1.cons M).trans (List.Perm.swap l M (a ++ b))).trans (p2.symm.cons l)
   refine ⟨M :: r, (r1.cons M).trans hperm, List.pairwise_cons.2 ⟨fun x hx => hmax x ?_, r2⟩, ?_⟩
   ·exact hperm.subset (List.mem_cons_of_mem _ (r1.subset hx))
   ·simp only [dot]; omega
theorem desc_cut (D : Nat) : ∀ ls : List Nat, ls.Pairwise (fun x y => y ≤ x) → (∀ l ∈ ls, l ≤ D) → ∃ (k : Nat) (r : List Nat), ls = List.replicate k D ++ r ∧ ∀ l ∈ r, l < D
 | [], _, _ => ⟨0, [], rfl, by simp⟩
 | l :: ls, h, hD => by
  have h' := List.pairwise_cons.1 h
  by_cases e : l = D
  ·subst e
   obtain ⟨k, r, h1, h2⟩ := desc_cut l ls h'.2 (fun x hx => hD x (by simp [hx]))
   exact ⟨k + 1, r, by rw [List.replicate_succ, List.cons_append, ← h1], h2⟩
  ·have hl := hD l (by simp)
   exact ⟨0, l :: ls, rfl, fun x hx => by
    rcases List.mem_cons.1 hx with rfl | hx
    ·omega
    ·have := h'.1 x hx; omega⟩
def ks (m D : Nat) (ls : List Nat) : Nat := sN (ls.map fun l => m ^ (D - l))
theorem ks_append (m D : Nat) (a b : List Nat) : ks m D (a ++ b) = ks m D a + ks m D b := by unfold ks; rw [List.map_append, sN_append]
theorem ks_cons (m D l : Nat) (b : List Nat) : ks m D (l :: b) = m ^ (D - l) + ks m D b := rfl
theorem ks_rep (m D : Nat) : ∀ k, ks m D (List.replicate k D) = k
 | 0 => rfl
 | k + 1 => by rw [List.replicate_succ, ks_cons, ks_rep m D k, Nat.sub_self, Nat.pow_zero]; omega
theorem ks_perm (m D : Nat) {a b : List Nat} (h : a.Perm b) : ks m D a = ks m D b := sN_perm (h.map _)
theorem ks_up (m D : Nat) : ∀ r : List Nat, (∀ l ∈ r, l < D + 1) → ks m (D + 1) r = m * ks m D r
 | [], _ => by simp [ks, sN]
 | l :: r, h => by
  have h1 := h l (by simp)
  have ih := ks_up m D r (fun x hx => h x (by simp [hx]))
  rw [ks_cons, ks_cons, ih, Nat.mul_add, show D + 1 - l = (D - l) + 1 by omega, Nat.pow_succ, Nat.mul_comm m (m ^ (D - l))]
theorem pow3_odd : ∀ n : Nat, 3 ^ n % 2 = 1
 | 0 => rfl
 | n + 1 => by have := pow3_odd n; rw [Nat.pow_succ]; omega
theorem ks_odd (D : Nat) : ∀ r : List Nat, ks 3 D r % 2 = r.length % 2
 | [] => rfl
 | l :: r => by
  have h1 := pow3_odd (D - l)
  have ih := ks_odd D r
  rw [ks_cons, List.length_cons]; omega
theorem least_step (m t : Nat) (ws : List Int) (hs : ws.Pairwise (fun x y => x ≤ y)) (h0 : ∀ w ∈ ws, 0 ≤ w) (h2 : 2 ≤ ws.length) (ht : TakeOk m t ws.length) : ∀ (N D : Nat) (ls : List Nat), D + sN ls ≤ N → ls.length = ws.length → (∀ l ∈ ls, l ≤ D) → ks m D ls ≤ m ^ D →
  ∃ (E : Nat) (r : List Nat), r.length = (ws.drop t).length ∧ (∀ l ∈ r, l ≤ E + 1) ∧ ks m (E + 1) r + m ≤ m ^ (E + 1) ∧ (E : Int) * sI (ws.take t) + dot (ws.drop t) r + sI (ws.take t) ≤ dot ws ls := by
 intro N
 induction N with
 | zero =>
  intro D ls hN hl hD hk
  exfalso
  have hD0 : D = 0 := by omega
  subst hD0
  have : ks m 0 ls = ls.length := by
   have : ls = List.replicate ls.length 0 := List.eq_replicate_iff.2 ⟨rfl, fun l hl => by have := hD l hl; omega⟩
   rw [this, ks_rep, List.length_replicate]
  rw [this, Nat.pow_zero] at hk
  omega
 | succ N ih =>
  intro D ls hN hl hD hk
  obtain ⟨l1, p1, p2, p3⟩ := rearr ws ls hl hs
  have hl1 : l1.length = ws.length := by rw [p1.length_eq]; exact hl
  have hD1 : ∀ l ∈ l1, l ≤ D := fun l h => hD l (p1.subset h)
  rw [← ks_perm m D p1] at hk
  rw [← sN_perm p1] at hN
  obtain ⟨k, r, rfl, hr⟩ := desc_cut D l1 p2 hD1
  rw [ks_append, ks_rep] at hk
  have hlen : k + r.length = ws.length := by rw [← hl1]; simp
  cases D with
  | zero =>
   exfalso
   have : r = [] := by
    cases r with
    | nil => rfl
    | cons x r => have := hr x (by simp); omega
   subst this
   simp [ks, sN] at hk hlen
   omega
  | succ D =>
   have hup := ks_up m D r hr
   rw [hup] at hk
   have hpow : m ^ (D + 1) = m * m ^ D := by rw [Nat.pow_succ, Nat.mul_comm]
   rw [hpow] at hk
   have hm : 2 ≤ m ∧ m ≤ 3 := by rcases ht with ⟨a, b⟩ | ⟨a, b⟩ <;> omega
   have htk : 2 ≤ t ∧ t ≤ m := by rcases ht with ⟨a, b⟩ | ⟨a, ⟨b, c⟩ | ⟨b, c⟩⟩ <;> omega
   by_cases hk0 : k = 0
   ·subst hk0
    simp only [List.replicate_zero, List.nil_append] at *
    have hk' : ks m D r ≤ m ^ D := by
     rw [Nat.zero_add] at hk
     exact Nat.le_of_mul_le_mul_left hk (by omega)
    rcases ih D r (by omega) hl1 (fun l h => by have := hr l h; omega) hk' with ⟨E, q, c1, c2, c3, c4⟩
    exact ⟨E, q, c1, c2, c3, by omega⟩
   ·obtain ⟨A, hA⟩ : ∃ A, A = ks m D r := ⟨_, rfl⟩
    obtain ⟨B, hB⟩ : ∃ B, B = m ^ D := ⟨_, rfl⟩
    have hodd : m = 3 → (A % 2 = r.length % 2 ∧ B % 2 = 1) := fun e => by subst e; exact ⟨by rw [hA]; exact ks_odd D r, by rw [hB]; exact pow3_odd D⟩
    rw [← hA, ← hB] at hk
    by_cases hkt : k < t
    ·-- one of the longest is shortened
     obtain ⟨k', rfl⟩ : ∃ k', k = k' + 1 := ⟨k - 1, by omega⟩
     have hk2 : k' + m + m * A ≤ m * B := by
      rcases ht with ⟨a, b⟩ | ⟨a, ⟨b, c⟩ | ⟨b, c⟩⟩
      ·subst a; subst b; omega
      ·subst a; subst b; have := hodd rfl; omega
      ·subst a; subst b; have := hodd rfl; omega
     have e1 : List.replicate (k' + 1) (D + 1) ++ r = List.replicate k' (D + 1) ++ (D + 1) :: r := by
      rw [List.replicate_succ', List.append_assoc]; rfl
     have hks : ks m (D + 1) (List.replicate k' (D + 1) ++ D :: r) ≤ m ^ (D + 1) := by
      rw [ks_append, ks_rep, ks_cons, hup, ← hA, hpow, ← hB, show D + 1 - D = 1 by omega, Nat.pow_one]
      omega
     rw [e1] at hN p3
     have hsn : D + 1 + sN (List.replicate k' (D + 1) ++ D :: r) ≤ N := by
      rw [sN_append] at hN ⊢
      simp only [sN] at hN ⊢
      omega
     have hcost : dot ws (List.replicate k' (D + 1) ++ D :: r) ≤ dot ws (List.replicate k' (D + 1) ++ (D + 1) :: r) := by
      obtain ⟨w1, w2, hw, hw1⟩ : ∃ w1 w2, ws = w1 ++ w2 ∧ w1.length = k' := ⟨ws.take k', ws.drop k', (List.take_append_drop _ _).symm, by rw [List.length_take]; omega⟩
      have hne : w2 ≠ [] := by
       rintro rfl
       rw [hw, List.append_nil] at hlen
       omega
      obtain ⟨v, w3, rfl⟩ := List.exists_cons_of_ne_nil hne
      have hv := h0 v (by rw [hw]; simp)
      rw [hw, dot_append _ _ _ _ (by simp [hw1]), dot_append _ _ _ _ (by simp [hw1])]
      simp only [dot]
      have e : ((D + 1 : Nat) : Int) * v = (D : Int) * v + v := by rw [Int.natCast_add, Int.add_mul]; simp
      omega
     rcases ih (D + 1) (List.replicate k' (D + 1) ++ D :: r) hsn (by simp at hlen ⊢; omega) (fun l h => by
       rcases List.mem_append.1 h with h | h
       ·rw [(List.mem_replicate.1 h).2]; exact Nat.le_refl _
       ·rcases List.mem_cons.1 h with rfl | h
        ·omega
        ·have := hr l h; omega) hks with ⟨E, q, c1, c2, c3, c4⟩
     exact ⟨E, q, c1, c2, c3, by omega⟩
    ·-- the least ones are merged
     refine ⟨D, List.replicate (k - t) (D + 1) ++ r, ?_, fun l h => ?_, ?_, ?_⟩
     ·rw [List.length_append, List.length_replicate, List.length_drop]; omega
     ·rcases List.mem_append.1 h with h | h
      ·rw [(List.mem_replicate.1 h).2]; exact Nat.le_refl _
      ·have := hr l h; omega
     ·rw [ks_append, ks_rep, hup, ← hA, hpow, ← hB]
      rcases ht with ⟨a, b⟩ | ⟨a, ⟨b, c⟩ | ⟨b, c⟩⟩
      ·subst a; subst b; omega
      ·subst a; subst b; have := hodd rfl; omega
      ·subst a; subst b; omega
     ·have e1 : List.replicate k (D + 1) ++ r = List.replicate t (D + 1) ++ (List.replicate (k - t) (D + 1) ++ r) := by
       rw [← List.append_assoc, List.replicate_append_replicate, show t + (k - t) = k by omega]
      have htw : (ws.take t).length = t := by rw [List.length_take]; omega
      have e2 : dot ws (List.replicate k (D + 1) ++ r) = ((D + 1 : Nat) : Int) * sI (ws.take t) + dot (ws.drop t) (List.replicate (k - t) (D + 1) ++ r) := by
       rw [e1]
       conv => lhs; rw [← List.take_append_drop t ws]
       rw [dot_append _ _ _ _ (by rw [htw, List.length_replicate])]
       have := dot_rep (D + 1) (ws.take t)
       rw [htw] at this
       rw [this]
      rw [e2] at p3
      have e : ((D + 1 : Nat) : Int) * sI (ws.take t) = (D : Int) * sI (ws.take t) + sI (ws.take t) := by rw [Int.natCast_add, Int.add_mul]; simp
      omega
theorem sI_ge (b : Int) : ∀ l : List Int, (∀ x ∈ l, b ≤ x) → b * (l.length : Int) ≤ sI l
 | [], _ => by simp [sI]
 | x :: t, h => by
  have h1 := h x (by simp)
  have h2 := sI_ge b t (fun y hy => h y (by simp [hy]))
  simp only [sI, List.length_cons]
  have e : b * ((t.length + 1 : Nat) : Int) = b * (t.length : Int) + b := by rw [Int.natCast_add, Int.mul_add]; simp
  omega
theorem sI_mem {l : List Int} (h0 : ∀ x ∈ l, 0 ≤ x) {x : Int} (h : x ∈ l) : x ≤ sI l := by
 obtain ⟨a, b, rfl⟩ := List.append_of_mem h
 rw [sI_append]
 have h1 := sI_nonneg a (fun y hy => h0 y (by simp [hy]))
 have h2 := sI_nonneg b (fun y hy => h0 y (by simp [hy]))
 simp only [sI]; omega
theorem next_sum (list : List Int) (take many : Nat) (hu : list.Pairwise (fun x y => x ≤ y)) (h0 : ∀ x ∈ list, 0 ≤ x) (h1 : 1 ≤ take ∧ take ≤ list.length ∧ take ≤ many) (h2 : many ≤ (sortI (list.drop take ++ [sI (list.take take)])).length) : sI (list.take take) ≤ sI ((sortI (list.drop take ++ [sI (list.take take)])).take many) := by
 obtain ⟨S, hS⟩ : ∃ S, S = sI (list.take take) := ⟨_, rfl⟩
 rw [← hS] at h2 ⊢
 have hx1 : ∀ x ∈ list.take take, 0 ≤ x := fun x h => h0 x (List.mem_of_mem_take h)
 have hS0 : 0 ≤ S := hS ▸ sI_nonneg _ hx1
 have hmem : ∀ y ∈ (sortI (list.drop take ++ [S])).take many, y ∈ list.drop take ∨ y = S := fun y hy => by
  have := (sortI_perm _).subset (List.mem_of_mem_take hy)
  rcases List.mem_append.1 this with h | h
  ·exact Or.inl h
  ·exact Or.inr (by simpa using h)
 have hn : ∀ y ∈ (sortI (list.drop take ++ [S])).take many, 0 ≤ y := fun y hy => by
  rcases hmem y hy with h | h
  ·exact h0 y (List.mem_of_mem_drop h)
  ·omega
 by_cases c : S ∈ (sortI (list.drop take ++ [S])).take many
 ·exact sI_mem hn c
 ·have hlt : take - 1 < list.length := by omega
  obtain ⟨mx, hmx⟩ : ∃ mx, mx = list[take - 1] := ⟨_, rfl⟩
  have hmx0 : 0 ≤ mx := hmx ▸ h0 _ (List.getElem_mem hlt)
  have up : ∀ x ∈ list.take take, x ≤ mx := fun x hx => by
   obtain ⟨i, hi, rfl⟩ := List.getElem_of_mem hx
   rw [List.length_take] at hi
   rw [List.getElem_take, hmx]
   by_cases e : i = take - 1
   ·subst e; exact Int.le_refl _
   ·exact List.pairwise_iff_getElem.1 hu i (take - 1) (by omega) hlt (by omega)
  have dn : ∀ x ∈ (sortI (list.drop take ++ [S])).take many, mx ≤ x := fun x hx => by
   rcases hmem x hx with h | h
   ·obtain ⟨i, hi, rfl⟩ := List.getElem_of_mem h
    rw [List.length_drop] at hi
    rw [List.getElem_drop, hmx]
    exact List.pairwise_iff_getElem.1 hu (take - 1) (take + i) hlt (by omega) (by omega)
   ·subst h; exact absurd hx c
  have a := sI_le mx _ up
  have b := sI_ge mx _ dn
  have la : (list.take take).length = take := by rw [List.length_take]; omega
  have lb : ((sortI (list.drop take ++ [S])).take many).length = many := by rw [List.length_take]; omega
  rw [la] at a
  rw [lb] at b
  have d : mx * (take : Int) ≤ mx * (many : Int) := Int.mul_le_mul_of_nonneg_left (by omega) hmx0
  omega
theorem merge_least (many : Nat) : ∀ (n : Nat) (list out : List Int) (take : Nat), 1 ≤ list.length → list.length ≤ n → list.length ≤ 12 → out.length + list.length ≤ 12 → list.Pairwise (fun x y => x ≤ y) → TakeOk many take list.length → (∀ x ∈ list, 0 ≤ x) → sI list ≤ 10000 →
  ∃ cs : List Int, Ev (fun k => impl_mergeRun.l0 k many list out take) (out ++ cs) ∧ cs.length + 1 ≤ list.length ∧ (∀ x ∈ cs, 0 ≤ x ∧ x ≤ 10000) ∧ cs.Pairwise (fun x y => x ≤ y) ∧ (list.length = 1 → cs = []) ∧ (2 ≤ list.length → ∃ tl, cs = sI (list.take take) :: tl) ∧ (2 ≤ list.length → ∃ a, cs = a ++ [sI list]) ∧ (∀ (D : Nat) (ls : List Nat), ls.length = list.length → (∀ l ∈ ls, l ≤ D) → ks many D ls ≤ many ^ D → sI cs ≤ dot list ls)
 | 0, list, out, take, h0, hn, hl, ho, hu, ht, hx, hs => by omega
 | n + 1, list, out, take, h0, hn, hl, ho, hu, ht, hx, hs => by
  by_cases h1 : 1 < list.length
  ·have htk : 2 ≤ take ∧ take ≤ list.length ∧ take ≤ many := by
    rcases ht with ⟨a, b⟩ | ⟨a, ⟨b, c⟩ | ⟨b, c⟩⟩ <;> omega
   have hdt : sI list = sI (list.take take) + sI (list.drop take) := by rw [← sI_append, List.take_append_drop]
   have hx1 : ∀ x ∈ list.take take, 0 ≤ x := fun x h => hx x (List.mem_of_mem_take h)
   have hx2 : ∀ x ∈ list.drop take, 0 ≤ x := fun x h => hx x (List.mem_of_mem_drop h)
   have hn1 := sI_nonneg _ hx1
   have hn2 := sI_nonneg _ hx2
   have hS0 : sumW (list.take take) 0 = sI (list.take take) := by rw [sumW_sI _ 0 hx1 (by omega) (by omega)]; omega
   have hnext := next_sum list take many hu hx ⟨by omega, htk.2.1, htk.2.2⟩
   have hstep := least_step many take list hu hx (by omega) ht
   obtain ⟨S, hS⟩ : ∃ S, S = sI (list.take take) := ⟨_, rfl⟩
   rw [← hS] at hnext
   have hlen : (sortI (list.drop take ++ [S])).length = list.length - take + 1 := by rw [sortI_len]; simp
   have htk' : TakeOk many many (list.length - take + 1) := by
    rcases ht with ⟨a, b⟩ | ⟨a, ⟨b, c⟩ | ⟨b, c⟩⟩
    ·exact Or.inl ⟨a, by omega⟩
    ·exact Or.inr ⟨a, Or.inr ⟨a, by omega⟩⟩
    ·exact Or.inr ⟨a, Or.inr ⟨a, by omega⟩⟩
   have hx' : ∀ x ∈ sortI (list.drop take ++ [S]), 0 ≤ x := fun x h => by
    have h := (sortI_perm _).subset h
    rcases List.mem_append.1 h with h | h
    ·exact hx2 x h
    ·rw [List.mem_singleton] at h; omega
   have hsum : sI (sortI (list.drop take ++ [S])) = sI list := by
    rw [sI_perm (sortI_perm _), sI_append]
    simp only [sI, Int.add_zero]
    omega
   obtain ⟨cs, r2, r5, r4, r7, r8, r9, r10, r11⟩ := merge_least many n (sortI (list.drop take ++ [S])) (out ++ [S]) many (by omega) (by omega) (by omega) (by simp; omega) (sortI_up _) (by rw [hlen]; exact htk') hx' (by omega)
   rw [List.append_assoc] at r2
   refine ⟨S :: cs, Ev.succ ?_, by simp only [List.length_cons]; omega, ?_, ?_, by omega, fun _ => ⟨cs, by rw [hS]⟩, fun _ => ?_, ?_⟩
   ·simp only [impl_mergeRun.l0]
    rw [hS, ← hS0] at r2
    rw [hS, ← hS0]
    exact Ev.pos h1 (Ev.pos (by omega) r2)
   ·intro x h
    rcases List.mem_cons.1 h with rfl | h
    ·omega
    ·exact r4 x h
   ·refine List.pairwise_cons.2 ⟨fun x hx => ?_, r7⟩
    by_cases c : (sortI (list.drop take ++ [S])).length = 1
    ·rw [r8 c] at hx; cases hx
    ·have c2 : 2 ≤ (sortI (list.drop take ++ [S])).length := by omega
     have hm2 : many ≤ (sortI (list.drop take ++ [S])).length := by
      rcases htk' with ⟨a, b⟩ | ⟨a, ⟨b, c⟩ | ⟨b, c⟩⟩ <;> omega
     have hS' := hnext hm2
     obtain ⟨tl, rfl⟩ := r9 c2
     rcases List.mem_cons.1 hx with rfl | hx
     ·exact hS'
     ·exact Int.le_trans hS' ((List.pairwise_cons.1 r7).1 x hx)
   ·by_cases c : (sortI (list.drop take ++ [S])).length = 1
    ·rw [r8 c]
     refine ⟨[], ?_⟩
     have hd : list.drop take = [] := by
      rw [← List.length_eq_zero_iff, List.length_drop]; omega
     have e1 : sI (list.drop take) = 0 := by rw [hd]; rfl
     rw [show sI list = S by omega]; rfl
    ·obtain ⟨a, ha⟩ := r10 (by omega)
     exact ⟨S :: a, by rw [ha, hsum]; rfl⟩
   ·intro D ls hl1 hl2 hl3
    obtain ⟨E, q, c1, c2, c3, c4⟩ := hstep (D + sN ls) D ls (Nat.le_refl _) hl1 hl2 hl3
    rw [← hS] at c4
    have hzl : (list.drop take).length = q.length := c1.symm
    obtain ⟨ps, hp1, hp2⟩ := perm_lift (sortI_perm (list.drop take ++ [S])).symm ((list.drop take).zip q ++ [(S, E)]) (by
     rw [List.map_append, List.map_fst_zip (by omega)]; rfl)
    have e1 : (ps.map Prod.snd).Perm (q ++ [E]) := by
     have := (hp1.map Prod.snd).symm
     rw [List.map_append, List.map_snd_zip (by omega)] at this
     exact this
    have hc := r11 (E + 1) (ps.map Prod.snd) (by rw [List.length_map, ← hp2, List.length_map]) (fun l hl => by
      rcases List.mem_append.1 (e1.subset hl) with h | h
      ·exact c2 l h
      ·rw [List.mem_singleton] at h; omega) (by
      rw [ks_perm many (E + 1) e1, ks_append]
      have : ks many (E + 1) [E] = many := by rw [ks_cons, show E + 1 - E = 1 by omega, Nat.pow_one]; rfl
      omega)
    have e2 : dot (sortI (list.drop take ++ [S])) (ps.map Prod.snd) = (E : Int) * S + dot (list.drop take) q := by
     rw [← hp2, ← dot_pairs, ← sI_perm (hp1.map _), List.map_append, sI_append, ← dot_zip _ _ c1]
     simp only [List.map_cons, List.map_nil, sI]
     omega
    rw [e2] at hc
    simp only [sI]
    omega
  ·refine ⟨[], Ev.succ ?_, by simp; omega, by simp, by simp, fun _ => rfl, fun h => by omega, fun h => by omega, fun D ls hl1 hl2 hl3 => ?_⟩
   ·simp only [impl_mergeRun.l0]; exact Ev.neg (by omega) (Ev.pure (by simp))
   ·match list, ls, h0, h1, hl1, hx with
    | [x], [l], _, _, _, hx =>
     have := hx x (by simp)
     simp only [sI, dot, Int.add_zero]
     exact Int.mul_nonneg (by omega) this
    | x :: y :: t, _, _, h1, _, _ => exact absurd (show 1 < (x :: y :: t).length by simp) h1
theorem ks_scale (m L : Nat) (hL : L ≤ 11) : ∀ ls : List Nat, (∀ l ∈ ls, l ≤ L) → ks m 11 ls = m ^ (11 - L) * ks m L ls
 | [], _ => by simp [ks, sN]
 | l :: ls, h => by
  have h1 := h l (by simp)
  rw [ks_cons, ks_cons, ks_scale m L hL ls (fun x hx => h x (by simp [hx])), Nat.mul_add, ← Nat.pow_add, show 11 - L + (L - l) = 11 - l by omega]
theorem ks_set (m D : Nat) : ∀ (ls : List Nat) (i v : Nat) (h : i < ls.length), ks m D (ls.set i v) + m ^ (D - ls[i]) = ks m D ls + m ^ (D - v)
 | l :: ls, 0, v, h => by simp only [List.set_cons_zero, List.getElem_cons_zero, ks_cons]; omega
 | l :: ls, i + 1, v, h => by
  have ih := ks_set m D ls i v (by simpa using h)
  simp only [List.set_cons_succ, List.getElem_cons_succ, ks_cons]; omega
theorem dot_set : ∀ (ws : List Int) (ls : List Nat) (i v : Nat) (h : i < ls.length) (h' : i < ws.length), dot ws (ls.set i v) = dot ws ls + ((v : Int) - (ls[i] : Int)) * ws[i]
 | w :: ws, l :: ls, 0, v, h, h' => by
  simp only [List.set_cons_zero, List.getElem_cons_zero, dot, Int.sub_mul]; omega
 | w :: ws, l :: ls, i + 1, v, h, h' => by
  have ih := dot_set ws ls i v (by simpa using h) (by simpa using h')
  simp only [List.set_cons_succ, List.getElem_cons_succ, dot, ih]; omega
theorem full_deep (m : Nat) (hm : m = 2 ∨ m = 3) : ∀ (L : Nat) (ls : List Nat), (∀ l ∈ ls, l ≤ L) → L ∈ ls → ks m L ls ≤ m ^ L → m ^ L ≤ ks m L ls + (m - 2) → L + 1 ≤ ls.length
 | 0, ls, _, h, _, _ => List.length_pos_of_mem h
 | L + 1, ls, hle, hin, h1, h2 => by
  obtain ⟨ls', p1, p2, -⟩ := rearr (ls.map fun _ => (0 : Int)) ls (by simp) (by rw [List.pairwise_map]; exact List.pairwise_of_forall (fun _ _ => Int.le_refl _))
  obtain ⟨k, r, rfl, hr⟩ := desc_cut (L + 1) ls' p2 (fun l hl => hle l (p1.subset hl))
  have hk : 1 ≤ k := by
   refine Nat.lt_of_not_le fun h0 => ?_
   have : k = 0 := by omega
   subst this
   have := p1.symm.subset hin
   simp at this
   have := hr _ this
   omega
  have hup := ks_up m L r hr
  rw [← ks_perm m (L + 1) p1, ks_append, ks_rep, hup, Nat.pow_succ, Nat.mul_comm (m ^ L) m] at h1 h2
  rw [← p1.length_eq, List.length_append, List.length_replicate]
  have hne : ∀ j, 1 ≤ j → j + ks m L r = m ^ L → L + 1 ≤ j + r.length := fun j hj he => by
   have := full_deep m hm L (List.replicate j L ++ r) (fun l hl => by
    rcases List.mem_append.1 hl with h | h
    ·rw [(List.mem_replicate.1 h).2]; exact Nat.le_refl _
    ·have := hr l h; omega) (by
    refine List.mem_append_left _ (List.mem_replicate.2 ⟨by omega, rfl⟩)) (by rw [ks_append, ks_rep]; omega) (by rw [ks_append, ks_rep]; omega)
   rw [List.length_append, List.length_replicate] at this
   exact this
  generalize ks m L r = A at h1 h2 hne
  generalize m ^ L = X at h1 h2 hne
  rcases hm with rfl | rfl
  ·have := hne (k / 2) (by omega) (by omega)
   omega
  ·have := hne ((k + 2) / 3) (by omega) (by omega)
   omega
structure Opt (m : Nat) (w : List Int) (ls : List Nat) : Prop where
 len : ls.length = w.length
 each : ∀ l ∈ ls, 1 ≤ l ∧ l ≤ 11
 fit : ks m 11 ls ≤ m ^ 11
 least : ∀ ls' : List Nat, ls'.length = w.length → (∀ l ∈ ls', 1 ≤ l ∧ l ≤ 11) → ks m 11 ls' ≤ m ^ 11 → dot w ls ≤ dot w ls'
theorem Opt.deep {m : Nat} (hm : m = 2 ∨ m = 3) {w : List Int} {ls : List Nat} (h : Opt m w ls) (hw : ∀ x ∈ w, 1 ≤ x) (h2 : 2 ≤ w.length) : ∀ l ∈ ls, l + 1 ≤ w.length := by
 obtain ⟨L, hL, hmax⟩ := max_of ls (by rintro rfl; have := h.len; simp at this; omega)
 have hL11 := (h.each L hL).2
 have key : L + 1 ≤ w.length := by
  refine Nat.le_of_not_lt fun hlt => ?_
  have hs := ks_scale m L hL11 ls hmax
  have hpos : 0 < m ^ (11 - L) := Nat.pow_pos (by omega)
  have hp : m ^ 11 = m ^ (11 - L) * m ^ L := by rw [← Nat.pow_add, show 11 - L + L = 11 by omega]
  have hfit := h.fit
  rw [hs, hp] at hfit
  have hfit' := Nat.le_of_mul_le_mul_left hfit hpos
  have hno : ¬ m ^ L ≤ ks m L ls + (m - 2) := fun hc => by
   have := full_deep m hm L ls hmax hL hfit' hc
   rw [h.len] at this; omega
  obtain ⟨i, hi, hli⟩ := List.getElem_of_mem hL
  have hi' : i < w.length := by rw [← h.len]; exact hi
  have e1 := ks_set m L ls i (L - 1) hi
  rw [hli, Nat.sub_self, Nat.pow_zero, show L - (L - 1) = 1 by omega, Nat.pow_one] at e1
  have hlt' : ∀ l ∈ ls.set i (L - 1), l ≤ L := fun l hl => by
   rcases List.mem_or_eq_of_mem_set hl with hl | rfl
   ·exact hmax l hl
   ·omega
  have d1 := dot_set w ls i (L - 1) hi hi'
  rw [hli] at d1
  have hwi := hw _ (List.getElem_mem hi')
  have hle := h.least (ls.set i (L - 1)) (by simp [h.len]) (fun l hl => by
   rcases List.mem_or_eq_of_mem_set hl with hl | rfl
   ·exact h.each l hl
   ·omega) (by
   rw [ks_scale m L hL11 _ hlt', hp]
   exact Nat.mul_le_mul_left _ (by omega))
  have q : (((L - 1 : Nat) : Int) - (L : Int)) * w[i] = -w[i] := by
   rw [show ((L - 1 : Nat) : Int) - (L : Int) = -1 by omega]; omega
  omega
 intro l hl
 have := hmax l hl
 omega
theorem ev_one {α : Type} {g : Nat → Option α} {a b : α} (h1 : Ev g a) (h2 : Ev g b) : a = b := by
 obtain ⟨n, hn⟩ := h1
 obtain ⟨m, hm⟩ := h2
 have e1 := hn (max n m) (Nat.le_max_left _ _)
 have e2 := hm (max n m) (Nat.le_max_right _ _)
 exact Option.some.inj (e1.symm.trans e2)
theorem best_run (l : List Int) (m : Nat) (h1 : 1 ≤ l.length) (hl : l.length ≤ 12) (hm : 2 ≤ m ∧ m ≤ 3) (hx : ∀ x ∈ l, 1 ≤ x ∧ x ≤ 100) : ∃ (r : List Int) (B : Int), Ev (fun k => impl_mergeRun.f k l (m : Int)) r ∧ Ev (fun k => impl_bestCost.f k l (m : Int)) B ∧ r.length + 1 ≤ l.length ∧ r.Pairwise (fun x y => x ≤ y) ∧ (∀ x ∈ r, 0 ≤ x ∧ x ≤ 10000) ∧ (l.length = 1 → r = [] ∧ B = sI l) ∧ (2 ≤ l.length → B = sI r ∧ ∃ a, r = a ++ [sI l]) ∧ ∀ ls : List Nat, ls.length = l.length → (∀ x ∈ ls, 1 ≤ x ∧ x ≤ 11) → ks m 11 ls ≤ m ^ 11 → B ≤ dot l ls := by
 obtain ⟨t, ht⟩ : ∃ t : Nat, t = if (m : Int) = 3 ∧ l.length % 2 = 0 then 2 else m := ⟨_, rfl⟩
 have hlen := sortI_len l
 have htk : TakeOk m t (sortI l).length := by
  rw [hlen, ht]
  unfold TakeOk
  by_cases c : (m : Int) = 3 ∧ l.length % 2 = 0
  ·rw [if_pos c]; omega
  ·rw [if_neg c]; omega
 have hsl : sI (sortI l) = sI l := sI_perm (sortI_perm l)
 have hsum : sI (sortI l) ≤ 10000 := by
  rw [hsl]
  have := sI_le 100 l (fun x h => (hx x h).2)
  omega
 obtain ⟨r, r2, r5, r4, r7, r8, r9, r10, r11⟩ := merge_least m 12 (sortI l) [] t (by omega) (by omega) (by omega) (by simp; omega) (sortI_up l) htk (fun x h => by have := hx x ((sortI_perm l).subset h); omega) hsum
 rw [List.nil_append] at r2
 rw [hlen] at r5 r8 r10
 have hrun : Ev (fun k => impl_mergeRun.f k l (m : Int)) r := by
  unfold impl_mergeRun.f
  rw [Int.toNat_natCast, ← ht]
  exact Ev.pos (by omega) r2
 by_cases e : l.length = 1
 ·obtain rfl := r8 e
  match l, e with
  | [x], _ =>
   have e0 : rd [x] 0 = x := by simp [rd]
   have hx0 := hx x (by simp)
   refine ⟨[], x, hrun, ?_, by simp, by simp, by simp, fun _ => ⟨rfl, by simp [sI]⟩, fun h => by simp at h, fun ls h h' _ => ?_⟩
   ·unfold impl_bestCost.f
    exact Ev.pos (by simp) (Ev.pos (by simp) (Ev.pure e0))
   ·match ls, h with
    | [y], _ =>
     have hy := h' y (by simp)
     simp only [dot, Int.add_zero]
     have : 1 * x ≤ (y : Int) * x := Int.mul_le_mul_of_nonneg_right (by omega) (by omega)
     omega
 ·have hb := sI_le 10000 r (fun x h => (r4 x h).2)
  have hb0 := sI_nonneg r (fun x h => (r4 x h).1)
  obtain ⟨-, s2⟩ := bestSum2 r (by omega) r4 r.length 0 0 (by omega) (by omega) (by rw [List.drop_zero]; omega)
  rw [List.drop_zero, Int.zero_add] at s2
  refine ⟨r, sI r, hrun, ?_, r5, r7, r4, fun h => absurd h e, fun h => ⟨rfl, ?_⟩, fun ls h h' hk => ?_⟩
  ·unfold impl_bestCost.f
   exact Ev.neg (by omega) (Ev.bind hrun s2)
  ·obtain ⟨a, ha⟩ := r10 h
   exact ⟨a, by rw [ha, hsl]⟩
  ·obtain ⟨ps, hp1, hp2⟩ := perm_lift (sortI_perm l).symm (l.zip ls) (List.map_fst_zip (by omega))
   have e1 : (ps.map Prod.snd).Perm ls := by
    have := (hp1.map Prod.snd).symm
    rw [List.map_snd_zip (by omega)] at this
    exact this
   have := r11 11 (ps.map Prod.snd) (by rw [List.length_map, ← hp2, List.length_map]) (fun x hx => (h' x (e1.subset hx)).2) (by rw [ks_perm m 11 e1]; exact hk)
   have e2 : dot (sortI l) (ps.map Prod.snd) = dot l ls := by
    rw [← hp2, ← dot_pairs, ← sI_perm (hp1.map _), ← dot_zip _ _ h]
   rw [e2] at this
   exact this
def askB (w : List Int) (m : Int) : Bool := decide (1 ≤ (w.length : Int) ∧ (w.length : Int) ≤ 12) && w.all (fun x => decide (1 ≤ x ∧ x ≤ 100)) && decide (2 ≤ m ∧ m ≤ 3)
theorem askB_of {w : List Int} {m : Int} (h : askB w m = true) : 1 ≤ w.length ∧ w.length ≤ 12 ∧ (∀ x ∈ w, 1 ≤ x ∧ x ≤ 100) ∧ ∃ n : Nat, m = (n : Int) ∧ 2 ≤ n ∧ n ≤ 3 := by
 unfold askB at h
 simp only [Bool.and_eq_true, decide_eq_true_eq, List.all_eq_true] at h
 exact ⟨by omega, by omega, h.1.2, m.toNat, by omega, by omega, by omega⟩
theorem implBest_ev (w : List Int) (m : Int) (hw : w.length ≤ 1048576) (B : Int) (h : askB w m = true → Ev (fun k => impl_bestCost.f k w m) B) : Ev (fun k => impl_BestCost.f k w m) (if askB w m = true then (B, true) else (0, false)) := by
 have a2 := impl_areWeights_ev w hw
 have a3 := areLetters_eq m
 unfold impl_BestCost.f
 unfold askB at h ⊢
 generalize (decide (1 ≤ (w.length : Int) ∧ (w.length : Int) ≤ 12) && w.all fun x => decide (1 ≤ x ∧ x ≤ 100)) = A at a2 h ⊢
 generalize decide (2 ≤ m ∧ m ≤ 3) = C at a3 h ⊢
 cases A with
 | false => exact Ev.bind a2 (Ev.neg (by simp) (Ev.now _))
 | true =>
  cases C with
  | false => exact Ev.bind a2 (Ev.pos rfl (Ev.known (fun _ => a3) (Ev.neg (by simp) (Ev.now _))))
  | true => exact Ev.bind a2 (Ev.pos rfl (Ev.known (fun _ => a3) (Ev.pos rfl (Ev.bind (h rfl) (Ev.now _)))))
theorem impl_areDeep__1_l0 (l : List Int) (hl : l.length ≤ 1048576) : ∀ (d i : Nat), i + d = l.length → ∃ r, Ev (fun k => slices_IndexFunc_int_int__at_impl_areDeep__1.l0 k l (l.length : Int) (i : Int)) r ∧ decide (r ≥ 0) = (l.drop i).any fun x => !decide (1 ≤ x ∧ x ≤ 11)
 | 0, i, hd => ⟨-1, Ev.step (f := fun _ => some (-1)) (fun k => by simp only [slices_IndexFunc_int_int__at_impl_areDeep__1.l0]; rw [if_neg (by omega)]) (Ev.now _), by rw [List.drop_of_length_le (by omega)]; rfl⟩
 | d + 1, i, hd => by
  have h1 : i < l.length := by omega
  obtain ⟨r, ih, hr⟩ := impl_areDeep__1_l0 l hl d (i + 1) (by omega)
  have hs : ∀ k, slices_IndexFunc_int_int__at_impl_areDeep__1.l0 (k + 1) l (l.length : Int) (i : Int) = if (!decide (1 ≤ l[i] ∧ l[i] ≤ 11)) = true then some (i : Int) else slices_IndexFunc_int_int__at_impl_areDeep__1.l0 k l (l.length : Int) ((i + 1 : Nat) : Int) := by
   intro k
   simp only [slices_IndexFunc_int_int__at_impl_areDeep__1.l0, impl_areDeep__1.f, impl_in_eq]; rw [if_pos (by omega), if_pos (by omega), if_pos (by omega), w1 (by omega) (by omega), rd_nat l i h1]; simp
  rw [List.drop_eq_getElem_cons h1, List.any_cons]
  by_cases h : (!decide (1 ≤ l[i] ∧ l[i] ≤ 11)) = true
  ·exact ⟨i, Ev.step hs (Ev.pos h (Ev.now _)), by rw [h]; simp⟩
  ·exact ⟨r, Ev.step hs (Ev.neg h ih), by rw [hr, Bool.eq_false_iff.mpr h, Bool.false_or]⟩
theorem impl_areDeep__1_contains (l : List Int) (hl : l.length ≤ 1048576) : Ev (fun k => slices_ContainsFunc_int_int__at_impl_areDeep__1.f k l) (l.any fun x => !decide (1 ≤ x ∧ x ≤ 11)) := by
 obtain ⟨r, h, hr⟩ := impl_areDeep__1_l0 l hl l.length 0 (by omega)
 unfold slices_ContainsFunc_int_int__at_impl_areDeep__1.f slices_IndexFunc_int_int__at_impl_areDeep__1.f
 refine Ev.bind (by simpa using h) (Ev.pure ?_)
 simpa using hr
theorem impl_areDeep_ev (l : List Int) (hl : l.length ≤ 1048576) : Ev (fun k => impl_areDeep.f k l) (decide (1 ≤ (l.length : Int) ∧ (l.length : Int) ≤ 12) && l.all fun x => decide (1 ≤ x ∧ x ≤ 11)) := by
 unfold impl_areDeep.f
 refine Ev.known (fun n => impl_in_eq _ _ _) (Ev.cases (fun h => ?_) (fun h => ?_))
 ·refine Ev.bind (impl_areDeep__1_contains l hl) (Ev.pure ?_)
  rw [h, Bool.true_and, List.any_eq_not_all_not, Bool.not_not]; simp
 ·refine Ev.pure ?_
  rw [Bool.eq_false_iff.mpr h, Bool.false_and]
theorem beLengths_ev (l : List Int) (hl : l.length ≤ 1048576) : Ev (fun k => spec_beLengths.f k l) (decide (1 ≤ (l.length : Int) ∧ (l.length : Int) ≤ 12) && l.all fun x => decide (1 ≤ x ∧ x ≤ 11)) := by
 unfold spec_beLengths.f
 refine Ev.known (fun n => spec_in _ _ _) (Ev.cases (fun h => ?_) (fun h => ?_))
 ·exact Ev.bind (spec_all l _ _ hl) (Ev.pure (by rw [h, Bool.true_and]))
 ·exact Ev.pure (by rw [Bool.eq_false_iff.mpr h, Bool.false_and])
theorem impl_areLengths__1_l0 (l : List Int) (hl : l.length ≤ 1048576) : ∀ (d i : Nat), i + d = l.length → ∃ r, Ev (fun k => slices_IndexFunc_int_int__at_impl_areLengths__1.l0 k l (l.length : Int) (i : Int)) r ∧ decide (r ≥ 0) = (l.drop i).any fun x => !decide (1 ≤ x ∧ x ≤ 8)
 | 0, i, hd => ⟨-1, Ev.step (f := fun _ => some (-1)) (fun k => by simp only [slices_IndexFunc_int_int__at_impl_areLengths__1.l0]; rw [if_neg (by omega)]) (Ev.now _), by rw [List.drop_of_length_le (by omega)]; rfl⟩
 | d + 1, i, hd => by
  have h1 : i < l.length := by omega
  obtain ⟨r, ih, hr⟩ := impl_areLengths__1_l0 l hl d (i + 1) (by omega)
  have hs : ∀ k, slices_IndexFunc_int_int__at_impl_areLengths__1.l0 (k + 1) l (l.length : Int) (i : Int) = if (!decide (1 ≤ l[i] ∧ l[i] ≤ 8)) = true then some (i : Int) else slices_IndexFunc_int_int__at_impl_areLengths__1.l0 k l (l.length : Int) ((i + 1 : Nat) : Int) := by
   intro k
   simp only [slices_IndexFunc_int_int__at_impl_areLengths__1.l0, impl_areLengths__1.f, impl_in_eq]; rw [if_pos (by omega), if_pos (by omega), if_pos (by omega), w1 (by omega) (by omega), rd_nat l i h1]; simp
  rw [List.drop_eq_getElem_cons h1, List.any_cons]
  by_cases h : (!decide (1 ≤ l[i] ∧ l[i] ≤ 8)) = true
  ·exact ⟨i, Ev.step hs (Ev.pos h (Ev.now _)), by rw [h]; simp⟩
  ·exact ⟨r, Ev.step hs (Ev.neg h ih), by rw [hr, Bool.eq_false_iff.mpr h, Bool.false_or]⟩
theorem impl_areLengths__1_contains (l : List Int) (hl : l.length ≤ 1048576) : Ev (fun k => slices_ContainsFunc_int_int__at_impl_areLengths__1.f k l) (l.any fun x => !decide (1 ≤ x ∧ x ≤ 8)) := by
 obtain ⟨r, h, hr⟩ := impl_areLengths__1_l0 l hl l.length 0 (by omega)
 unfold slices_ContainsFunc_int_int__at_impl_areLengths__1.f slices_IndexFunc_int_int__at_impl_areLengths__1.f
 refine Ev.bind (by simpa using h) (Ev.pure ?_)
 simpa using hr
def kr (m e : Nat) (L : List Nat) : Nat := (L.map fun x => m ^ (e - x)).sum
theorem kr_snoc (m e : Nat) (L : List Nat) (x : Nat) : kr m e (L ++ [x]) = kr m e L + m ^ (e - x) := by simp [kr]
theorem kr_le {m e : Nat} (hm : 2 ≤ m ∧ m ≤ 3) (he : e ≤ 11) : ∀ L : List Nat, kr m e L ≤ L.length * 177147
 | [] => by simp [kr]
 | x :: L => by
  have h1 := kr_le hm he L
  have h2 := (pow_small (n := e - x) hm (by omega)).2
  have h3 : kr m e (x :: L) = m ^ (e - x) + kr m e L := by simp [kr]
  rw [h3, List.length_cons, Nat.add_mul]
  omega
theorem kr_take {m e : Nat} (hm : 2 ≤ m ∧ m ≤ 3) (he : e ≤ 11) (L : List Nat) (hL : L.length ≤ 12) (i : Nat) : kr m e (L.take i) ≤ 2125764 := by
 have h1 := kr_le hm he (L.take i)
 have h2 : (L.take i).length ≤ 12 := by rw [List.length_take]; omega
 have h3 := Nat.mul_le_mul_right 177147 h2
 omega
theorem kr_perm (m e : Nat) {L M : List Nat} (h : L.Perm M) : kr m e L = kr m e M := (h.map _).sum_nat
theorem kr_up (m : Nat) : ∀ (L : List Nat), (∀ x ∈ L, x ≤ 8) → kr m 11 L = kr m 8 L * m ^ 3
 | [], _ => by simp [kr]
 | x :: L, h => by
  have ih := kr_up m L (fun y hy => h y (by simp [hy]))
  have hx := h x (by simp)
  have h1 : kr m 11 (x :: L) = m ^ (11 - x) + kr m 11 L := by simp [kr]
  have h2 : kr m 8 (x :: L) = m ^ (8 - x) + kr m 8 L := by simp [kr]
  rw [h1, h2, ih, Nat.add_mul, ← Nat.pow_add, show 8 - x + 3 = 11 - x by omega]
def intsOf (L : List Nat) : List Int := L.map fun (x : Nat) => (x : Int)
theorem ints_len (L : List Nat) : (intsOf L).length = L.length := by simp [intsOf]
theorem ints_at (L : List Nat) (i : Nat) (h : i < L.length) : rd (intsOf L) (i : Int) = ((L[i] : Nat) : Int) := by
 rw [rd_nat _ i (by rw [ints_len]; exact h)]
 simp [intsOf]
theorem ints_of (l : List Int) (h : ∀ x ∈ l, 1 ≤ x) : l = intsOf (l.map Int.toNat) := by
 unfold intsOf
 rw [List.map_map]
 conv => lhs; rw [← List.map_id l]
 apply List.map_congr_left
 intro x hx
 have := h x hx
 simp
 omega
def deepB (l : List Int) : Bool := decide (1 ≤ (l.length : Int) ∧ (l.length : Int) ≤ 12) && l.all fun x => decide (1 ≤ x ∧ x ≤ 11)
theorem deepB_ints {L : List Nat} (h1 : 1 ≤ L.length) (h2 : L.length ≤ 12) (hb : ∀ x ∈ L, 1 ≤ x ∧ x ≤ 11) : deepB (intsOf L) = true := by
 unfold deepB
 simp only [Bool.and_eq_true, decide_eq_true_eq, List.all_eq_true, ints_len]
 refine ⟨by omega, fun x hx => ?_⟩
 obtain ⟨y, hy, rfl⟩ := List.mem_map.1 hx
 have := hb y hy
 omega
theorem implDeep (l : List Int) (hl : l.length ≤ 1048576) : Ev (fun k => impl_areDeep.f k l) (deepB l) := impl_areDeep_ev l hl
theorem impl_parts_l0 (m : Nat) (hm : 2 ≤ m ∧ m ≤ 3) (L : List Nat) (hL : L.length ≤ 12) (hb : ∀ x ∈ L, 1 ≤ x ∧ x ≤ 8) : ∀ (d i : Nat), i + d = L.length → Ev (fun k => impl_parts.l0 k (m : Int) ((kr m 8 (L.take i) : Nat) : Int) (intsOf L) (L.length : Int) (i : Int)) ((kr m 8 L : Nat) : Int)
 | 0, i, hd => by
  refine Ev.succ ?_
  simp only [impl_parts.l0]
  exact Ev.neg (by omega) (Ev.pure (by rw [List.take_of_length_le (by omega)]))
 | d + 1, i, hd => by
  have h1 : i < L.length := by omega
  have hx := hb _ (List.getElem_mem h1)
  have ih := impl_parts_l0 m hm L hL hb d (i + 1) (by omega)
  have hp := pow_small (n := 8 - L[i]) hm (by omega)
  have hk := kr_take hm (e := 8) (by omega) L hL i
  have hpe := power_ev m (8 - L[i]) (by omega) (by omega) (by omega)
  rw [List.take_succ_eq_append_getElem h1, kr_snoc] at ih
  have e1 : Aside0 (wrap64 (8 - ((L[i] : Nat) : Int)) = ((8 - L[i] : Nat) : Int)) := ⟨by rw [w64 (by omega) (by omega)]; omega⟩
  have e2 : Aside0 (wrap64 (((kr m 8 (L.take i) : Nat) : Int) + ((m ^ (8 - L[i]) : Nat) : Int)) = ((kr m 8 (L.take i) + m ^ (8 - L[i]) : Nat) : Int)) := ⟨by rw [w64 (by omega) (by omega)]; omega⟩
  refine Ev.succ ?_
  simp only [impl_parts.l0, ints_at L i h1, e1.out, w1 (show 0 ≤ (i : Int) by omega) (show (i : Int) < 9223372036854775807 by omega)]
  refine Ev.pos (by omega) (Ev.pos (by omega) (Ev.pos (by rw [ints_len]; omega) (Ev.bind hpe ?_)))
  simp only [e2.out]
  exact ih
theorem impl_parts_ev (m : Nat) (hm : 2 ≤ m ∧ m ≤ 3) (L : List Nat) (hL : L.length ≤ 12) (hb : ∀ x ∈ L, 1 ≤ x ∧ x ≤ 8) : Ev (fun k => impl_parts.f k (intsOf L) (m : Int)) ((kr m 8 L : Nat) : Int) := by
 have h := impl_parts_l0 m hm L hL hb L.length 0 (by omega)
 unfold impl_parts.f
 rw [ints_len]
 exact h
theorem spec_krShares_l0 (m : Nat) (hm : 2 ≤ m ∧ m ≤ 3) (L : List Nat) (hL : L.length ≤ 12) (hb : ∀ x ∈ L, 1 ≤ x ∧ x ≤ 8) : ∀ (d i : Nat), i + d = L.length → Ev (fun k => spec_krShares.l0 k (m : Int) ((kr m 8 (L.take i) : Nat) : Int) (intsOf L) (L.length : Int) (i : Int)) ((kr m 8 L : Nat) : Int)
 | 0, i, hd => by
  refine Ev.succ ?_
  simp only [spec_krShares.l0]
  exact Ev.neg (by omega) (Ev.pure (by rw [List.take_of_length_le (by omega)]))
 | d + 1, i, hd => by
  have h1 : i < L.length := by omega
  have hx := hb _ (List.getElem_mem h1)
  have ih := spec_krShares_l0 m hm L hL hb d (i + 1) (by omega)
  have hp := pow_small (n := 8 - L[i]) hm (by omega)
  have hk := kr_take hm (e := 8) (by omega) L hL i
  have hpe := krPower_ev m (8 - L[i]) (by omega) (by omega) (by omega)
  rw [List.take_succ_eq_append_getElem h1, kr_snoc] at ih
  have e1 : Aside0 (wrap64 (8 - ((L[i] : Nat) : Int)) = ((8 - L[i] : Nat) : Int)) := ⟨by rw [w64 (by omega) (by omega)]; omega⟩
  have e2 : Aside0 (wrap64 (((kr m 8 (L.take i) : Nat) : Int) + ((m ^ (8 - L[i]) : Nat) : Int)) = ((kr m 8 (L.take i) + m ^ (8 - L[i]) : Nat) : Int)) := ⟨by rw [w64 (by omega) (by omega)]; omega⟩
  refine Ev.succ ?_
  simp only [spec_krShares.l0, ints_at L i h1, e1.out, w1 (show 0 ≤ (i : Int) by omega) (show (i : Int) < 9223372036854775807 by omega)]
  refine Ev.pos (by omega) (Ev.pos (by omega) (Ev.pos (by rw [ints_len]; omega) (Ev.bind hpe ?_)))
  simp only [e2.out]
  exact ih
theorem spec_krShares_ev (m : Nat) (hm : 2 ≤ m ∧ m ≤ 3) (L : List Nat) (hL : L.length ≤ 12) (hb : ∀ x ∈ L, 1 ≤ x ∧ x ≤ 8) : Ev (fun k => spec_krShares.f k (intsOf L) (m : Int)) ((kr m 8 L : Nat) : Int) := by
 have h := spec_krShares_l0 m hm L hL hb L.length 0 (by omega)
 unfold spec_krShares.f
 rw [ints_len]
 exact h
theorem beFit_l0 (m : Nat) (hm : 2 ≤ m ∧ m ≤ 3) (L : List Nat) (hL : L.length ≤ 12) (hb : ∀ x ∈ L, 1 ≤ x ∧ x ≤ 11) : ∀ (d i : Nat), i + d = L.length → Ev (fun k => spec_beFit.l0 k (m : Int) (((m ^ 11 : Nat) : Int) - ((kr m 11 (L.take i) : Nat) : Int)) (intsOf L) (L.length : Int) (i : Int)) (decide (kr m 11 L ≤ m ^ 11))
 | 0, i, hd => by
  refine Ev.succ ?_
  simp only [spec_beFit.l0]
  exact Ev.neg (by omega) (Ev.pure (by rw [List.take_of_length_le (by omega)]; exact decide_eq_decide.2 (by omega)))
 | d + 1, i, hd => by
  have h1 : i < L.length := by omega
  have hx := hb _ (List.getElem_mem h1)
  have ih := beFit_l0 m hm L hL hb d (i + 1) (by omega)
  have hp := pow_small (n := 11 - L[i]) hm (by omega)
  have hq := pow_small (n := 11) hm (by omega)
  have hk := kr_take hm (e := 11) (by omega) L hL i
  have hpe := krPower_ev m (11 - L[i]) (by omega) (by omega) (by omega)
  rw [List.take_succ_eq_append_getElem h1, kr_snoc] at ih
  have e1 : Aside0 (wrap64 (11 - ((L[i] : Nat) : Int)) = ((11 - L[i] : Nat) : Int)) := ⟨by rw [w64 (by omega) (by omega)]; omega⟩
  have e2 : Aside0 (wrap64 (((m ^ 11 : Nat) : Int) - ((kr m 11 (L.take i) : Nat) : Int) - ((m ^ (11 - L[i]) : Nat) : Int)) = ((m ^ 11 : Nat) : Int) - ((kr m 11 (L.take i) + m ^ (11 - L[i]) : Nat) : Int)) := ⟨by rw [w64 (by omega) (by omega)]; omega⟩
  refine Ev.succ ?_
  simp only [spec_beFit.l0, ints_at L i h1, e1.out, w1 (show 0 ≤ (i : Int) by omega) (show (i : Int) < 9223372036854775807 by omega)]
  refine Ev.pos (by omega) (Ev.pos (by omega) (Ev.pos (by rw [ints_len]; omega) (Ev.bind hpe ?_)))
  simp only [e2.out]
  exact ih
theorem beFit_ev (m : Nat) (hm : 2 ≤ m ∧ m ≤ 3) (L : List Nat) (hL : L.length ≤ 12) (hb : ∀ x ∈ L, 1 ≤ x ∧ x ≤ 11) : Ev (fun k => spec_beFit.f k (intsOf L) (m : Int)) (decide (kr m 11 L ≤ m ^ 11)) := by
 have hq := pow_small (n := 11) hm (by omega)
 have h := beFit_l0 m hm L hL hb L.length 0 (by omega)
 unfold spec_beFit.f
 refine Ev.bind (krPower_ev m 11 (by omega) (by omega) (by omega)) ?_
 rw [ints_len]
 simpa [kr] using h
def digs (m : Nat) : Nat → Nat → List UInt8
 | 0, _ => []
 | l + 1, n => digs m l (n / m) ++ [UInt8.ofNat (97 + n % m)]
theorem digs_length (m : Nat) : ∀ l n, (digs m l n).length = l
 | 0, _ => rfl
 | l + 1, n => by rw [digs, List.length_append, digs_length m l]; rfl
theorem ba_append (a b : Array UInt8) : (⟨a⟩ : ByteArray) ++ (⟨b⟩ : ByteArray) = ⟨a ++ b⟩ := by
 apply ByteArray.ext
 rw [ByteArray.data_append]
theorem letter_cut (r : Nat) (h : r < 3) : (⟨#[97, 98, 99]⟩ : ByteArray).extract r (r + 1) = ⟨#[UInt8.ofNat (97 + r)]⟩ := by
 match r, h with
 | 0, _ => decide
 | 1, _ => decide
 | 2, _ => decide
theorem krText_l0 (m : Nat) (hm : 2 ≤ m) (hm3 : m ≤ 3) (l : Nat) (hl : l ≤ 60) : ∀ (d i n : Nat) (acc : List UInt8), i + d = l → acc.length = i → n < 4611686018427387904 → Ev (fun k => spec_krText.l0 k (n : Int) (l : Int) (m : Int) (⟨acc.toArray⟩ : ByteArray) (i : Int)) ((⟨(digs m d n ++ acc).toArray⟩ : ByteArray))
 | 0, i, n, acc, hd, ha, hn => by
  refine Ev.succ ?_
  simp only [spec_krText.l0]
  exact Ev.neg (by omega) (Ev.pure (by simp [digs]))
 | d + 1, i, n, acc, hd, ha, hn => by
  have h2 : n / m ≤ n := Nat.div_le_self _ _
  have hr : n % m < m := Nat.mod_lt _ (by omega)
  have ih := krText_l0 m hm hm3 l hl d (i + 1) (n / m) (UInt8.ofNat (97 + n % m) :: acc) (by omega) (by simp; omega) (by omega)
  have e1 : Int.tmod (n : Int) (m : Int) = ((n % m : Nat) : Int) := (Int.ofNat_tmod n m).symm
  have e2 : Aside0 (wrap64 (Int.tdiv (n : Int) (m : Int)) = ((n / m : Nat) : Int)) := ⟨by
   rw [← Int.ofNat_tdiv]; generalize n / m = q at h2 ⊢; exact w64 (by omega) (by omega)⟩
  have e3 : Aside0 (wrap64 (((n % m : Nat) : Int) + 1) = ((n % m + 1 : Nat) : Int)) := ⟨by rw [w64 (by omega) (by omega)]; omega⟩
  have e4 : (⟨#[97, 98, 99]⟩ : ByteArray).extract (n % m) (n % m + 1) = ⟨#[UInt8.ofNat (97 + n % m)]⟩ := letter_cut _ (by omega)
  have e5 : (⟨#[UInt8.ofNat (97 + n % m)]⟩ : ByteArray) ++ (⟨acc.toArray⟩ : ByteArray) = ⟨(UInt8.ofNat (97 + n % m) :: acc).toArray⟩ := by rw [ba_append]; simp
  refine Ev.succ ?_
  simp only [spec_krText.l0, e1, e2.out, e3.out, Int.toNat_natCast, e4, e5, w1 (show 0 ≤ (i : Int) by omega) (show (i : Int) < 9223372036854775807 by omega)]
  refine Ev.pos (by omega) (Ev.neg (by omega) (Ev.pos (by omega) (Ev.pos (by omega) (Ev.pos (by omega) (Ev.pos ?_ ?_)))))
  ·simp [ByteArray.size]; omega
  ·rw [digs, List.append_assoc]; exact ih
theorem krText_ev (n l m : Nat) (hm : 2 ≤ m) (hm3 : m ≤ 3) (hl : l ≤ 60) (hn : n < 4611686018427387904) : Ev (fun k => spec_krText.f k (n : Int) (l : Int) (m : Int)) (⟨(digs m l n).toArray⟩ : ByteArray) := by
 have h := krText_l0 m hm hm3 l hl l 0 n [] (by omega) rfl hn
 simpa [spec_krText.f] using h
abbrev ch (s : ByteArray) : List UInt8 := s.data.toList
theorem ch_length (s : ByteArray) : (ch s).length = s.size := Array.length_toList
theorem ch_extract (s : ByteArray) (a b : Nat) : ch (s.extract a b) = ((ch s).drop a).take (b - a) := by
 simp [ch, ByteArray.data_extract, Array.toList_extract, List.extract_eq_take_drop]
theorem begins_test (a w : ByteArray) (h : w.size ≤ a.size) : ((a.extract 0 w.size).toList == w.toList) = (ch w).isPrefixOf (ch a) := by
 rw [ByteArray.toList_eq, ByteArray.toList_eq]
 change (ch (a.extract 0 w.size) == ch w) = _
 rw [ch_extract, List.drop_zero, Nat.sub_zero, ← ch_length w, Bool.eq_iff_iff, beq_iff_eq, List.isPrefixOf_iff_prefix, List.prefix_iff_eq_take]
 exact eq_comm
theorem prefix_long (a w : ByteArray) (h : ¬ w.size ≤ a.size) : (ch w).isPrefixOf (ch a) = false := by
 rw [Bool.eq_false_iff]
 intro hp
 have := (List.isPrefixOf_iff_prefix.1 hp).length_le
 rw [ch_length, ch_length] at this
 exact h this
def numsOf (l : List UInt8) : List Int := l.map fun c => (c.toNat : Int)
theorem strOfNums_nums (l : List UInt8) : strOfNums (numsOf l) = ⟨l.toArray⟩ := by
 apply ByteArray.ext
 simp [strOfNums, numsOf, Function.comp_def]
theorem abc_at (r : Nat) (h : r < 3) : bt (⟨#[97, 98, 99]⟩ : ByteArray) (r : Int) = ((UInt8.ofNat (97 + r)).toNat : Int) := by
 match r, h with
 | 0, _ => decide
 | 1, _ => decide
 | 2, _ => decide
theorem wordAt_l0 (m : Nat) (hm : 2 ≤ m) (hm3 : m ≤ 3) : ∀ (d n : Nat) (acc : List UInt8), d ≤ 1048576 → n < 4611686018427387904 → Ev (fun k => impl_wordAt.l0 k (n : Int) (m : Int) (List.replicate d 0 ++ numsOf acc) ((d : Int) - 1)) (⟨(digs m d n ++ acc).toArray⟩ : ByteArray)
 | 0, n, acc, hd, hn => by
  refine Ev.succ ?_
  simp only [impl_wordAt.l0]
  exact Ev.neg (by omega) (Ev.pure (by simp [strOfNums_nums, digs]))
 | d + 1, n, acc, hd, hn => by
  have h2 : n / m ≤ n := Nat.div_le_self _ _
  have hr : n % m < m := Nat.mod_lt _ (by omega)
  have ih := wordAt_l0 m hm hm3 d (n / m) (UInt8.ofNat (97 + n % m) :: acc) (by omega) (by omega)
  have e1 : Int.tmod (n : Int) (m : Int) = ((n % m : Nat) : Int) := (Int.ofNat_tmod n m).symm
  have e2 : Aside0 (wrap64 (Int.tdiv (n : Int) (m : Int)) = ((n / m : Nat) : Int)) := ⟨by
   rw [← Int.ofNat_tdiv]; generalize n / m = q at h2 ⊢; exact w64 (by omega) (by omega)⟩
  have e3 : Aside0 (wrap64 (((d + 1 : Nat) : Int) - 1 - 1) = (d : Int) - 1) := ⟨by rw [w64 (by omega) (by omega)]; omega⟩
  have e4 : (((d + 1 : Nat) : Int) - 1).toNat = d := by omega
  have e5 : (List.replicate (d + 1) (0 : Int) ++ numsOf acc).set d (((UInt8.ofNat (97 + n % m)).toNat : Int)) = List.replicate d 0 ++ numsOf (UInt8.ofNat (97 + n % m) :: acc) := by
   rw [List.set_append_left _ _ (by simp), List.replicate_succ', List.set_append_right _ _ (by simp)]
   simp [numsOf]
  refine Ev.succ ?_
  simp only [impl_wordAt.l0, e1, e2.out, e3.out, e4, abc_at _ (show n % m < 3 by omega), e5]
  refine Ev.pos (by omega) (Ev.neg (by omega) (Ev.pos (by omega) (Ev.pos (by omega) (Ev.pos (by omega) (Ev.pos (by simp; omega) ?_)))))
  rw [digs, List.append_assoc]; exact ih
theorem wordAt_ev (m : Nat) (hm : 2 ≤ m) (hm3 : m ≤ 3) (d n : Nat) (hd : d ≤ 1048576) (hn : n < 4611686018427387904) : Ev (fun k => impl_wordAt.f k (n : Int) (d : Int) (m : Int)) (⟨(digs m d n).toArray⟩ : ByteArray) := by
 have h := wordAt_l0 m hm hm3 d n [] hd hn
 have e : Aside0 (wrap64 ((d : Int) - 1) = (d : Int) - 1) := ⟨w64 (by omega) (by omega)⟩
 unfold impl_wordAt.f
 rw [e.out]
 refine Ev.pos (by omega) (Ev.pos (by omega) ?_)
 simpa [numsOf] using h
def wds (m : Nat) : List Nat → Nat → List ByteArray
 | [], _ => []
 | x :: L, A => ⟨(digs m x (A / m ^ (8 - x))).toArray⟩ :: wds m L (A + m ^ (8 - x))
theorem wds_len (m : Nat) : ∀ (L : List Nat) (A : Nat), (wds m L A).length = L.length
 | [], _ => rfl
 | x :: L, A => by rw [wds, List.length_cons, wds_len m L, List.length_cons]
theorem impl_fpc_l0 (m : Nat) (hm : 2 ≤ m ∧ m ≤ 3) (L : List Nat) (hL : L.length ≤ 12) (hb : ∀ x ∈ L, 1 ≤ x ∧ x ≤ 8) : ∀ (d i : Nat) (acc : List ByteArray), i + d = L.length → acc.length ≤ i → Ev (fun k => impl_FirstPrefixCode.l0 k (m : Int) acc ((kr m 8 (L.take i) : Nat) : Int) (intsOf L) (L.length : Int) (i : Int)) (acc ++ wds m (L.drop i) (kr m 8 (L.take i)), true)
 | 0, i, acc, hd, ha => by
  refine Ev.succ ?_
  simp only [impl_FirstPrefixCode.l0]
  exact Ev.neg (by omega) (Ev.pure (by rw [List.drop_of_length_le (by omega), wds, List.append_nil]))
 | d + 1, i, acc, hd, ha => by
  have h1 : i < L.length := by omega
  have hx := hb _ (List.getElem_mem h1)
  have hp := pow_small (n := 8 - L[i]) hm (by omega)
  have hk := kr_take hm (e := 8) (by omega) L hL i
  have hpe := power_ev m (8 - L[i]) (by omega) (by omega) (by omega)
  have hdv : kr m 8 (L.take i) / m ^ (8 - L[i]) ≤ kr m 8 (L.take i) := Nat.div_le_self _ _
  have hwa := wordAt_ev m hm.1 hm.2 L[i] (kr m 8 (L.take i) / m ^ (8 - L[i])) (by omega) (by omega)
  have ih := impl_fpc_l0 m hm L hL hb d (i + 1) (acc ++ [⟨(digs m L[i] (kr m 8 (L.take i) / m ^ (8 - L[i]))).toArray⟩]) (by omega) (by rw [List.length_append]; simp; omega)
  rw [List.take_succ_eq_append_getElem h1, kr_snoc, List.append_assoc] at ih
  rw [List.drop_eq_getElem_cons h1, wds]
  have e1 : Aside0 (wrap64 (8 - ((L[i] : Nat) : Int)) = ((8 - L[i] : Nat) : Int)) := ⟨by rw [w64 (by omega) (by omega)]; omega⟩
  have e2 : Aside0 (wrap64 (((kr m 8 (L.take i) : Nat) : Int) + ((m ^ (8 - L[i]) : Nat) : Int)) = ((kr m 8 (L.take i) + m ^ (8 - L[i]) : Nat) : Int)) := ⟨by rw [w64 (by omega) (by omega)]; omega⟩
  have e3 : Aside0 (wrap64 (Int.tdiv ((kr m 8 (L.take i) : Nat) : Int) ((m ^ (8 - L[i]) : Nat) : Int)) = ((kr m 8 (L.take i) / m ^ (8 - L[i]) : Nat) : Int)) := ⟨by rw [← Int.ofNat_tdiv]; generalize kr m 8 (L.take i) / m ^ (8 - L[i]) = q at hdv; exact w64 (by omega) (by omega)⟩
  refine Ev.succ ?_
  simp only [impl_FirstPrefixCode.l0, ints_at L i h1, e1.out, w1 (show 0 ≤ (i : Int) by omega) (show (i : Int) < 9223372036854775807 by omega)]
  refine Ev.pos (by omega) (Ev.pos (by omega) (Ev.pos (by rw [ints_len]; omega) (Ev.bind hpe ?_)))
  simp only [e3.out]
  refine Ev.neg (by omega) (Ev.bind hwa (Ev.pos (by omega) (Ev.bind hpe ?_)))
  simp only [e2.out]
  exact ih
theorem isSorted_l0 (L : List Nat) (hL : L.length ≤ 12) (hu : L.Pairwise fun x y => x ≤ y) : ∀ (i : Nat), i < L.length → Ev (fun k => slices_IsSorted_int_int.l0 k (intsOf L) (i : Int)) true
 | 0, _ => by
  refine Ev.succ ?_
  simp only [slices_IsSorted_int_int.l0]
  exact Ev.neg (by omega) (Ev.now _)
 | i + 1, h1 => by
  have ih := isSorted_l0 L hL hu i (by omega)
  have hle : L[i] ≤ L[i + 1] := List.pairwise_iff_getElem.1 hu i (i + 1) (by omega) h1 (by omega)
  have e1 : Aside0 (wrap64 (((i + 1 : Nat) : Int) - 1) = (i : Int)) := ⟨by rw [w64 (by omega) (by omega)]; omega⟩
  have hless : cmp_Less_int.f ((L[i + 1] : Nat) : Int) ((L[i] : Nat) : Int) = some false := by
   unfold cmp_Less_int.f cmp_isNaN_int.f
   simp
   omega
  refine Ev.succ ?_
  simp only [slices_IsSorted_int_int.l0, ints_at L (i + 1) h1, e1.out, ints_at L i (show i < L.length by omega)]
  exact Ev.pos (by omega) (Ev.pos (by omega) (Ev.pos (by rw [ints_len]; omega) (Ev.pos (by omega) (Ev.pos (by rw [ints_len]; omega) (Ev.known (fun _ => hless) (Ev.neg (by simp) ih))))))
theorem impl_fpc (m : Nat) (hm : 2 ≤ m ∧ m ≤ 3) (L : List Nat) (h1 : 1 ≤ L.length) (hL : L.length ≤ 12) (hb : ∀ x ∈ L, 1 ≤ x ∧ x ≤ 8) (hu : L.Pairwise fun x y => x ≤ y) : Ev (fun k => impl_FirstPrefixCode.f k (intsOf L) (m : Int)) (if kr m 8 L ≤ m ^ 8 then (wds m L 0, true) else ([], false)) := by
 have hq := pow_small (n := 8) hm (by omega)
 unfold impl_FirstPrefixCode.f impl_areLengths.f impl_canBePrefix.f
 have hany : ((intsOf L).any fun x => !decide (1 ≤ x ∧ x ≤ 8)) = false := by
  rw [List.any_eq_false]
  intro x hx
  obtain ⟨y, hy, rfl⟩ := List.mem_map.1 hx
  have := hb y hy
  rw [decide_eq_true (by omega)]
  simp
 have hc := impl_areLengths__1_contains (intsOf L) (by rw [ints_len]; omega)
 rw [hany] at hc
 have hl := isSorted_l0 L hL hu (L.length - 1) (by omega)
 have e1 : Aside0 (wrap64 ((L.length : Int) - 1) = ((L.length - 1 : Nat) : Int)) := ⟨by rw [w64 (by omega) (by omega)]; omega⟩
 have hs : Ev (fun k => slices_IsSorted_int_int.f k (intsOf L)) true := by
  unfold slices_IsSorted_int_int.f
  rw [ints_len, e1.out]
  exact hl
 have hw := impl_fpc_l0 m hm L hL hb L.length 0 [] (by omega) (by simp)
 refine Ev.known (fun _ => by rw [areLetters_eq]) (Ev.pos (decide_eq_true (by omega)) (Ev.bind (a := true) (Ev.pos (by rw [ints_len]; omega) (Ev.bind hs (Ev.pos rfl (Ev.bind hc (Ev.now _))))) (Ev.pos rfl (Ev.bind (Ev.bind (impl_parts_ev m hm L hL hb) (Ev.bind (power_ev m 8 (by omega) (by omega) (by omega)) (Ev.now _))) (Ev.succ ?_)))))
 simp only [impl_FirstPrefixCode.j0]
 by_cases hk : kr m 8 L ≤ m ^ 8
 ·rw [if_pos hk]
  refine Ev.neg (by rw [decide_eq_true (show ((kr m 8 L : Nat) : Int) ≤ ((m ^ 8 : Nat) : Int) by omega)]; simp) ?_
  rw [ints_len]
  simpa [kr] using hw
 ·rw [if_neg hk]
  exact Ev.pos (by rw [decide_eq_false (show ¬ ((kr m 8 L : Nat) : Int) ≤ ((m ^ 8 : Nat) : Int) by omega)]; rfl) (Ev.now _)
theorem spec_fpc_l0 (m : Nat) (hm : 2 ≤ m ∧ m ≤ 3) (L : List Nat) (hL : L.length ≤ 12) (hb : ∀ x ∈ L, 1 ≤ x ∧ x ≤ 8) (hu : L.Pairwise fun x y => x ≤ y) : ∀ (d i at_ last : Nat) (acc : List ByteArray), i + d = L.length → acc.length ≤ i → last ≤ 8 → at_ * m ^ (8 - last) = kr m 8 (L.take i) → (∀ x ∈ L.drop i, last ≤ x) → Ev (fun k => spec_FirstPrefixCode.l0 k (m : Int) acc (at_ : Int) (last : Int) (intsOf L) (L.length : Int) (i : Int)) (acc ++ wds m (L.drop i) (kr m 8 (L.take i)), true)
 | 0, i, at_, last, acc, hd, ha, hl8, hat, hla => by
  refine Ev.succ ?_
  simp only [spec_FirstPrefixCode.l0]
  exact Ev.neg (by omega) (Ev.pure (by rw [List.drop_of_length_le (by omega), wds, List.append_nil]))
 | d + 1, i, at_, last, acc, hd, ha, hl8, hat, hla => by
  have h1 : i < L.length := by omega
  have hx := hb _ (List.getElem_mem h1)
  have hlx : last ≤ L[i] := hla _ (by rw [List.drop_eq_getElem_cons h1]; exact List.mem_cons_self)
  have hp := pow_small (n := 8 - L[i]) hm (by omega)
  have hp2 := pow_small (n := L[i] - last) hm (by omega)
  have hk := kr_take hm (e := 8) (by omega) L hL i
  have hpe := krPower_ev m (L[i] - last) (by omega) (by omega) (by omega)
  have hmul : (at_ * m ^ (L[i] - last)) * m ^ (8 - L[i]) = kr m 8 (L.take i) := by
   rw [← hat, Nat.mul_assoc, ← Nat.pow_add, show L[i] - last + (8 - L[i]) = 8 - last by omega]
  have hle : at_ * m ^ (L[i] - last) ≤ kr m 8 (L.take i) := by rw [← hmul]; exact Nat.le_mul_of_pos_right _ (by omega)
  have hdiv : kr m 8 (L.take i) / m ^ (8 - L[i]) = at_ * m ^ (L[i] - last) := by rw [← hmul]; exact Nat.mul_div_cancel _ (by omega)
  have hkt := krText_ev (at_ * m ^ (L[i] - last)) L[i] m hm.1 hm.2 (by omega) (by omega)
  have hmul2 : (at_ * m ^ (L[i] - last) + 1) * m ^ (8 - L[i]) = kr m 8 (L.take (i + 1)) := by
   rw [List.take_succ_eq_append_getElem h1, kr_snoc, Nat.add_mul, hmul]; omega
  have ih := spec_fpc_l0 m hm L hL hb hu d (i + 1) (at_ * m ^ (L[i] - last) + 1) L[i] (acc ++ [⟨(digs m L[i] (at_ * m ^ (L[i] - last))).toArray⟩]) (by omega) (by rw [List.length_append]; simp; omega) (by omega) hmul2 (fun y hy => by
   rw [List.drop_eq_getElem_cons h1] at hla
   have h2 : (L[i] :: L.drop (i + 1)).Pairwise fun x y => x ≤ y := by rw [← List.drop_eq_getElem_cons h1]; exact hu.sublist (List.drop_sublist _ _)
   exact (List.pairwise_cons.1 h2).1 y hy)
  rw [List.take_succ_eq_append_getElem h1, kr_snoc, List.append_assoc] at ih
  rw [List.drop_eq_getElem_cons h1, wds, hdiv]
  have e1 : Aside0 (wrap64 (((L[i] : Nat) : Int) - (last : Int)) = ((L[i] - last : Nat) : Int)) := ⟨by rw [w64 (by omega) (by omega)]; omega⟩
  have e2 : Aside0 (wrap64 ((at_ : Int) * ((m ^ (L[i] - last) : Nat) : Int)) = ((at_ * m ^ (L[i] - last) : Nat) : Int)) := ⟨by rw [w64 (by rw [← Int.natCast_mul]; omega) (by rw [← Int.natCast_mul]; omega), Int.natCast_mul]⟩
  have e3 : Aside0 (wrap64 (((at_ * m ^ (L[i] - last) : Nat) : Int) + 1) = ((at_ * m ^ (L[i] - last) + 1 : Nat) : Int)) := ⟨by rw [w64 (by omega) (by omega)]; omega⟩
  refine Ev.succ ?_
  simp only [spec_FirstPrefixCode.l0, ints_at L i h1, e1.out, w1 (show 0 ≤ (i : Int) by omega) (show (i : Int) < 9223372036854775807 by omega)]
  refine Ev.pos (by omega) (Ev.pos (by omega) (Ev.pos (by rw [ints_len]; omega) (Ev.bind hpe ?_)))
  simp only [e2.out, e3.out]
  exact Ev.bind hkt (Ev.pos (by omega) ih)
theorem krList_l0 (L : List Nat) (hL : L.length ≤ 12) (hu : L.Pairwise fun x y => x ≤ y) : ∀ (d i : Nat), i + 1 + d = L.length → Ev (fun k => spec_krList.l0 k (intsOf L) ((i + 1 : Nat) : Int)) true
 | 0, i, hd => by
  refine Ev.succ ?_
  simp only [spec_krList.l0]
  exact Ev.neg (by rw [ints_len]; omega) (Ev.now _)
 | d + 1, i, hd => by
  have h1 : i + 1 < L.length := by omega
  have ih := krList_l0 L hL hu d (i + 1) (by omega)
  have hle : L[i] ≤ L[i + 1] := List.pairwise_iff_getElem.1 hu i (i + 1) (by omega) h1 (by omega)
  have e1 : Aside0 (wrap64 (((i + 1 : Nat) : Int) - 1) = (i : Int)) := ⟨by rw [w64 (by omega) (by omega)]; omega⟩
  refine Ev.succ ?_
  simp only [spec_krList.l0, ints_at L (i + 1) h1, e1.out, ints_at L i (show i < L.length by omega), w1 (show 0 ≤ ((i + 1 : Nat) : Int) by omega) (show ((i + 1 : Nat) : Int) < 9223372036854775807 by omega)]
  exact Ev.pos (by rw [ints_len]; omega) (Ev.pos (by omega) (Ev.pos (by omega) (Ev.pos (by rw [ints_len]; omega) (Ev.neg (by omega) ih))))
theorem spec_fpc (m : Nat) (hm : 2 ≤ m ∧ m ≤ 3) (L : List Nat) (h1 : 1 ≤ L.length) (hL : L.length ≤ 12) (hb : ∀ x ∈ L, 1 ≤ x ∧ x ≤ 8) (hu : L.Pairwise fun x y => x ≤ y) (hk : kr m 8 L ≤ m ^ 8) : Ev (fun k => spec_FirstPrefixCode.f k (intsOf L) (m : Int)) (wds m L 0, true) := by
 have hq := pow_small (n := 8) hm (by omega)
 unfold spec_FirstPrefixCode.f spec_krList.f spec_krFits.f spec_krLetters.f
 have hall : ((intsOf L).all fun x => decide (1 ≤ x ∧ x ≤ 8)) = true := by
  rw [List.all_eq_true]
  intro x hx
  obtain ⟨y, hy, rfl⟩ := List.mem_map.1 hx
  have := hb y hy
  exact decide_eq_true (by omega)
 have hs := spec_all (intsOf L) 1 8 (by rw [ints_len]; omega)
 rw [hall] at hs
 have hl := krList_l0 L hL hu (L.length - 1) 0 (by omega)
 have hw := spec_fpc_l0 m hm L hL hb hu L.length 0 0 0 [] (by omega) (by simp) (by omega) (by simp [kr]) (fun _ _ => Nat.zero_le _)
 refine Ev.bind (a := true) (Ev.known (fun _ => by rw [spec_in, Option.bind_some]) (Ev.pos (decide_eq_true (by omega)) (Ev.neg (by rw [ints_len]; omega) (Ev.bind hs (Ev.succ ?_))))) (Ev.pos rfl (Ev.bind (a := true) (Ev.bind (spec_krShares_ev m hm L hL hb) (Ev.bind (krPower_ev m 8 (by omega) (by omega) (by omega)) (Ev.pure (decide_eq_true (by omega))))) (Ev.succ ?_)))
 ·simp only [spec_krList.j0]
  exact Ev.neg (by simp) hl
 ·simp only [spec_FirstPrefixCode.j0]
  refine Ev.neg (by simp) ?_
  rw [ints_len]
  simpa [kr] using hw
theorem mx_more (a b : Int) : decide (mx a b > 8) = (decide (a > 8) || decide (b > 8)) := by
 unfold mx
 by_cases h1 : a > 8 <;> by_cases h2 : b > 8 <;> simp [h1, h2] <;> omega
theorem max_l0 (l : List Int) (hl : l.length ≤ 1048576) : ∀ (d i : Nat) (x3 : Int), i + d = l.length → ∃ r, Ev (fun k => slices_Max_int_int.l0 k l x3 (i : Int)) r ∧ decide (r > 8) = (decide (x3 > 8) || (l.drop i).any fun x => decide (x > 8))
 | 0, i, x3, hd => ⟨x3, Ev.succ (by simp only [slices_Max_int_int.l0]; exact Ev.neg (by omega) (Ev.now _)), by rw [List.drop_of_length_le (by omega)]; simp⟩
 | d + 1, i, x3, hd => by
  have h1 : i < l.length := by omega
  obtain ⟨r, h, hr⟩ := max_l0 l hl d (i + 1) (mx x3 l[i]) (by omega)
  refine ⟨r, Ev.succ ?_, by rw [hr, mx_more, List.drop_eq_getElem_cons h1, List.any_cons, Bool.or_assoc]⟩
  simp only [slices_Max_int_int.l0, rd_nat l i h1, w1 (show 0 ≤ (i : Int) by omega) (show (i : Int) < 9223372036854775807 by omega)]
  exact Ev.pos (by omega) (Ev.pos (by omega) h)
theorem max_ev (l : List Int) (hl : l.length ≤ 1048576) (h0 : 0 < l.length) : ∃ r, Ev (fun k => slices_Max_int_int.f k l) r ∧ decide (r > 8) = l.any fun x => decide (x > 8) := by
 obtain ⟨r, h, hr⟩ := max_l0 l hl (l.length - 1) 1 l[0] (by omega)
 refine ⟨r, ?_, ?_⟩
 ·unfold slices_Max_int_int.f
  have e : rd l 0 = l[0] := rd_nat l 0 h0
  rw [e]
  exact Ev.neg (by omega) (Ev.pos (by omega) h)
 ·rw [hr]
  have : l.any (fun x => decide (x > 8)) = (l.drop 0).any (fun x => decide (x > 8)) := by simp
  rw [this, List.drop_eq_getElem_cons h0, List.any_cons]
theorem fill_append (W : List ByteArray) : ∀ (a b : List Nat) (k : Nat) (out : List ByteArray), impl_WordsFor.fill W (a ++ b) k out = impl_WordsFor.fill W b (k + a.length) (impl_WordsFor.fill W a k out)
 | [], b, k, out => by simp [impl_WordsFor.fill]
 | x :: a, b, k, out => by
  rw [List.cons_append, impl_WordsFor.fill, fill_append W a b (k + 1), impl_WordsFor.fill, List.length_cons, show k + 1 + a.length = k + (a.length + 1) by omega]
theorem fill_length (W : List ByteArray) : ∀ (a : List Nat) (k : Nat) (out : List ByteArray), (impl_WordsFor.fill W a k out).length = out.length
 | [], k, out => rfl
 | x :: a, k, out => by rw [impl_WordsFor.fill, fill_length W a, List.length_set]
def ofLen (L : List Nat) (s i d : Nat) : List Nat := (List.range' i d).filter fun j => decide (L.getD j 0 = s)
def byLen (L : List Nat) (s e : Nat) : List Nat := (List.range' s e).flatMap fun s => ofLen L s 0 L.length
theorem wf_l2 (L : List Nat) (hL : L.length ≤ 12) (W : List ByteArray) (hW : W.length = L.length) (s : Nat) (hs : s ≤ 8) (r : List ByteArray × Bool) : ∀ (d i at_ : Nat) (out : List ByteArray), i + d = L.length → out.length = L.length → at_ + (ofLen L s i d).length ≤ L.length →
  Ev (fun k => spec_WordsFor.l1 k (intsOf L) W (impl_WordsFor.fill W (ofLen L s i d) at_ out) ((at_ + (ofLen L s i d).length : Nat) : Int) ((s + 1 : Nat) : Int)) r → Ev (fun k => spec_WordsFor.l2 k (intsOf L) W out (at_ : Int) (s : Int) (intsOf L) (L.length : Int) (i : Int)) r
 | 0, i, at_, out, hd, ho, ha, next => by
  have e1 : Aside0 (wrap64 ((s : Int) + 1) = ((s + 1 : Nat) : Int)) := ⟨by rw [w64 (by omega) (by omega)]; omega⟩
  refine Ev.succ ?_
  simp only [spec_WordsFor.l2, e1.out]
  exact Ev.neg (by omega) (by simpa [ofLen, impl_WordsFor.fill] using next)
 | d + 1, i, at_, out, hd, ho, ha, next => by
  have h1 : i < L.length := by omega
  have hcons : List.range' i (d + 1) = i :: List.range' (i + 1) d := List.range'_succ ..
  have hg : L.getD i 0 = L[i] := by simp [List.getD_eq_getElem?_getD, h1]
  by_cases hx : L[i] = s
  ·have hof : ofLen L s i (d + 1) = i :: ofLen L s (i + 1) d := by
    unfold ofLen
    rw [hcons, List.filter_cons_of_pos (by rw [hg]; exact decide_eq_true hx)]
   rw [hof, List.length_cons] at ha next
   rw [impl_WordsFor.fill] at next
   have hat : at_ < W.length := by omega
   have hwg : W.getD at_ ByteArray.empty = W[at_] := by simp [List.getD_eq_getElem?_getD, hat]
   rw [hwg, show at_ + ((ofLen L s (i + 1) d).length + 1) = at_ + 1 + (ofLen L s (i + 1) d).length by omega] at next
   have ih := wf_l2 L hL W hW s hs r d (i + 1) (at_ + 1) (out.set i W[at_]) (by omega) (by rw [List.length_set]; exact ho) (by omega) next
   refine Ev.succ ?_
   simp only [spec_WordsFor.l2, ints_at L i h1, rdOf_nat W at_ hat, Int.toNat_natCast, w1 (show 0 ≤ (i : Int) by omega) (show (i : Int) < 9223372036854775807 by omega), w1 (show 0 ≤ (at_ : Int) by omega) (show (at_ : Int) < 9223372036854775807 by omega)]
   exact Ev.pos (by omega) (Ev.pos (by omega) (Ev.pos (by rw [ints_len]; omega) (Ev.pos (by omega) (Ev.pos (by omega) (Ev.pos (by omega) (Ev.pos (by omega) ih))))))
  ·have hof : ofLen L s i (d + 1) = ofLen L s (i + 1) d := by
    unfold ofLen
    rw [hcons, List.filter_cons_of_neg (by rw [hg]; simpa using hx)]
   rw [hof] at ha next
   have ih := wf_l2 L hL W hW s hs r d (i + 1) at_ out (by omega) ho ha next
   refine Ev.succ ?_
   simp only [spec_WordsFor.l2, ints_at L i h1, w1 (show 0 ≤ (i : Int) by omega) (show (i : Int) < 9223372036854775807 by omega)]
   exact Ev.pos (by omega) (Ev.pos (by omega) (Ev.pos (by rw [ints_len]; omega) (Ev.neg (by omega) ih)))
theorem wf_l1 (L : List Nat) (hL : L.length ≤ 12) (W : List ByteArray) (hW : W.length = L.length) : ∀ (e s at_ : Nat) (out : List ByteArray), s + e = 9 → out.length = L.length → at_ + (byLen L s e).length ≤ L.length → Ev (fun k => spec_WordsFor.l1 k (intsOf L) W out (at_ : Int) (s : Int)) (impl_WordsFor.fill W (byLen L s e) at_ out, true)
 | 0, s, at_, out, he, ho, ha => by
  refine Ev.succ ?_
  simp only [spec_WordsFor.l1]
  exact Ev.neg (by omega) (Ev.pure (by simp [byLen, impl_WordsFor.fill]))
 | e + 1, s, at_, out, he, ho, ha => by
  have hb : byLen L s (e + 1) = ofLen L s 0 L.length ++ byLen L (s + 1) e := by
   unfold byLen
   rw [List.range'_succ, List.flatMap_cons]
  rw [hb, List.length_append] at ha
  rw [hb, fill_append]
  have ih := wf_l1 L hL W hW e (s + 1) (at_ + (ofLen L s 0 L.length).length) (impl_WordsFor.fill W (ofLen L s 0 L.length) at_ out) (by omega) (by rw [fill_length]; exact ho) (by omega)
  refine Ev.succ ?_
  simp only [spec_WordsFor.l1, ints_len]
  exact Ev.pos (by omega) (wf_l2 L hL W hW s (by omega) _ L.length 0 at_ out (by omega) ho (by omega) ih)
theorem ofLen_mem (L : List Nat) (s x : Nat) : x ∈ ofLen L s 0 L.length ↔ x < L.length ∧ L.getD x 0 = s := by
 unfold ofLen
 rw [List.mem_filter, List.mem_range'_1, decide_eq_true_eq]
 omega
theorem byLen_strict (L : List Nat) (s e : Nat) : (byLen L s e).Pairwise (fun x y => plLt (intsOf L) x y = true) := by
 have hget : ∀ x, (intsOf L).getD x 0 = ((L.getD x 0 : Nat) : Int) := fun x => by
  unfold intsOf
  simp only [List.getD_eq_getElem?_getD, List.getElem?_map]
  cases L[x]? <;> rfl
 unfold byLen
 rw [List.pairwise_flatMap]
 refine ⟨fun a _ => ?_, ?_⟩
 ·have h1 : (List.range' 0 L.length).Pairwise (fun x y => x < y) := List.pairwise_lt_range'
  refine (h1.sublist (List.filter_sublist)).imp_of_mem (R := fun x y => x < y) ?_
  intro x y hx hy hxy
  have hx' := (ofLen_mem L a x).1 hx
  have hy' := (ofLen_mem L a y).1 hy
  unfold plLt
  rw [decide_eq_true_eq, hget, hget, hx'.2, hy'.2]
  exact .inr ⟨rfl, hxy⟩
 ·have h1 : (List.range' s e).Pairwise (fun x y => x < y) := List.pairwise_lt_range'
  refine h1.imp ?_
  intro a b hab x hx y hy
  have hx' := (ofLen_mem L a x).1 hx
  have hy' := (ofLen_mem L b y).1 hy
  unfold plLt
  rw [decide_eq_true_eq, hget, hget, hx'.2, hy'.2]
  exact .inl (by omega)
theorem byLen_perm (L : List Nat) (hb : ∀ x ∈ L, 1 ≤ x ∧ x ≤ 8) : (byLen L 1 8).Perm (List.range L.length) := by
 have hnd : (byLen L 1 8).Nodup := (byLen_strict L 1 8).imp (fun {x y} h => by
  intro e
  subst e
  unfold plLt at h
  rw [decide_eq_true_eq] at h
  omega)
 refine (List.perm_ext_iff_of_nodup hnd List.nodup_range).2 (fun x => ?_)
 rw [List.mem_range]
 unfold byLen
 rw [List.mem_flatMap]
 constructor
 ·rintro ⟨s, _, hx⟩
  exact ((ofLen_mem L s x).1 hx).1
 ·intro hx
  have h1 : L.getD x 0 = L[x] := by simp [List.getD_eq_getElem?_getD, hx]
  have h2 := hb _ (List.getElem_mem hx)
  exact ⟨L.getD x 0, by rw [List.mem_range'_1, h1]; omega, (ofLen_mem L _ x).2 ⟨hx, rfl⟩⟩
theorem places_byLen (L : List Nat) (hb : ∀ x ∈ L, 1 ≤ x ∧ x ≤ 8) (h0 : 0 < L.length) : impl_WordsFor.places (intsOf L) (L.length - 1) = byLen L 1 8 := by
 have hget : ∀ x, (intsOf L).getD x 0 = ((L.getD x 0 : Nat) : Int) := fun x => by
  unfold intsOf
  simp only [List.getD_eq_getElem?_getD, List.getElem?_map]
  cases L[x]? <;> rfl
 obtain ⟨p1, p2⟩ := places_sorted (L.length - 1) (intsOf L) (fun x => by
  rw [hget, List.getD_eq_getElem?_getD]
  by_cases hx : x < L.length
  ·have := hb _ (List.getElem_mem hx)
   rw [List.getElem?_eq_getElem hx, Option.getD_some]
   omega
  ·rw [List.getElem?_eq_none (by omega)]
   simp)
 rw [show L.length - 1 + 1 = L.length by omega] at p2
 refine List.Perm.eq_of_pairwise (le := fun x y => plLt (intsOf L) y x = false) (fun x y _ _ h1 h2 => plLt_anti _ x y h2 h1) p1 ((byLen_strict L 1 8).imp ?_) (p2.trans (byLen_perm L hb).symm)
 intro x y h
 unfold plLt at *
 rw [decide_eq_true_eq] at h
 rw [decide_eq_false_iff_not]
 omega
theorem within_same (ws : List Int) (hws : ws.length ≤ 12) (m mo : Nat) (hm : 2 ≤ m ∧ m ≤ 3) (hmo : mo ≤ 11) : ∀ (d k : Nat), k + d = ws.length → ∀ (f L : Nat), 1 ≤ f → f ≤ mo → L ≤ 177147 →
  ∃ r : Int, Ev (fun q => spec_beWithin.f q (ws.drop k) (m : Int) (f : Int) (mo : Int) ((L * m ^ (11 - mo) : Nat) : Int)) r ∧ Ev (fun q => impl_BestWithin.least q ws (m : Int) (mo : Int) k (f : Int) (L : Int)) r
 | 0, k, hd, f, L, hf, hfm, hL => by
  refine ⟨0, Ev.succ ?_, Ev.succ ?_⟩
  ·simp only [spec_beWithin.f]
   exact Ev.pos (by rw [List.length_drop]; omega) (Ev.now _)
  ·simp only [impl_BestWithin.least]
   exact Ev.pos (by omega) (Ev.now _)
 | d + 1, k, hd, f, L, hf, hfm, hL => by
  have hk : k < ws.length := by omega
  have hP := pow_small (n := 11 - mo) hm (by omega)
  have hsh : L * m ^ (11 - mo) ≤ 177147 * 177147 := Nat.mul_le_mul hL hP.2
  have hdl : (ws.drop k).length = d + 1 := by rw [List.length_drop]; omega
  have hd1 : (ws.drop k).drop 1 = ws.drop (k + 1) := by rw [List.drop_drop]
  have hr0 : rd (ws.drop k) 0 = rd ws (k : Int) := by
   unfold rd; simp [List.getD_eq_getElem?_getD]
  have IH := within_same ws hws m mo hm hmo d (k + 1) (by omega)
  have inner : ∀ (e l : Nat) (best : Int), l + e = mo + 1 → 1 ≤ l → ∃ r : Int, Ev (fun q => spec_beWithin.l0 q (ws.drop k) (m : Int) (mo : Int) ((L * m ^ (11 - mo) : Nat) : Int) best (l : Int)) r ∧ Ev (fun q => impl_BestWithin.loop q ws (m : Int) (mo : Int) k (L : Int) best (l : Int)) r := by
   intro e
   induction e with
   | zero =>
    intro l best hl h1
    refine ⟨best, Ev.succ ?_, Ev.succ ?_⟩
    ·simp only [spec_beWithin.l0]; exact Ev.neg (by omega) (Ev.now _)
    ·simp only [impl_BestWithin.loop]; exact Ev.neg (by omega) (Ev.now _)
   | succ e ih =>
    intro l best hl h1
    have hlm : l ≤ mo := by omega
    have hp1 := pow_small (n := 11 - l) hm (by omega)
    have hp2 := pow_small (n := mo - l) hm (by omega)
    have hpp : m ^ (11 - l) = m ^ (mo - l) * m ^ (11 - mo) := by rw [← Nat.pow_add]; congr 1; omega
    have k1 := krPower_ev m (11 - l) (by omega) (by omega) (by omega)
    have k2 := power_ev m (mo - l) (by omega) (by omega) (by omega)
    have e1 : Aside0 (wrap64 (11 - (l : Int)) = ((11 - l : Nat) : Int)) := ⟨by rw [w64 (by omega) (by omega)]; omega⟩
    have e2 : Aside0 (wrap64 ((mo : Int) - (l : Int)) = ((mo - l : Nat) : Int)) := ⟨by rw [w64 (by omega) (by omega)]; omega⟩
    have e3 : Aside0 (wrap64 ((l : Int) + 1) = ((l + 1 : Nat) : Int)) := ⟨by rw [w64 (by omega) (by omega)]; omega⟩
    by_cases hlt : L < m ^ (mo - l)
    ·obtain ⟨r, r1, r2⟩ := ih (l + 1) best (by omega) (by omega)
     have hc : L * m ^ (11 - mo) < m ^ (11 - l) := by rw [hpp]; exact Nat.mul_lt_mul_of_pos_right hlt (by omega)
     have e4 : Aside0 (wrap64 (((L * m ^ (11 - mo) : Nat) : Int) - ((m ^ (11 - l) : Nat) : Int)) < 0) := ⟨by rw [w64 (by omega) (by omega)]; omega⟩
     refine ⟨r, Ev.succ ?_, Ev.succ ?_⟩
     ·simp only [spec_beWithin.l0, e1.out, e3.out]
      exact Ev.pos (by omega) (Ev.bind k1 (Ev.pos e4.out r1))
     ·simp only [impl_BestWithin.loop, e2.out, e3.out]
      exact Ev.pos (by omega) (Ev.bind k2 (Ev.pos (by omega) r2))
    ·have hc : m ^ (11 - l) ≤ L * m ^ (11 - mo) := by rw [hpp]; exact Nat.mul_le_mul_right _ (by omega)
     have hsub : L * m ^ (11 - mo) - m ^ (11 - l) = (L - m ^ (mo - l)) * m ^ (11 - mo) := by rw [hpp, Nat.sub_mul]
     obtain ⟨t, t1, t2⟩ := IH l (L - m ^ (mo - l)) h1 hlm (by omega)
     have e4 : Aside0 (wrap64 (((L * m ^ (11 - mo) : Nat) : Int) - ((m ^ (11 - l) : Nat) : Int)) = (((L - m ^ (mo - l)) * m ^ (11 - mo) : Nat) : Int)) := ⟨by rw [w64 (by omega) (by omega), ← hsub]; omega⟩
     have e5 : Aside0 (wrap64 ((L : Int) - ((m ^ (mo - l) : Nat) : Int)) = ((L - m ^ (mo - l) : Nat) : Int)) := ⟨by rw [w64 (by omega) (by omega)]; omega⟩
     have e6 : Aside0 ((l : Int) * rd ws (k : Int) = rd ws (k : Int) * (l : Int)) := ⟨Int.mul_comm _ _⟩
     obtain ⟨c, hc⟩ : ∃ c, c = wrap64 (t + wrap64 (rd ws (k : Int) * (l : Int))) := ⟨_, rfl⟩
     have HC := Aside0.mk hc
     clear hc
     obtain ⟨r, r1, r2⟩ := ih (l + 1) (if t ≥ 0 ∧ (best < 0 ∨ c < best) then c else best) (by omega) (by omega)
     refine ⟨r, Ev.succ ?_, Ev.succ ?_⟩
     ·simp only [spec_beWithin.l0, e1.out, e3.out]
      refine Ev.pos (by omega) (Ev.bind k1 ?_)
      simp only [e4.out, hd1, hr0, e6.out]
      refine Ev.neg (by omega) (Ev.pos (by omega) (Ev.bind t1 ?_))
      simp only [← HC.out]
      refine Ev.cases (fun ht => Ev.cases (fun hb => Ev.pos (by omega) ?_) (fun hb => Ev.pos (by omega) (Ev.cases (fun hcb => ?_) (fun hcb => ?_)))) (fun ht => ?_)
      ·rw [if_pos ⟨ht, .inl hb⟩] at r1; exact r1
      ·rw [if_pos ⟨ht, .inr hcb⟩] at r1; exact r1
      ·rw [if_neg (fun q => q.2.elim hb hcb)] at r1; exact r1
      ·rw [if_neg (fun q => ht q.1)] at r1; exact r1
     ·simp only [impl_BestWithin.loop, e2.out, e3.out]
      refine Ev.pos (by omega) (Ev.bind k2 ?_)
      simp only [e5.out]
      refine Ev.neg (by omega) (Ev.bind t2 ?_)
      simp only [← HC.out]
      refine Ev.cases (fun h => ?_) (fun h => ?_)
      ·rw [if_pos h] at r2; exact r2
      ·rw [if_neg h] at r2; exact r2
  obtain ⟨r, r1, r2⟩ := inner (mo + 1 - f) f (-1) (by omega) hf
  refine ⟨r, Ev.succ ?_, Ev.succ ?_⟩
  ·simp only [spec_beWithin.f]
   exact Ev.neg (by omega) r1
  ·simp only [impl_BestWithin.least]
   exact Ev.neg (by omega) (Ev.pos ⟨hk, hws, by omega, by omega, by omega, wf64 (by omega) (by omega)⟩ r2)
theorem reverse_l0 (l : List Int) (hl : l.length ≤ 1000) : ∀ (d i : Nat) (xs : List Int), 2 * i + d = l.length → xs.length = l.length → (∀ p, p < l.length → xs[p]? = if p < i ∨ l.length - i ≤ p then l[l.length - 1 - p]? else l[p]?) → Ev (fun k => slices_Reverse_int_int.l0 k xs (i : Int) ((l.length : Int) - 1 - (i : Int))) l.reverse := by
 intro d
 induction d using Nat.strongRecOn with
 | _ d ih =>
  intro i xs hd hx hp
  by_cases h2 : d ≤ 1
  ·refine Ev.succ ?_
   simp only [slices_Reverse_int_int.l0]
   refine Ev.neg (by omega) (Ev.pure ?_)
   apply List.ext_getElem?
   intro p
   by_cases hpl : p < l.length
   ·rw [hp p hpl, List.getElem?_reverse hpl]
    split
    ·rfl
    ·congr 1; omega
   ·rw [List.getElem?_eq_none (by omega), List.getElem?_eq_none (by rw [List.length_reverse]; omega)]
  ·have hi : i < xs.length := by omega
   have hj : l.length - 1 - i < xs.length := by omega
   have ej : (l.length : Int) - 1 - (i : Int) = ((l.length - 1 - i : Nat) : Int) := by omega
   have e1 : Aside0 (wrap64 ((i : Int) + 1) = ((i + 1 : Nat) : Int)) := ⟨by rw [w64 (by omega) (by omega)]; omega⟩
   have e2 : Aside0 (wrap64 (((l.length - 1 - i : Nat) : Int) - 1) = (l.length : Int) - 1 - ((i + 1 : Nat) : Int)) := ⟨by rw [w64 (by omega) (by omega)]; omega⟩
   have ih' := ih (d - 2) (by omega) (i + 1) ((xs.set i (xs[l.length - 1 - i])).set (l.length - 1 - i) (xs[i])) (by omega) (by simp [hx]) (fun p hpl => by
    rw [List.getElem?_set, List.getElem?_set]
    by_cases h3 : l.length - 1 - i = p
    ·rw [if_pos h3, if_pos (by simp; omega)]
     subst h3
     have := hp i (by omega)
     rw [if_neg (by omega), List.getElem?_eq_getElem hi] at this
     rw [this, if_pos (by omega)]
     congr 1; omega
    ·rw [if_neg h3]
     by_cases h4 : i = p
     ·subst h4
      rw [if_pos rfl, if_pos hi]
      have := hp (l.length - 1 - i) (by omega)
      rw [if_neg (by omega), List.getElem?_eq_getElem hj] at this
      rw [this, if_pos (by omega)]
     ·rw [if_neg h4, hp p hpl]
      by_cases h5 : p < i ∨ l.length - i ≤ p
      ·rw [if_pos h5, if_pos (by omega)]
      ·rw [if_neg h5, if_neg (by omega)])
   rw [ej]
   refine Ev.succ ?_
   simp only [slices_Reverse_int_int.l0, rd_nat xs i hi, rd_nat xs _ hj, e1.out, e2.out, Int.toNat_natCast]
   exact Ev.pos (by omega) (Ev.pos (by omega) (Ev.pos (by omega) (Ev.pos (by omega) (Ev.pos (by omega) ih'))))
theorem reverse_ev (l : List Int) (hl : l.length ≤ 1000) : Ev (fun k => slices_Reverse_int_int.f k l) l.reverse := by
 have h := reverse_l0 l hl l.length 0 l (by omega) rfl (fun p hp => by rw [if_neg (by omega)])
 have e : Aside0 (wrap64 ((l.length : Int) - 1) = (l.length : Int) - 1 - ((0 : Nat) : Int)) := ⟨by rw [w64 (by omega) (by omega)]; omega⟩
 unfold slices_Reverse_int_int.f
 rw [e.out]
 exact h
theorem down_l1 (m mo : Int) (L : List Int) (hL : L.length ≤ 12) (r : Int × Bool) (next : Ev (fun k => (spec_krPower.f k m 11).bind fun t160 => ((spec_beWithin.f k L.reverse m 1 mo t160).bind fun t161 => (if t161 < 0 then (some (0, false)) else (some (t161, true))))) r) :
  ∀ (d : Nat), d ≤ L.length → Ev (fun k => spec_BestWithin.l1 k m mo L (L.drop d).reverse ((d : Int) - 1)) r
 | 0, hd => by
  refine Ev.succ ?_
  simp only [spec_BestWithin.l1, List.drop_zero]
  exact Ev.neg (by omega) next
 | d + 1, hd => by
  have h1 : d < L.length := by omega
  have ih := down_l1 m mo L hL r next d (by omega)
  rw [List.drop_eq_getElem_cons h1, List.reverse_cons] at ih
  have e0 : ((d + 1 : Nat) : Int) - 1 = (d : Int) := by omega
  have e1 : Aside0 (wrap64 ((d : Int) - 1) = (d : Int) - 1) := ⟨w64 (by omega) (by omega)⟩
  rw [e0]
  refine Ev.succ ?_
  simp only [spec_BestWithin.l1, rd_nat L d h1, e1.out]
  exact Ev.pos (by omega) (Ev.pos (by omega) (Ev.pos (by omega) (Ev.pos (by rw [List.length_reverse, List.length_drop]; omega) ih)))
theorem up_l0 (m mo : Int) (l : List Int) (hl : l.length ≤ 12) (r : Int × Bool) (next : Ev (fun k => spec_BestWithin.l1 k m mo (sortI l) [] (wrap64 (((sortI l).length : Int) - 1))) r) :
  ∀ (d i : Nat), i + d = l.length → Ev (fun k => spec_BestWithin.l0 k m mo (sortI (l.take i)) l (l.length : Int) (i : Int)) r
 | 0, i, hd => by
  rw [List.take_of_length_le (by omega)]
  refine Ev.succ ?_
  simp only [spec_BestWithin.l0]
  exact Ev.neg (by omega) next
 | d + 1, i, hd => by
  have h1 : i < l.length := by omega
  have ih := up_l0 m mo l hl r next d (i + 1) (by omega)
  have hb := bePut_ev (sortI (l.take i)) l[i] (by rw [sortI_len, List.length_take]; omega) (sortI_up _)
  rw [sortI_put] at hb
  rw [List.take_succ_eq_append_getElem h1] at ih
  refine Ev.succ ?_
  simp only [spec_BestWithin.l0, rd_nat l i h1, w1 (show 0 ≤ (i : Int) by omega) (show (i : Int) < 9223372036854775807 by omega)]
  exact Ev.pos (by omega) (Ev.pos (by omega) (Ev.pos (by omega) (Ev.bind hb ih)))
theorem bw_same (l : List Int) (m mo : Int) (hl : l.length ≤ 1048576) : ∃ r, Ev (fun k => spec_BestWithin.f k l m mo) r ∧ Ev (fun k => impl_BestWithin.f k l m mo) r := by
 unfold spec_BestWithin.f impl_BestWithin.f
 have a1 := beAsked_ev l m hl
 have a2 := impl_areWeights_ev l hl
 have a3 := areLetters_eq m
 have a4 : spec_l1In.f mo 1 11 = some (decide (1 ≤ mo ∧ mo ≤ 11)) := spec_in _ _ _
 have a5 : impl_in.f mo 1 11 = some (decide (1 ≤ mo ∧ mo ≤ 11)) := impl_in_eq _ _ _
 generalize hB : decide (2 ≤ m ∧ m ≤ 3) = B at a1 a3
 generalize hA : (decide (1 ≤ (l.length : Int) ∧ (l.length : Int) ≤ 12) && l.all fun x => decide (1 ≤ x ∧ x ≤ 100)) = A at a1 a2
 generalize hC : decide (1 ≤ mo ∧ mo ≤ 11) = C at a4 a5
 have bad : ∀ g : Nat → Option (Int × Bool), (∀ k, g (k + 1) = spec_BestWithin.j0 (k + 1) l m mo true) → Ev g (0, false) := fun g hg => Ev.succ (by
  simp only [hg, spec_BestWithin.j0]
  exact Ev.pos trivial (Ev.now _))
 cases A with
 | false => exact ⟨(0, false), Ev.bind a1 (Ev.neg (by simp) (bad _ fun _ => rfl)), Ev.bind a2 (Ev.neg (by simp) (Ev.now _))⟩
 | true =>
  cases B with
  | false => exact ⟨(0, false), Ev.bind a1 (Ev.neg (by simp) (bad _ fun _ => rfl)), Ev.bind a2 (Ev.pos rfl (Ev.known (fun _ => a3) (Ev.neg (by simp) (Ev.now _))))⟩
  | true =>
   cases C with
   | false => exact ⟨(0, false), Ev.bind a1 (Ev.pos rfl (Ev.known (fun _ => a4) (bad _ fun _ => rfl))), Ev.bind a2 (Ev.pos rfl (Ev.known (fun _ => a3) (Ev.pos rfl (Ev.known (fun _ => a5) (Ev.neg (by simp) (Ev.now _))))))⟩
   | true =>
    have hn : 1 ≤ l.length ∧ l.length ≤ 12 := by simp only [Bool.and_eq_true, decide_eq_true_eq] at hA; omega
    have hm0 : 2 ≤ m ∧ m ≤ 3 := by simpa using hB
    have hmo0 : 1 ≤ mo ∧ mo ≤ 11 := by simpa using hC
    obtain ⟨mn, rfl⟩ : ∃ n : Nat, m = (n : Int) := ⟨m.toNat, by omega⟩
    obtain ⟨on, rfl⟩ : ∃ n : Nat, mo = (n : Int) := ⟨mo.toNat, by omega⟩
    have hm : 2 ≤ mn ∧ mn ≤ 3 := by omega
    have hp1 := pow_small (n := on) hm (by omega)
    have hp2 := pow_small (n := 11) hm (by omega)
    have hlen := sortI_len l
    have hrl : (sortI l).reverse.length = l.length := by rw [List.length_reverse, hlen]
    obtain ⟨r, r1, r2⟩ := within_same (sortI l).reverse (by omega) mn on hm (by omega) l.length 0 (by omega) 1 (mn ^ on) (by omega) (by omega) hp1.2
    rw [List.drop_zero, ← Nat.pow_add, show on + (11 - on) = 11 by omega] at r1
    have k1 := krPower_ev mn 11 (by omega) (by omega) (by omega)
    have k2 := power_ev mn on (by omega) (by omega) (by omega)
    have kr := reverse_ev (sortI l) (by omega)
    have e1 : Aside0 (wrap64 (((sortI l).length : Int) - 1) = ((sortI l).length : Int) - 1) := ⟨w64 (by omega) (by omega)⟩
    refine ⟨(if r < 0 then 0 else r, decide (0 ≤ r)), Ev.bind a1 (Ev.pos rfl (Ev.known (fun _ => a4) (Ev.succ ?_))), Ev.bind a2 (Ev.pos rfl (Ev.known (fun _ => a3) (Ev.pos rfl (Ev.known (fun _ => a5) (Ev.pos rfl (Ev.pos (by omega) (Ev.bind kr (Ev.bind k2 (Ev.bind r2 (Ev.now _))))))))))⟩
    simp only [spec_BestWithin.j0]
    refine Ev.neg (by simp) ?_
    have h := up_l0 (mn : Int) (on : Int) l hn.2 (if r < 0 then 0 else r, decide (0 ≤ r)) (by
     rw [e1.out]
     have := down_l1 (mn : Int) (on : Int) (sortI l) (by omega) (if r < 0 then 0 else r, decide (0 ≤ r)) (Ev.bind k1 (Ev.bind r1 (by
      by_cases hr : r < 0
      ·simp only [if_pos hr]; rw [decide_eq_false (by omega)]; exact Ev.now _
      ·simp only [if_neg hr]; rw [decide_eq_true (by omega)]; exact Ev.now _))) (sortI l).length (Nat.le_refl _)
     rw [List.drop_of_length_le (Nat.le_refl _)] at this
     exact this) l.length 0 (by omega)
    rw [List.take_zero, sortI_nil] at h
    exact h
def Wi (m mo : Nat) : Nat → Nat → List Nat → Prop
 | _, _, [] => True
 | f, L, x :: t => f ≤ x ∧ x ≤ mo ∧ m ^ (mo - x) ≤ L ∧ Wi m mo x (L - m ^ (mo - x)) t
theorem Wi.mem {m mo : Nat} : ∀ (ls : List Nat) (f L : Nat), Wi m mo f L ls → (∀ x ∈ ls, f ≤ x ∧ x ≤ mo) ∧ ls.Pairwise (fun x y => x ≤ y) ∧ ks m mo ls ≤ L
 | [], _, _, _ => ⟨by simp, by simp, by simp [ks, sN]⟩
 | x :: t, f, L, h => by
  obtain ⟨h1, h2, h3, h4⟩ := h
  obtain ⟨g1, g2, g3⟩ := Wi.mem t _ _ h4
  refine ⟨fun y hy => ?_, List.pairwise_cons.2 ⟨fun y hy => (g1 y hy).1, g2⟩, by rw [ks_cons]; omega⟩
  rcases List.mem_cons.1 hy with rfl | hy
  ·exact ⟨h1, h2⟩
  ·have := g1 y hy; omega
theorem Wi.of {m mo : Nat} : ∀ (ls : List Nat) (f L : Nat), (∀ x ∈ ls, f ≤ x ∧ x ≤ mo) → ls.Pairwise (fun x y => x ≤ y) → ks m mo ls ≤ L → Wi m mo f L ls
 | [], _, _, _, _, _ => trivial
 | x :: t, f, L, h1, h2, h3 => by
  rw [ks_cons] at h3
  have p := List.pairwise_cons.1 h2
  have q := h1 x (by simp)
  exact ⟨q.1, q.2, by omega, Wi.of t x _ (fun y hy => ⟨p.1 y hy, (h1 y (by simp [hy])).2⟩) p.2 (by omega)⟩
def IsB (S : List Nat → Prop) (ws : List Int) (r : Int) : Prop := (∀ ls : List Nat, ls.length = ws.length → S ls → 0 ≤ r ∧ r ≤ dot ws ls) ∧ (0 ≤ r → ∃ ls : List Nat, ls.length = ws.length ∧ S ls ∧ dot ws ls = r)
def hdLt (l : Nat) : List Nat → Prop
 | [] => True
 | x :: _ => x < l
theorem isB_step {m mo f L l : Nat} {w : Int} {rest : List Int} {best t : Int} (hw : 0 ≤ w) (hr : ∀ x ∈ rest, 0 ≤ x) (hl : l ≤ mo) (hf : f ≤ l) (hL : m ^ (mo - l) ≤ L) (hb : IsB (fun ls => Wi m mo f L ls ∧ hdLt l ls) (w :: rest) best) (ht : IsB (Wi m mo l (L - m ^ (mo - l))) rest t) :
  IsB (fun ls => Wi m mo f L ls ∧ hdLt (l + 1) ls) (w :: rest) (if t ≥ 0 ∧ (best < 0 ∨ t + (l : Int) * w < best) then t + (l : Int) * w else best) := by
 have hc : 0 ≤ (l : Int) * w := Int.mul_nonneg (by omega) hw
 obtain ⟨b1, b2⟩ := hb
 obtain ⟨t1, t2⟩ := ht
 refine ⟨fun ls hls h => ?_, fun h => ?_⟩
 ·match ls, hls, h with
  | x :: tl, hls, h =>
   have hx : x < l + 1 := h.2
   by_cases e : x < l
   ·have q := b1 (x :: tl) hls ⟨h.1, e⟩
    split <;> omega
   ·have e : x = l := by omega
    subst e
    have q := t1 tl (by simpa using hls) h.1.2.2.2
    simp only [dot]
    split <;> omega
 ·by_cases c : t ≥ 0 ∧ (best < 0 ∨ t + (l : Int) * w < best)
  ·rw [if_pos c]
   obtain ⟨tl, h1, h2, h3⟩ := t2 c.1
   exact ⟨l :: tl, by simp [h1], ⟨⟨hf, hl, hL, h2⟩, Nat.lt_succ_self l⟩, by simp only [dot]; omega⟩
  ·rw [if_neg c] at h ⊢
   obtain ⟨ls, h1, h2, h3⟩ := b2 h
   refine ⟨ls, h1, ⟨h2.1, ?_⟩, h3⟩
   match ls, h2 with
   | [], _ => trivial
   | x :: tl, h2 =>
    have : x < l := h2.2
    show x < l + 1
    omega
theorem isB_skip {m mo f L l : Nat} {w : Int} {rest : List Int} {best : Int} (hL : L < m ^ (mo - l)) (hb : IsB (fun ls => Wi m mo f L ls ∧ hdLt l ls) (w :: rest) best) :
  IsB (fun ls => Wi m mo f L ls ∧ hdLt (l + 1) ls) (w :: rest) best := by
 obtain ⟨b1, b2⟩ := hb
 refine ⟨fun ls hls h => ?_, fun h => ?_⟩
 ·match ls, hls, h with
  | x :: tl, hls, h =>
   have hx : x < l + 1 := h.2
   by_cases e : x < l
   ·exact b1 (x :: tl) hls ⟨h.1, e⟩
   ·have e : x = l := by omega
    subst e
    have := h.1.2.2.1
    omega
 ·obtain ⟨ls, h1, h2, h3⟩ := b2 h
  refine ⟨ls, h1, ⟨h2.1, ?_⟩, h3⟩
  match ls, h2 with
  | [], _ => trivial
  | x :: tl, h2 =>
   have : x < l := h2.2
   show x < l + 1
   omega
theorem within_min (ws : List Int) (hws : ws.length ≤ 12) (hx : ∀ x ∈ ws, 1 ≤ x ∧ x ≤ 100) (m mo : Nat) (hm : 2 ≤ m ∧ m ≤ 3) (hmo : mo ≤ 11) : ∀ (d k : Nat), k + d = ws.length → ∀ (f L : Nat), 1 ≤ f → f ≤ mo → L ≤ 177147 →
  ∃ r : Int, Ev (fun q => impl_BestWithin.least q ws (m : Int) (mo : Int) k (f : Int) (L : Int)) r ∧ r ≤ 1200 * (d : Int) ∧ IsB (Wi m mo f L) (ws.drop k) r
 | 0, k, hd, f, L, hf, hfm, hL => by
  refine ⟨0, Ev.succ ?_, by omega, ?_⟩
  ·simp only [impl_BestWithin.least]
   exact Ev.pos (by omega) (Ev.now _)
  ·rw [List.drop_of_length_le (by omega)]
   refine ⟨fun ls hls _ => ?_, fun _ => ⟨[], rfl, trivial, rfl⟩⟩
   obtain rfl : ls = [] := List.length_eq_zero_iff.1 (by simpa using hls)
   simp [dot]
 | d + 1, k, hd, f, L, hf, hfm, hL => by
  have hk : k < ws.length := by omega
  have hwk := hx ws[k] (List.getElem_mem hk)
  have hdk : ws.drop k = ws[k] :: ws.drop (k + 1) := List.drop_eq_getElem_cons hk
  have hrest : ∀ x ∈ ws.drop (k + 1), 0 ≤ x := fun x h => by have := hx x (List.mem_of_mem_drop h); omega
  have IH := within_min ws hws hx m mo hm hmo d (k + 1) (by omega)
  have inner : ∀ (e l : Nat) (best : Int), l + e = mo + 1 → f ≤ l → best ≤ 1200 * ((d + 1 : Nat) : Int) → IsB (fun ls => Wi m mo f L ls ∧ hdLt l ls) (ws.drop k) best → ∃ r : Int, Ev (fun q => impl_BestWithin.loop q ws (m : Int) (mo : Int) k (L : Int) best (l : Int)) r ∧ r ≤ 1200 * ((d + 1 : Nat) : Int) ∧ IsB (fun ls => Wi m mo f L ls ∧ hdLt (mo + 1) ls) (ws.drop k) r := by
   intro e
   induction e with
   | zero =>
    intro l best hl h1 hb hB
    obtain rfl : l = mo + 1 := by omega
    refine ⟨best, Ev.succ ?_, hb, hB⟩
    simp only [impl_BestWithin.loop]; exact Ev.neg (by omega) (Ev.now _)
   | succ e ih =>
    intro l best hl h1 hb hB
    have hlm : l ≤ mo := by omega
    have hp2 := pow_small (n := mo - l) hm (by omega)
    have k2 := power_ev m (mo - l) (by omega) (by omega) (by omega)
    have e2 : Aside0 (wrap64 ((mo : Int) - (l : Int)) = ((mo - l : Nat) : Int)) := ⟨by rw [w64 (by omega) (by omega)]; omega⟩
    have e3 : Aside0 (wrap64 ((l : Int) + 1) = ((l + 1 : Nat) : Int)) := ⟨by rw [w64 (by omega) (by omega)]; omega⟩
    by_cases hlt : L < m ^ (mo - l)
    ·obtain ⟨r, r2, r3, r4⟩ := ih (l + 1) best (by omega) (by omega) hb (by rw [hdk] at hB ⊢; exact isB_skip hlt hB)
     refine ⟨r, Ev.succ ?_, r3, r4⟩
     simp only [impl_BestWithin.loop, e2.out, e3.out]
     exact Ev.pos (by omega) (Ev.bind k2 (Ev.pos (by omega) r2))
    ·obtain ⟨t, t2, t3, t4⟩ := IH l (L - m ^ (mo - l)) (by omega) hlm (by omega)
     have e5 : Aside0 (wrap64 ((L : Int) - ((m ^ (mo - l) : Nat) : Int)) = ((L - m ^ (mo - l) : Nat) : Int)) := ⟨by rw [w64 (by omega) (by omega)]; omega⟩
     have hrk : rd ws (k : Int) = ws[k] := rd_nat ws k hk
     have hb1 : 0 ≤ (l : Int) * ws[k] := Int.mul_nonneg (by omega) (by omega)
     have hb2 : (l : Int) * ws[k] ≤ 11 * 100 := Int.mul_le_mul (by omega) (by omega) (by omega) (by omega)
     have e6 : Aside0 (wrap64 ((l : Int) * rd ws (k : Int)) = (l : Int) * ws[k]) := ⟨by rw [hrk]; exact w64 (by omega) (by omega)⟩
     have e7 : Aside0 (wrap64 (rd ws (k : Int) * (l : Int)) = (l : Int) * ws[k]) := ⟨by rw [Int.mul_comm]; exact e6.out⟩
     have hnew := isB_step (f := f) (L := L) (l := l) (m := m) (mo := mo) (w := ws[k]) (rest := ws.drop (k + 1)) (best := best) (t := t) (by omega) hrest hlm h1 (by omega) (by rw [hdk] at hB; exact hB) t4
     rw [← hdk] at hnew
     obtain ⟨r, r2, r3, r4⟩ := ih (l + 1) _ (by omega) (by omega) (by split <;> omega) hnew
     refine ⟨r, Ev.succ ?_, r3, r4⟩
     simp only [impl_BestWithin.loop, e2.out, e3.out]
     refine Ev.pos (by omega) (Ev.bind k2 ?_)
     simp only [e5.out]
     refine Ev.neg (by omega) (Ev.bind t2 ?_)
     by_cases ht : t ≥ 0
     ·have e8 : Aside0 (wrap64 (t + (l : Int) * ws[k]) = t + (l : Int) * ws[k]) := ⟨w64 (by omega) (by omega)⟩
      simp only [e6.out, e7.out, e8.out]
      refine Ev.cases (fun h => ?_) (fun h => ?_)
      ·rw [if_pos h] at r2; exact r2
      ·rw [if_neg h] at r2; exact r2
     ·rw [if_neg (fun h => ht h.1)] at r2
      exact Ev.neg (fun h => ht h.1) r2
  obtain ⟨r, r2, r3, r4⟩ := inner (mo + 1 - f) f (-1) (by omega) (Nat.le_refl _) (by omega) ⟨fun ls hls h => by
   match ls, hls, h with
   | [], hls, h => simp at hls; omega
   | x :: tl, hls, h =>
    have h1 : x < f := h.2
    have h2 := h.1.1
    omega, fun h => by omega⟩
  refine ⟨r, Ev.succ ?_, r3, fun ls hls h => r4.1 ls hls ⟨h, ?_⟩, fun h => ?_⟩
  ·simp only [impl_BestWithin.least]
   exact Ev.neg (by omega) (Ev.pos ⟨hk, hws, by omega, by omega, by omega, wf64 (by omega) (by omega)⟩ r2)
  ·match ls, h with
   | [], _ => trivial
   | x :: tl, h =>
    have := h.2.1
    show x < mo + 1
    omega
  ·obtain ⟨ls, h1, h2, h3⟩ := r4.2 h
   exact ⟨ls, h1, h2.1, h3⟩
theorem dot_rev : ∀ (ws : List Int) (ls : List Nat), ls.length = ws.length → dot ws.reverse ls.reverse = dot ws ls
 | [], [], _ => rfl
 | w :: ws, l :: ls, h => by
  have h' : ls.length = ws.length := by simpa using h
  rw [List.reverse_cons, List.reverse_cons, dot_append _ _ _ _ (by simpa using h'), dot_rev ws ls h']
  simp only [dot]
  omega
theorem dot_to {a b : List Int} (h : a.Perm b) (ls : List Nat) (hl : ls.length = a.length) : ∃ ls' : List Nat, ls'.Perm ls ∧ dot b ls' = dot a ls := by
 have hz : (a.zip ls).map Prod.fst = a := List.map_fst_zip (by omega)
 have hz2 : (a.zip ls).map Prod.snd = ls := List.map_snd_zip (by omega)
 obtain ⟨qs, h1, h2⟩ := perm_lift h (a.zip ls) hz
 refine ⟨qs.map Prod.snd, ?_, ?_⟩
 ·have := (h1.map Prod.snd).symm
  rwa [hz2] at this
 ·have e := dot_pairs qs
  rw [h2] at e
  rw [← e, dot_zip a ls hl]
  exact (sI_perm (h1.map _)).symm
theorem withinBest (l : List Int) (m : Nat) (h1 : 1 ≤ l.length) (hl : l.length ≤ 12) (hm : 2 ≤ m ∧ m ≤ 3) (hx : ∀ x ∈ l, 1 ≤ x ∧ x ≤ 100) (mo : Nat) (hmo : mo ≤ 11) (r : Int) (h0 : 0 ≤ r) (hr : IsB (Wi m mo 1 (m ^ mo)) (sortI l).reverse r) :
  (∃ B : Int, Ev (fun k => impl_bestCost.f k l (m : Int)) B ∧ B ≤ r ∧ (l.length ≤ mo → r = B)) ∧ ∀ r' : Int, IsB (Wi m (mo + 1) 1 (m ^ (mo + 1))) (sortI l).reverse r' → 0 ≤ r' ∧ r' ≤ r := by
 have hlen := sortI_len l
 have hp : (sortI l).reverse.Perm l := (List.reverse_perm _).trans (sortI_perm l)
 obtain ⟨ls, g1, g2, g3⟩ := hr.2 h0
 obtain ⟨q1, q2, q3⟩ := g2.mem
 refine ⟨?_, fun r' hr' => ?_⟩
 ·obtain ⟨_, B, -, hB, -, -, -, -, -, hmin⟩ := best_run l m h1 hl hm hx
  obtain ⟨B', ps, -, hB', -, -, p1, p2, p3, p4⟩ := best_fits l m h1 hl hm hx
  obtain rfl := ev_one hB hB'
  obtain ⟨ls', d1, d2⟩ := dot_to hp ls g1
  have hB1 : B ≤ r := by
   rw [← g3, ← d2]
   refine hmin ls' (by rw [d1.length_eq, g1]; exact hp.length_eq) (fun x hx' => by have := q1 x (d1.subset hx'); omega) ?_
   rw [ks_perm m 11 d1, ks_scale m mo hmo ls (fun x hx' => (q1 x hx').2)]
   calc m ^ (11 - mo) * ks m mo ls ≤ m ^ (11 - mo) * m ^ mo := Nat.mul_le_mul_left _ q3
    _ = m ^ 11 := by rw [← Nat.pow_add]; congr 1; omega
  refine ⟨B, hB, hB1, fun hn => ?_⟩
  have hL : (ps.map Prod.snd).length = l.length := by rw [← p1]; simp
  have hD : dot l (ps.map Prod.snd) = B := by rw [← p4, dot_pairs, p1]
  have ho : Opt m l (ps.map Prod.snd) := ⟨hL, fun x hx' => by
   obtain ⟨p, hp', rfl⟩ := List.mem_map.1 hx'
   exact p2 p hp', by unfold ks; rw [List.map_map]; exact p3, fun ls' a b c => by rw [hD]; exact hmin ls' a b c⟩
  have hle : ∀ x ∈ ps.map Prod.snd, x ≤ mo := by
   by_cases h2 : 2 ≤ l.length
   ·intro x hx'
    have := ho.deep (by omega) (fun y hy => (hx y hy).1) h2 x hx'
    omega
   ·obtain ⟨w, rfl⟩ := List.length_eq_one_iff.1 (show l.length = 1 by omega)
    obtain ⟨p, rfl⟩ := List.length_eq_one_iff.1 (show ps.length = 1 by have := congrArg List.length p1; simpa using this)
    have hw := hx w (by simp)
    have hq := hmin [1] rfl (by simp) (by
     simp only [ks, sN, List.map_cons, List.map_nil, Nat.add_zero]
     exact Nat.pow_le_pow_right (by omega) (by omega))
    simp only [dot, List.map_cons, List.map_nil] at hD hq
    intro x hx'
    obtain rfl : x = p.2 := by simpa using hx'
    simp only [List.length_cons, List.length_nil] at hn
    by_cases h : p.2 ≤ 1
    ·omega
    ·exfalso
     have : (2 : Int) * w ≤ (p.2 : Int) * w := Int.mul_le_mul_of_nonneg_right (by omega) (by omega)
     omega
  obtain ⟨l2, d3, d4⟩ := dot_to (sortI_perm l).symm (ps.map Prod.snd) hL
  obtain ⟨l3, d5, d6, d7⟩ := rearr (sortI l) l2 (by rw [d3.length_eq, hL, hlen]) (sortI_up l)
  have d35 := d5.trans d3
  have e1 := dot_rev (sortI l) l3 (by rw [d35.length_eq, hL, hlen])
  have hks : ks m mo l3.reverse ≤ m ^ mo := by
   rw [ks_perm m mo ((List.reverse_perm _).trans d35)]
   have h3 := ho.fit
   rw [ks_scale m mo hmo _ hle, show (11 : Nat) = (11 - mo) + mo by omega, Nat.pow_add, show (11 - mo) + mo - mo = 11 - mo by omega] at h3
   exact Nat.le_of_mul_le_mul_left h3 (Nat.pow_pos (by omega))
  have := hr.1 l3.reverse (by simp [d35.length_eq, hL, hlen]) (Wi.of _ _ _ (fun x hx' => by
   have hx' := d35.subset (List.mem_reverse.1 hx')
   exact ⟨(ho.each x hx').1, hle x hx'⟩) (by rw [List.pairwise_reverse]; exact d6) hks)
  omega
 ·have := hr'.1 ls g1 (Wi.of _ _ _ (fun x hx' => by have := q1 x hx'; omega) q2 (by
   rw [ks_up m mo ls (fun x hx' => by have := q1 x hx'; omega), Nat.pow_succ, Nat.mul_comm (m ^ mo) m]
   exact Nat.mul_le_mul_left _ q3))
  omega
theorem wrapU63 (n : Int) (h0 : 0 ≤ n) (h1 : n < 2 ^ 63) : IntKind.u64.wrap n = n := by rw [IntKind.wrap_u64]; omega
def OkL (l : List Int) : Prop := ∀ x ∈ l, 0 ≤ x ∧ x < 256
theorem okL_of {l : List Int} (h : ∀ x ∈ l, (Lit.int .u8 x).wf = true) : OkL l := fun x hx => by
 have h1 := h x hx
 have h2 : (decide (IntKind.u8.min ≤ x) && decide (x ≤ IntKind.u8.max)) = true := h1
 have e1 : IntKind.u8.min = 0 := by decide
 have e2 : IntKind.u8.max = 255 := by decide
 rw [e1, e2, Bool.and_eq_true, decide_eq_true_eq, decide_eq_true_eq] at h2
 omega
theorem rd_ok {l : List Int} (h : OkL l) (i : Int) : 0 ≤ rd l i ∧ rd l i < 256 := by
 unfold rd
 rw [List.getD_eq_getElem?_getD]
 cases e : l[i.toNat]? with
 | none => simp
 | some x => exact h x (List.mem_of_getElem? e)
theorem byte_of_seed (y : Int) : 0 ≤ wrap64 (Go.bits .and .u64 (IntKind.u64.wrap y / 1099511627776) 255) ∧ wrap64 (Go.bits .and .u64 (IntKind.u64.wrap y / 1099511627776) 255) < 256 := by
 have h1 : 0 ≤ IntKind.u64.wrap y ∧ IntKind.u64.wrap y < 18446744073709551616 := by rw [IntKind.wrap_u64]; omega
 generalize IntKind.u64.wrap y = z at h1
 obtain ⟨h1, h2⟩ := h1
 have h := bits_mask .u64 63 (by decide) wrapU63 8 (by decide) (z / 1099511627776) (by omega) (by omega)
 have e : ((2 : Int) ^ 8 - 1) = 255 := by decide
 have e2 : ((2 : Int) ^ 8) = 256 := by decide
 rw [e, e2] at h
 rw [h, w64 (by omega) (by omega)]
 omega
theorem next_ev {l : List Int} (hl : OkL l) (at0 sd : Int) (h0 : 0 ≤ at0) (h1 : at0 ≤ 4611686018427387904) : ∃ x sd', spec_l1Cur_next.f l at0 sd = some (x, at0 + 1, sd') ∧ 0 ≤ x ∧ x < 256 := by
 have hr := rd_ok hl at0
 have e : Aside0 (wrap64 (at0 + 1) = at0 + 1) := ⟨w64 (by omega) (by omega)⟩
 have e2 : Aside0 (wrap64 (rd l at0) = rd l at0) := ⟨w64 (by omega) (by omega)⟩
 unfold spec_l1Cur_next.f
 rw [e.out, e2.out]
 by_cases c1 : at0 < (l.length : Int)
 ·rw [if_pos c1, if_pos h0, if_pos (by omega)]
  exact ⟨_, _, rfl, hr.1, hr.2⟩
 ·rw [if_neg c1]
  by_cases c2 : at0 + 1 ≤ (l.length : Int)
  ·rw [if_pos c2]; exact ⟨_, _, rfl, by omega, by omega⟩
  ·rw [if_neg c2]; exact ⟨_, _, rfl, (byte_of_seed _).1, (byte_of_seed _).2⟩
theorem pick_ev {l : List Int} (hl : OkL l) (at0 sd n : Int) (h0 : 0 ≤ at0) (h1 : at0 ≤ 2305843009213693952) : ∃ x at' sd', spec_l1Cur_pick.f l at0 sd n = some (x, at', sd') ∧ 0 ≤ x ∧ (1 ≤ n → x < n) ∧ at0 ≤ at' ∧ at' ≤ at0 + 2 := by
 unfold spec_l1Cur_pick.f
 by_cases c1 : n ≤ 1
 ·rw [if_pos c1]; exact ⟨_, _, _, rfl, by omega, by omega, by omega, by omega⟩
 ·rw [if_neg c1]
  obtain ⟨x, s1, e1, hx, hx2⟩ := next_ev hl at0 sd h0 (by omega)
  rw [e1]
  simp only [Option.bind_some]
  by_cases c2 : n > 200
  ·rw [if_pos c2]
   obtain ⟨y, s2, e2, hy, hy2⟩ := next_ev hl (at0 + 1) s1 (by omega) (by omega)
   rw [e2]
   simp only [Option.bind_some]
   rw [if_neg (by omega)]
   have e3 : Aside0 (wrap64 (wrap64 (x * 256) + y) = x * 256 + y) := ⟨by rw [w64 (i := x * 256) (by omega) (by omega), w64 (by omega) (by omega)]⟩
   rw [e3.out]
   exact ⟨_, _, _, rfl, Int.tmod_nonneg _ (by omega), fun _ => Int.tmod_lt_of_pos _ (by omega), by omega, by omega⟩
  ·rw [if_neg c2, if_neg (by omega)]
   exact ⟨_, _, _, rfl, Int.tmod_nonneg _ (by omega), fun _ => Int.tmod_lt_of_pos _ (by omega), by omega, by omega⟩
theorem one_ev {l : List Int} (hl : OkL l) (at0 sd n : Int) (h0 : 0 ≤ at0) (h1 : at0 ≤ 2305843009213693952) : ∃ b at' sd', spec_l1Cur_one.f l at0 sd n = some (b, at', sd') ∧ at0 ≤ at' ∧ at' ≤ at0 + 2 := by
 obtain ⟨x, at', s', e, -, -, h2, h3⟩ := pick_ev hl at0 sd n h0 h1
 unfold spec_l1Cur_one.f
 rw [e]
 exact ⟨_, _, _, rfl, h2, h3⟩
theorem among_ev {l : List Int} (hl : OkL l) (at0 sd : Int) (list : List Int) (hn : 1 ≤ list.length) (hs : list.length ≤ 1000) (h0 : 0 ≤ at0) (h1 : at0 ≤ 2305843009213693952) : ∃ x at' sd', spec_l1Cur_among.f l at0 sd list = some (x, at', sd') ∧ x ∈ list ∧ at0 ≤ at' ∧ at' ≤ at0 + 2 := by
 obtain ⟨i, at', sd', e, p1, p2, p3, p4⟩ := pick_ev hl at0 sd (list.length : Int) h0 h1
 obtain ⟨j, rfl⟩ := Int.eq_ofNat_of_zero_le p1
 have hj : j < list.length := by have := p2 (by omega); omega
 refine ⟨list[j], at', sd', ?_, List.getElem_mem hj, p3, p4⟩
 unfold spec_l1Cur_among.f
 rw [e, Option.bind_some, if_pos (by omega), if_pos (by omega), rd_nat list j hj]
theorem weights_l1 {l : List Int} (hl : OkL l) : ∀ (d : Nat) (x : List Int) (at0 sd : Int), x.length + d = 14 → 0 ≤ at0 → at0 + 2 * (d : Int) ≤ 1152921504606846000 → ∃ r at' sd', Ev (fun k => spec_l1Cur_weights.l1 k x l at0 sd) (r, at', sd') ∧ r.length ≤ 14 ∧ at0 ≤ at' ∧ at' ≤ at0 + 2 * d + 2
 | 0, x, at0, sd, hx, h0, h1 => by
  obtain ⟨i, at', sd', e, p1, p2, p3, p4⟩ := pick_ev hl at0 sd 2 h0 (by omega)
  have hi := p2 (by omega)
  refine ⟨x, at', sd', Ev.succ ?_, by omega, p3, by omega⟩
  simp only [spec_l1Cur_weights.l1]
  exact Ev.known (fun _ => e) (Ev.neg (by simp only; rw [w64 (by omega) (by omega)]; omega) (Ev.now _))
 | d + 1, x, at0, sd, hx, h0, h1 => by
  obtain ⟨i, at', sd', e, p1, p2, p3, p4⟩ := pick_ev hl at0 sd 2 h0 (by omega)
  have hi := p2 (by omega)
  by_cases c : (x.length : Int) < wrap64 (12 + i)
  ·obtain ⟨r, at2, sd2, e2, q1, q2, q3⟩ := weights_l1 hl d (x ++ [1]) at' sd' (by simp; omega) (by omega) (by omega)
   refine ⟨r, at2, sd2, Ev.succ ?_, q1, by omega, by omega⟩
   simp only [spec_l1Cur_weights.l1]
   exact Ev.known (fun _ => e) (Ev.pos c (Ev.pos (by omega) e2))
  ·refine ⟨x, at', sd', Ev.succ ?_, by omega, p3, by omega⟩
   simp only [spec_l1Cur_weights.l1]
   exact Ev.known (fun _ => e) (Ev.neg c (Ev.now _))
theorem weights_end {l : List Int} (hl : OkL l) (x : List Int) (kind : Int) (at0 sd : Int) (hx1 : 1 ≤ x.length) (hx : x.length ≤ 12) (h0 : 0 ≤ at0) (h1 : at0 ≤ 1152921504606845000) : ∃ r at' sd', Ev (fun k => spec_l1Cur_weights.l0 k x kind 0 l at0 sd) (r, at', sd') ∧ r.length ≤ 14 ∧ at0 ≤ at' ∧ at' ≤ at0 + 100 := by
 obtain ⟨i, at', sd', e, p1, p2, p3, p4⟩ := pick_ev hl at0 sd 18 h0 (by omega)
 by_cases c0 : i = 0
 ·obtain ⟨j, at2, sd2, e2, q1, q2, q3, q4⟩ := pick_ev hl at' sd' (x.length : Int) (by omega) (by omega)
  obtain ⟨y, at3, sd3, e3, -, r1, r2⟩ := among_ev hl at2 sd2 [0, -1, 101, 4611686018427387904] (by decide) (by decide) (by omega) (by omega)
  have hj := q2 (by omega)
  refine ⟨x.set j.toNat y, at3, sd3, Ev.succ ?_, by simp; omega, by omega, by omega⟩
  simp only [spec_l1Cur_weights.l0]
  exact Ev.neg (by omega) (Ev.known (fun _ => e) (Ev.pos c0 (Ev.known (fun _ => e2) (Ev.known (fun _ => e3) (Ev.pos q1 (Ev.pos hj (Ev.now _)))))))
 ·by_cases c1 : i = 1
  ·refine ⟨[], at', sd', Ev.succ ?_, by simp, p3, by omega⟩
   simp only [spec_l1Cur_weights.l0]
   exact Ev.neg (by omega) (Ev.known (fun _ => e) (Ev.neg c0 (Ev.pos c1 (Ev.now _))))
  ·by_cases c2 : i = 2
   ·obtain ⟨r, at2, sd2, e2, q1, q2, q3⟩ := weights_l1 hl (14 - x.length) x at' sd' (by omega) (by omega) (by omega)
    refine ⟨r, at2, sd2, Ev.succ ?_, q1, by omega, by omega⟩
    simp only [spec_l1Cur_weights.l0]
    exact Ev.neg (by omega) (Ev.known (fun _ => e) (Ev.neg c0 (Ev.neg c1 (Ev.pos c2 e2))))
   ·refine ⟨x, at', sd', Ev.succ ?_, by omega, p3, by omega⟩
    simp only [spec_l1Cur_weights.l0]
    exact Ev.neg (by omega) (Ev.known (fun _ => e) (Ev.neg c0 (Ev.neg c1 (Ev.neg c2 (Ev.now _)))))
theorem weights_l0 {l : List Int} (hl : OkL l) (kind : Int) : ∀ (d : Nat) (x : List Int) (at0 sd : Int), x.length + d ≤ 12 → 1 ≤ x.length + d → 0 ≤ at0 → at0 + 2 * (d : Int) ≤ 1152921504606845000 → ∃ r at' sd', Ev (fun k => spec_l1Cur_weights.l0 k x kind (d : Int) l at0 sd) (r, at', sd') ∧ r.length ≤ 14 ∧ at0 ≤ at' ∧ at' ≤ at0 + 2 * d + 100
 | 0, x, at0, sd, hx, hx1, h0, h1 => by
  obtain ⟨r, at', sd', e, p1, p2, p3⟩ := weights_end hl x kind at0 sd (by omega) (by omega) h0 (by omega)
  exact ⟨r, at', sd', e, p1, p2, by omega⟩
 | d + 1, x, at0, sd, hx, hx1, h0, h1 => by
  have ed : Aside0 (wrap64 (((d + 1 : Nat) : Int) - 1) = (d : Int)) := ⟨by rw [w64 (by omega) (by omega)]; omega⟩
  by_cases c0 : kind = 0
  ·obtain ⟨i, at', sd', e, p1, p2, p3, p4⟩ := pick_ev hl at0 sd 3 h0 (by omega)
   obtain ⟨r, at2, sd2, e2, q1, q2, q3⟩ := weights_l0 hl kind d (x ++ [wrap64 (1 + i)]) at' sd' (by simp; omega) (by simp; omega) (by omega) (by omega)
   refine ⟨r, at2, sd2, Ev.succ ?_, q1, by omega, by omega⟩
   simp only [spec_l1Cur_weights.l0, ed.out]
   exact Ev.pos (by omega) (Ev.pos c0 (Ev.known (fun _ => e) (Ev.pos (by omega) e2)))
  ·by_cases c1 : kind = 1
   ·obtain ⟨i, at', sd', e, p1, p2, p3, p4⟩ := pick_ev hl at0 sd 6 h0 (by omega)
    obtain ⟨r, at2, sd2, e2, q1, q2, q3⟩ := weights_l0 hl kind d (x ++ [shl .i64 1 i]) at' sd' (by simp; omega) (by simp; omega) (by omega) (by omega)
    refine ⟨r, at2, sd2, Ev.succ ?_, q1, by omega, by omega⟩
    simp only [spec_l1Cur_weights.l0, ed.out]
    exact Ev.pos (by omega) (Ev.neg c0 (Ev.pos c1 (Ev.known (fun _ => e) (Ev.pos p1 (Ev.pos (by omega) e2)))))
   ·obtain ⟨i, at', sd', e, p1, p2, p3, p4⟩ := pick_ev hl at0 sd 100 h0 (by omega)
    obtain ⟨r, at2, sd2, e2, q1, q2, q3⟩ := weights_l0 hl kind d (x ++ [wrap64 (1 + i)]) at' sd' (by simp; omega) (by simp; omega) (by omega) (by omega)
    refine ⟨r, at2, sd2, Ev.succ ?_, q1, by omega, by omega⟩
    simp only [spec_l1Cur_weights.l0, ed.out]
    exact Ev.pos (by omega) (Ev.neg c0 (Ev.neg c1 (Ev.known (fun _ => e) (Ev.pos (by omega) e2))))
theorem weights_ev {l : List Int} (hl : OkL l) (at0 sd most : Int) (hm1 : 1 ≤ most) (hm : most ≤ 12) (h0 : 0 ≤ at0) (h1 : at0 ≤ 1152921504606844000) : ∃ r at' sd', Ev (fun k => spec_l1Cur_weights.f k l at0 sd most) (r, at', sd') ∧ r.length ≤ 14 ∧ at0 ≤ at' ∧ at' ≤ at0 + 200 := by
 obtain ⟨kind, at', sd', e, p1, p2, p3, p4⟩ := pick_ev hl at0 sd 3 h0 (by omega)
 obtain ⟨i, at2, sd2, e2, q1, q2, q3, q4⟩ := pick_ev hl at' sd' most (by omega) (by omega)
 obtain ⟨n, rfl⟩ := Int.eq_ofNat_of_zero_le q1
 have hn := q2 hm1
 obtain ⟨r, at3, sd3, e3, r1, r2, r3⟩ := weights_l0 hl kind (n + 1) [] at2 sd2 (by simp; omega) (by simp) (by omega) (by omega)
 refine ⟨r, at3, sd3, ?_, r1, by omega, by omega⟩
 unfold spec_l1Cur_weights.f
 refine Ev.known (fun _ => e) (Ev.known (fun _ => e2) ?_)
 have ed : wrap64 (1 + (n : Int)) = ((n + 1 : Nat) : Int) := by rw [w64 (by omega) (by omega)]; omega
 simp only [ed]
 exact e3
theorem lengths_l0 {l : List Int} (hl : OkL l) (n : Nat) (hn : n ≤ 14) : ∀ (d i : Nat) (x : List Int) (at0 sd : Int), i + d = n → x.length = i → 0 ≤ at0 → at0 + 2 * (d : Int) ≤ 1152921504606845000 → ∃ r at' sd', Ev (fun k => spec_l1Cur_lengthsFor.l0 k x (n : Int) (i : Int) l at0 sd) (r, at', sd') ∧ r.length ≤ 14
 | 0, i, x, at0, sd, hd, hx, h0, h1 => by
  by_cases c0 : (x.length : Int) > 0
  ·obtain ⟨b, at', sd', e, p1, p2⟩ := one_ev hl at0 sd 8 h0 (by omega)
   cases b with
   | true =>
    obtain ⟨y, at2, sd2, e2, -, q1, q2⟩ := among_ev hl at' sd' [0, 8, 11, 12, 4611686018427387904] (by decide) (by decide) (by omega) (by omega)
    refine ⟨x.set (0 : Int).toNat y, at2, sd2, Ev.succ ?_, by simp; omega⟩
    simp only [spec_l1Cur_lengthsFor.l0]
    exact Ev.neg (by omega) (Ev.pos c0 (Ev.known (fun _ => e) (Ev.pos rfl (Ev.known (fun _ => e2) (Ev.pos c0 (Ev.now _))))))
   | false =>
    refine ⟨x, at', sd', Ev.succ ?_, by omega⟩
    simp only [spec_l1Cur_lengthsFor.l0]
    exact Ev.neg (by omega) (Ev.pos c0 (Ev.known (fun _ => e) (Ev.neg (by simp) (Ev.now _))))
  ·refine ⟨x, at0, sd, Ev.succ ?_, by omega⟩
   simp only [spec_l1Cur_lengthsFor.l0]
   exact Ev.neg (by omega) (Ev.neg c0 (Ev.now _))
 | d + 1, i, x, at0, sd, hd, hx, h0, h1 => by
  obtain ⟨y, at', sd', e, p1, p2, p3, p4⟩ := pick_ev hl at0 sd 4 h0 (by omega)
  obtain ⟨r, at2, sd2, e2, q1⟩ := lengths_l0 hl n hn d (i + 1) (x ++ [wrap64 (1 + y)]) at' sd' (by omega) (by simp; omega) (by omega) (by omega)
  refine ⟨r, at2, sd2, Ev.succ ?_, q1⟩
  simp only [spec_l1Cur_lengthsFor.l0, w1 (show 0 ≤ (i : Int) by omega) (show (i : Int) < 9223372036854775807 by omega)]
  exact Ev.pos (by omega) (Ev.known (fun _ => e) (Ev.pos (by omega) e2))
theorem lengthsFor_ev {l : List Int} (hl : OkL l) (at0 sd : Int) (w : List Int) (m : Int) (hw : w.length ≤ 14) (h0 : 0 ≤ at0) (h1 : at0 ≤ 1152921504606843000) : ∃ r at' sd', Ev (fun k => spec_l1Cur_lengthsFor.f k l at0 sd w m) (r, at', sd') ∧ r.length ≤ 14 := by
 have a1 := beAsked_ev w m (by omega)
 have free : ∀ at1 sd1, 0 ≤ at1 → at1 ≤ 1152921504606844000 → ∃ r at' sd', Ev (fun k => spec_l1Cur_lengthsFor.j0 k w m false l at1 sd1) (r, at', sd') ∧ r.length ≤ 14 := fun at1 sd1 g0 g1 => by
  obtain ⟨r, at2, sd2, e, q⟩ := lengths_l0 hl w.length hw w.length 0 [] at1 sd1 (by omega) rfl g0 (by omega)
  refine ⟨r, at2, sd2, Ev.succ ?_, q⟩
  simp only [spec_l1Cur_lengthsFor.j0]
  exact Ev.neg (by simp) e
 unfold spec_l1Cur_lengthsFor.f
 generalize hA : ((decide (2 ≤ m ∧ m ≤ 3)) && (decide (1 ≤ (w.length : Int) ∧ (w.length : Int) ≤ 12) && w.all fun x => decide (1 ≤ x ∧ x ≤ 100))) = A at a1
 cases A with
 | false =>
  obtain ⟨r, at2, sd2, e, q⟩ := free at0 sd h0 (by omega)
  exact ⟨r, at2, sd2, Ev.bind a1 (Ev.neg (by simp) e), q⟩
 | true =>
  simp only [Bool.and_eq_true, decide_eq_true_eq, List.all_eq_true] at hA
  by_cases h6 : (w.length : Int) ≤ 6
  ·obtain ⟨b, at1, sd1, e1, p1, p2⟩ := one_ev hl at0 sd 3 h0 (by omega)
   cases b with
   | true =>
    obtain ⟨r, at2, sd2, e, q⟩ := free at1 sd1 (by omega) (by omega)
    exact ⟨r, at2, sd2, Ev.bind a1 (Ev.pos rfl (Ev.pos h6 (Ev.known (fun _ => e1) e))), q⟩
   | false =>
    obtain ⟨mn, rfl⟩ : ∃ n : Nat, m = (n : Int) := ⟨m.toNat, by omega⟩
    obtain ⟨S, hne, hlen, s1⟩ := search_spec w mn (by omega) (by omega) (by omega) hA.2.2
    match S, hne, hlen, s1 with
    | a :: t, _, hlen, s1 =>
     have ha := hlen a (by simp)
     have hup : (upd [] 0 (a :: t)).1 = a := by simp [upd]
     have hown : spec_l1Own.f a = some a := l1Own_ev a (by omega)
     obtain ⟨b2, at2, sd2, e2, q1, q2⟩ := one_ev hl at1 sd1 3 (by omega) (by omega)
     cases b2 with
     | false =>
      refine ⟨a, at2, sd2, Ev.bind a1 (Ev.pos rfl (Ev.pos h6 (Ev.known (fun _ => e1) (Ev.succ ?_)))), by omega⟩
      simp only [spec_l1Cur_lengthsFor.j0]
      refine Ev.pos (by simp) (Ev.bind s1 ?_)
      rw [hup]
      exact Ev.known (fun _ => hown) (Ev.known (fun _ => e2) (Ev.neg (by simp) (Ev.now _)))
     | true =>
      obtain ⟨j, at3, sd3, e3, r1, r2, r3, r4⟩ := pick_ev hl at2 sd2 (a.length : Int) (by omega) (by omega)
      obtain ⟨y, at4, sd4, e4, t1, t2, t3, t4⟩ := pick_ev hl at3 sd3 4 (by omega) (by omega)
      have hj := r2 (by omega)
      refine ⟨a.set j.toNat (wrap64 (1 + y)), at4, sd4, Ev.bind a1 (Ev.pos rfl (Ev.pos h6 (Ev.known (fun _ => e1) (Ev.succ ?_)))), by simp; omega⟩
      simp only [spec_l1Cur_lengthsFor.j0]
      refine Ev.pos (by simp) (Ev.bind s1 ?_)
      rw [hup]
      exact Ev.known (fun _ => hown) (Ev.known (fun _ => e2) (Ev.pos rfl (Ev.known (fun _ => e3) (Ev.known (fun _ => e4) (Ev.pos r1 (Ev.pos hj (Ev.now _)))))))
  ·obtain ⟨r, at2, sd2, e, q⟩ := free at0 sd h0 (by omega)
   exact ⟨r, at2, sd2, Ev.bind a1 (Ev.pos rfl (Ev.neg h6 e)), q⟩
theorem letters_ev {l : List Int} (hl : OkL l) (at0 sd : Int) (h0 : 0 ≤ at0) (h1 : at0 ≤ 2305843009213693952) : ∃ x at' sd', spec_l1Cur_letters.f l at0 sd = some (x, at', sd') ∧ at0 ≤ at' ∧ at' ≤ at0 + 2 := by
 obtain ⟨x, at', sd', e, -, p1, p2⟩ := among_ev hl at0 sd [2, 2, 2, 3, 3, 2, 3, 1, 4] (by decide) (by decide) h0 h1
 refine ⟨x, at', sd', ?_, p1, p2⟩
 unfold spec_l1Cur_letters.f
 rw [e, Option.bind_some]
theorem yBegins_eq (a w : ByteArray) : laws_yBegins.f a w = some ((ch w).isPrefixOf (ch a)) := by
 unfold laws_yBegins.f
 by_cases h : w.size ≤ a.size
 ·rw [if_pos (by omega), if_pos (by omega), begins_test a w h]
 ·rw [if_neg (by omega), prefix_long a w h]
def Free (ws : List ByteArray) : Prop := ∀ i j (hi : i < ws.length) (hj : j < ws.length), i ≠ j → (ch ws[j]).isPrefixOf (ch ws[i]) = false
theorem yPrefix_l1 (ws : List ByteArray) (hl : ws.length ≤ 1048576) (hf : Free ws) (x7 : List ByteArray) (x8 : Int) (i : Nat) (hi : i < ws.length) (next : Ev (fun k => laws_yPrefix.l0 k ws x7 x8 ((i : Int) + 1)) true) : ∀ (d j : Nat), j + d = ws.length → Ev (fun k => laws_yPrefix.l1 k ws (i : Int) ws[i] x7 x8 (i : Int) ws (ws.length : Int) (j : Int)) true
 | 0, j, hd => by
  have wi := w1 (show 0 ≤ (i : Int) by omega) (show (i : Int) < 9223372036854775807 by omega)
  refine Ev.succ ?_
  simp only [laws_yPrefix.l1, wi]
  exact Ev.neg (by omega) next
 | d + 1, j, hd => by
  have hj : j < ws.length := by omega
  have ih := yPrefix_l1 ws hl hf x7 x8 i hi next d (j + 1) (by omega)
  have wj := w1 (show 0 ≤ (j : Int) by omega) (show (j : Int) < 9223372036854775807 by omega)
  refine Ev.succ ?_
  simp only [laws_yPrefix.l1, rdOf_nat ws j hj, wj, yBegins_eq]
  refine Ev.pos (by omega) (Ev.pos (by omega) (Ev.pos (by omega) ?_))
  by_cases c : i = j
  ·exact Ev.pos (by omega) ih
  ·refine Ev.neg (by omega) (Ev.known (fun _ => rfl) ?_)
   rw [hf i j hi hj c]
   exact Ev.neg (by simp) ih
theorem yPrefix_l0 (ws : List ByteArray) (hl : ws.length ≤ 1048576) (hf : Free ws) : ∀ (d i : Nat), i + d = ws.length → Ev (fun k => laws_yPrefix.l0 k ws ws (ws.length : Int) (i : Int)) true
 | 0, i, hd => by
  refine Ev.succ ?_
  simp only [laws_yPrefix.l0]
  exact Ev.neg (by omega) (Ev.now _)
 | d + 1, i, hd => by
  have hi : i < ws.length := by omega
  have ih := yPrefix_l0 ws hl hf d (i + 1) (by omega)
  refine Ev.succ ?_
  simp only [laws_yPrefix.l0, rdOf_nat ws i hi]
  exact Ev.pos (by omega) (Ev.pos (by omega) (Ev.pos (by omega) (yPrefix_l1 ws hl hf ws _ i hi ih ws.length 0 (by omega))))
theorem yPrefix_ev (ws : List ByteArray) (hl : ws.length ≤ 1048576) (hf : Free ws) : Ev (fun k => laws_yPrefix.f k ws) true := yPrefix_l0 ws hl hf ws.length 0 (by omega)
theorem digs_take (m l : Nat) : ∀ d n, (digs m (l + d) n).take l = digs m l (n / m ^ d)
 | 0, n => by rw [Nat.add_zero, Nat.pow_zero, Nat.div_one, List.take_of_length_le (by rw [digs_length]; exact Nat.le_refl _)]
 | d + 1, n => by
  rw [← Nat.add_assoc, digs, List.take_append_of_le_length (by rw [digs_length]; omega), digs_take m l d, Nat.div_div_eq_div_mul, Nat.pow_succ, Nat.mul_comm m]
theorem digs_inj (m : Nat) (hm : 1 ≤ m ∧ m ≤ 3) : ∀ (l a b : Nat), a < m ^ l → b < m ^ l → digs m l a = digs m l b → a = b
 | 0, a, b, ha, hb, _ => by simp at ha hb; omega
 | l + 1, a, b, ha, hb, h => by
  rw [digs, digs] at h
  obtain ⟨h1, h2⟩ := List.append_inj h (by rw [digs_length, digs_length])
  have e1 := digs_inj m hm l (a / m) (b / m) (Nat.div_lt_of_lt_mul (by rw [Nat.mul_comm, ← Nat.pow_succ]; exact ha)) (Nat.div_lt_of_lt_mul (by rw [Nat.mul_comm, ← Nat.pow_succ]; exact hb)) h1
  have ra : a % m < m := Nat.mod_lt _ (by omega)
  have rb : b % m < m := Nat.mod_lt _ (by omega)
  have h3 := congrArg (fun (x : List UInt8) => x.map UInt8.toNat) h2
  simp only [List.map_cons, List.map_nil, List.cons.injEq, and_true, UInt8.toNat_ofNat'] at h3
  have e2 : a % m = b % m := by omega
  rw [← Nat.div_add_mod a m, ← Nat.div_add_mod b m, e1, e2]
theorem kr_cons (m e x : Nat) (L : List Nat) : kr m e (x :: L) = m ^ (e - x) + kr m e L := by simp [kr]
theorem kr_append (m e : Nat) (a b : List Nat) : kr m e (a ++ b) = kr m e a + kr m e b := by simp [kr]
theorem wds_get (m : Nat) : ∀ (L : List Nat) (A k : Nat) (h : k < L.length), (wds m L A)[k]'(by rw [wds_len]; exact h) = ⟨(digs m L[k] ((A + kr m 8 (L.take k)) / m ^ (8 - L[k]))).toArray⟩
 | x :: L, A, 0, h => by simp [wds, kr]
 | x :: L, A, k + 1, h => by
  simp only [wds, List.getElem_cons_succ, List.take_succ_cons]
  rw [wds_get m L _ k (by simpa using h), kr_cons, Nat.add_assoc]
theorem kr_gap (m : Nat) (S : List Nat) (k k' : Nat) (h : k < k') (hk' : k' ≤ S.length) : kr m 8 (S.take k) + m ^ (8 - S[k]'(by omega)) ≤ kr m 8 (S.take k') := by
 have hk : k < S.length := by omega
 have e : S.take k' = S.take (k + 1) ++ (S.take k').drop (k + 1) := by
  have := (List.take_append_drop (k + 1) (S.take k')).symm
  rw [List.take_take, Nat.min_eq_left (by omega)] at this
  exact this
 rw [e, kr_append, List.take_succ_eq_append_getElem hk, kr_snoc]
 omega
theorem wds_free (m : Nat) (hm : 2 ≤ m ∧ m ≤ 3) (S : List Nat) (hb : ∀ x ∈ S, 1 ≤ x ∧ x ≤ 8) (hu : S.Pairwise fun x y => x ≤ y) (hk : kr m 8 S ≤ m ^ 8) : Free (wds m S 0) := by
 intro i j hi hj hij
 rw [wds_len] at hi hj
 rw [wds_get m S 0 i hi, wds_get m S 0 j hj, Nat.zero_add, Nat.zero_add]
 have hbi := hb _ (List.getElem_mem hi)
 have hbj := hb _ (List.getElem_mem hj)
 have gi := kr_gap m S i S.length hi (Nat.le_refl _)
 have gj := kr_gap m S j S.length hj (Nat.le_refl _)
 rw [List.take_length] at gi gj
 have pj : 0 < m ^ (8 - S[j]) := Nat.pow_pos (by omega)
 have pi : 0 < m ^ (8 - S[i]) := Nat.pow_pos (by omega)
 rw [Bool.eq_false_iff]
 intro hp
 rw [List.isPrefixOf_iff_prefix] at hp
 unfold ch at hp
 simp only [List.toList_toArray] at hp
 have hle := hp.length_le
 rw [digs_length, digs_length] at hle
 have ht := List.prefix_iff_eq_take.1 hp
 rw [digs_length] at ht
 obtain ⟨d, hd⟩ : ∃ d, S[i] = S[j] + d := ⟨S[i] - S[j], by omega⟩
 have e8 : m ^ (8 - S[j]) = m ^ (8 - S[i]) * m ^ d := by rw [← Nat.pow_add]; congr 1; omega
 rw [hd, digs_take, ← hd, Nat.div_div_eq_div_mul, ← e8] at ht
 have hlt : ∀ a, a < m ^ 8 → a / m ^ (8 - S[j]) < m ^ S[j] := fun a ha => Nat.div_lt_of_lt_mul (by rw [← Nat.pow_add, show 8 - S[j] + S[j] = 8 by omega]; exact ha)
 have hq := digs_inj m (by omega) S[j] _ _ (hlt _ (by omega)) (hlt _ (by omega)) ht
 have step : ∀ a b : Nat, a + m ^ (8 - S[j]) ≤ b → a / m ^ (8 - S[j]) = b / m ^ (8 - S[j]) → False := fun a b h1 h2 => by
  have := Nat.div_le_div_right (c := m ^ (8 - S[j])) h1
  rw [Nat.add_div_right _ pj] at this
  omega
 rcases Nat.lt_or_ge i j with c | c
 ·have hs : S[i] ≤ S[j] := List.pairwise_iff_getElem.1 hu i j hi hj c
  have es : S[i] = S[j] := by omega
  have g := kr_gap m S i j c (by omega)
  rw [es] at g
  exact step _ _ g hq.symm
 ·exact step _ _ (kr_gap m S j i (by omega) (by omega)) hq
theorem fill_other (W : List ByteArray) : ∀ (P : List Nat) (j : Nat) (out : List ByteArray) (x : Nat), x ∉ P → (impl_WordsFor.fill W P j out).getD x ByteArray.empty = out.getD x ByteArray.empty
 | [], j, out, x, _ => rfl
 | p :: P, j, out, x, h => by
  rw [impl_WordsFor.fill, fill_other W P (j + 1) _ x (fun hx => h (by simp [hx]))]
  have hne : p ≠ x := fun e => h (by simp [e])
  simp [List.getD_eq_getElem?_getD, List.getElem?_set_ne hne]
theorem fill_at (W : List ByteArray) : ∀ (P : List Nat) (j : Nat) (out : List ByteArray) (k : Nat) (hk : k < P.length), P.Nodup → (∀ p ∈ P, p < out.length) → (impl_WordsFor.fill W P j out).getD P[k] ByteArray.empty = W.getD (j + k) ByteArray.empty
 | p :: P, j, out, 0, hk, hn, hb => by
  rw [impl_WordsFor.fill]
  have h1 := (List.nodup_cons.1 hn).1
  have hp := hb p (by simp)
  rw [List.getElem_cons_zero, fill_other W P (j + 1) _ p h1]
  simp [List.getD_eq_getElem?_getD, hp]
 | p :: P, j, out, k + 1, hk, hn, hb => by
  rw [impl_WordsFor.fill]
  have := fill_at W P (j + 1) (out.set p (W.getD j ByteArray.empty)) k (by simpa using hk) (List.nodup_cons.1 hn).2 (fun x hx => by rw [List.length_set]; exact hb x (by simp [hx]))
  rw [List.getElem_cons_succ, this, Nat.add_assoc, Nat.add_comm 1 k]
theorem bx_size (l : List UInt8) : (⟨l.toArray⟩ : ByteArray).size = l.length := by simp [ByteArray.size]
theorem digs_letter (m : Nat) (hm : 2 ≤ m ∧ m ≤ 3) : ∀ l n, (digs m l n).all isLetter = true
 | 0, _ => rfl
 | l + 1, n => by
  rw [digs, List.all_append, digs_letter m hm l, Bool.true_and]
  have : n % m < 3 := Nat.lt_of_lt_of_le (Nat.mod_lt _ (by omega)) hm.2
  generalize n % m = r at this
  match r, this with
  | 0, _ => decide
  | 1, _ => decide
  | 2, _ => decide
theorem words_toldL (m : Nat) (hm : 2 ≤ m ∧ m ≤ 3) (L : List Nat) (h1 : 1 ≤ L.length) (hL : L.length ≤ 12) (hb8 : ∀ x ∈ L, 1 ≤ x ∧ x ≤ 8) (hk : kr m 11 L ≤ m ^ 11) : ∃ ws : List ByteArray, Ev (fun k => impl_WordsFor.f k (intsOf L) (m : Int)) (ws, true) ∧ ∃ hw : ws.length = L.length, (∀ i (h : i < L.length), (ws[i]'(by omega)).size = L[i]) ∧ Free ws ∧ ∀ s ∈ ws, s.data.toList.all isLetter = true := by
 have hl : (intsOf L).length ≤ 1048576 := by rw [ints_len]; omega
 have a2 := implDeep (intsOf L) hl
 rw [deepB_ints h1 hL (fun x hx => by have := hb8 x hx; omega)] at a2
 have a4 := areLetters_eq (m : Int)
 rw [decide_eq_true (show 2 ≤ (m : Int) ∧ (m : Int) ≤ 3 by omega)] at a4
 obtain ⟨mxv, hmx, hmxv⟩ := max_ev (intsOf L) hl (by rw [ints_len]; omega)
 have hnm : ¬ mxv > 8 := by
  have : ((intsOf L).any fun x => decide (x > 8)) = false := by
   rw [List.any_eq_false]
   intro x hx
   obtain ⟨y, hy, rfl⟩ := List.mem_map.1 hx
   have := hb8 y hy
   simp
   omega
  rw [this] at hmxv
  simpa using hmxv
 obtain ⟨S, hS⟩ : ∃ S : List Nat, sortI (intsOf L) = intsOf S := ⟨_, ints_of _ (fun x hx => by
  obtain ⟨y, hy, rfl⟩ := List.mem_map.1 ((sortI_perm _).mem_iff.1 hx)
  have := hb8 y hy
  omega)⟩
 have hperm : S.Perm L := by
  have h1 := sortI_perm (intsOf L)
  rw [hS] at h1
  have h2 := h1.map Int.toNat
  unfold intsOf at h2
  rw [List.map_map, List.map_map] at h2
  simpa [Function.comp_def] using h2
 have hup : S.Pairwise fun x y => x ≤ y := by
  have h1 := sortI_up (intsOf L)
  rw [hS] at h1
  unfold intsOf at h1
  rw [List.pairwise_map] at h1
  exact h1.imp (fun h => by omega)
 have hSl := hperm.length_eq
 have hb8S : ∀ x ∈ S, 1 ≤ x ∧ x ≤ 8 := fun x hx => hb8 x (hperm.mem_iff.1 hx)
 have f2 := impl_fpc m hm S (by omega) (by omega) hb8S hup
 have hkS : kr m 8 S ≤ m ^ 8 := by
  rw [kr_up m L (fun x hx => (hb8 x hx).2), ← kr_perm m 8 hperm, show (11 : Nat) = 8 + 3 from rfl, Nat.pow_add] at hk
  exact Nat.le_of_mul_le_mul_right hk (Nat.pow_pos (by omega))
 rw [if_pos hkS] at f2
 have hW : (wds m S 0).length = L.length := by rw [wds_len]; exact hSl
 have hget : ∀ x, (intsOf L).getD x 0 = ((L.getD x 0 : Nat) : Int) := fun x => by
  unfold intsOf
  simp only [List.getD_eq_getElem?_getD, List.getElem?_map]
  cases L[x]? <;> rfl
 obtain ⟨p1, p2⟩ := places_sorted (L.length - 1) (intsOf L) (fun x => by
  rw [hget, List.getD_eq_getElem?_getD]
  by_cases hx : x < L.length
  ·have := hb8 _ (List.getElem_mem hx)
   rw [List.getElem?_eq_getElem hx, Option.getD_some]
   omega
  ·rw [List.getElem?_eq_none (by omega)]
   simp)
 rw [show L.length - 1 + 1 = L.length by omega] at p2
 have hnd : (impl_WordsFor.places (intsOf L) (L.length - 1)).Nodup := p2.nodup_iff.2 List.nodup_range
 have hPl : (impl_WordsFor.places (intsOf L) (L.length - 1)).length = L.length := by rw [p2.length_eq, List.length_range]
 have hPm : ∀ x, x ∈ impl_WordsFor.places (intsOf L) (L.length - 1) ↔ x < L.length := fun x => by rw [p2.mem_iff, List.mem_range]
 have hPS : (impl_WordsFor.places (intsOf L) (L.length - 1)).map (fun x => L.getD x 0) = S := by
  refine List.Perm.eq_of_pairwise (le := fun x y => x ≤ y) (fun x y _ _ h1 h2 => Nat.le_antisymm h1 h2) ?_ hup ?_
  ·rw [List.pairwise_map]
   refine p1.imp ?_
   intro x y h
   unfold plLt at h
   rw [decide_eq_false_iff_not, hget, hget] at h
   omega
  ·refine (p2.map _).trans (List.Perm.trans ?_ hperm.symm)
   have : (List.range L.length).map (fun x => L.getD x 0) = L := by
    apply List.ext_getElem
    ·simp
    ·intro j h1 h2
     simp [List.getD_eq_getElem?_getD, h2]
   rw [this]
 have ev : Ev (fun k => impl_WordsFor.f k (intsOf L) (m : Int)) (impl_WordsFor.fill (wds m S 0) (impl_WordsFor.places (intsOf L) (L.length - 1)) 0 (List.replicate L.length ByteArray.empty), true) := by
  unfold impl_WordsFor.f
  refine Ev.bind a2 (Ev.pos rfl (Ev.bind hmx (Ev.neg hnm (Ev.known (fun _ => a4) (Ev.pos rfl (Ev.pos (by rw [ints_len]; omega) ?_))))))
  rw [hS]
  refine Ev.bind f2 (Ev.pos rfl (Ev.pos (by simp only [hW, ints_len]; omega) (Ev.pure ?_)))
  rw [ints_len]
 have hfl := fill_length (wds m S 0) (impl_WordsFor.places (intsOf L) (L.length - 1)) 0 (List.replicate L.length ByteArray.empty)
 rw [List.length_replicate] at hfl
 have hat : ∀ k (hk : k < (impl_WordsFor.places (intsOf L) (L.length - 1)).length), (impl_WordsFor.fill (wds m S 0) (impl_WordsFor.places (intsOf L) (L.length - 1)) 0 (List.replicate L.length ByteArray.empty)).getD (impl_WordsFor.places (intsOf L) (L.length - 1))[k] ByteArray.empty = (wds m S 0).getD k ByteArray.empty := fun k hk => by
  have := fill_at (wds m S 0) (impl_WordsFor.places (intsOf L) (L.length - 1)) 0 (List.replicate L.length ByteArray.empty) k hk hnd (fun p hp => by rw [List.length_replicate]; exact (hPm p).1 hp)
  rw [Nat.zero_add] at this
  exact this
 generalize impl_WordsFor.fill (wds m S 0) (impl_WordsFor.places (intsOf L) (L.length - 1)) 0 (List.replicate L.length ByteArray.empty) = ws at ev hfl hat
 generalize impl_WordsFor.places (intsOf L) (L.length - 1) = P at hnd hPl hPm hPS hat
 have hfr := wds_free m hm S hb8S hup hkS
 have hsz : ∀ k (hk : k < S.length) (hk' : k < (wds m S 0).length), ((wds m S 0)[k]).size = S[k] := fun k hk _ => by rw [wds_get m S 0 k hk, bx_size, digs_length]
 have hlt : ∀ k (hk : k < (wds m S 0).length), ((wds m S 0)[k]).data.toList.all isLetter = true := fun k hk => by rw [wds_get m S 0 k (by rw [wds_len] at hk; exact hk)]; exact digs_letter m hm _ _
 generalize wds m S 0 = W at hW hat hfr hsz hlt
 have hex : ∀ i (h : i < L.length), ∃ k, ∃ hk : k < P.length, P[k] = i ∧ ws[i]'(by omega) = W[k]'(by omega) := fun i h => by
  obtain ⟨k, hk, e⟩ := List.getElem_of_mem ((hPm i).2 h)
  refine ⟨k, hk, e, ?_⟩
  have := hat k hk
  rw [e] at this
  simpa [List.getD_eq_getElem?_getD, show i < ws.length by omega, show k < W.length by omega] using this
 refine ⟨ws, ev, hfl, fun i h => ?_, fun i j hi hj hij => ?_, fun s hs => ?_⟩
 ·obtain ⟨k, hk, e, e2⟩ := hex i h
  rw [e2, hsz k (by omega) (by omega)]
  subst hPS
  simp [e, List.getD_eq_getElem?_getD, h]
 ·obtain ⟨k, hk, e, e2⟩ := hex i (by omega)
  obtain ⟨k', hk', e', e2'⟩ := hex j (by omega)
  rw [e2, e2']
  exact hfr k k' (by omega) (by omega) (fun h => hij (by subst h; rw [← e, ← e']))
 ·obtain ⟨i, hi, rfl⟩ := List.getElem_of_mem hs
  obtain ⟨k, hk, e, e2⟩ := hex i (by omega)
  rw [e2]
  exact hlt k (by omega)
theorem wf_up (m : Int) (l : List Int) (hl : l.length ≤ 12) (x0 : List Int) (r : List ByteArray × Bool) (next : Ev (fun k => (spec_FirstPrefixCode.f k (sortI l) m).bind fun bt170 => (if 0 ≤ (x0.length : Int) then (if ((x0.length : Int) : Int).toNat ≤ 17592186044416 then (spec_WordsFor.l1 k x0 bt170.1 (List.replicate ((x0.length : Int) : Int).toNat (⟨#[]⟩ : ByteArray)) 0 1) else (none)) else (none))) r) :
  ∀ (d i : Nat), i + d = l.length → Ev (fun k => spec_WordsFor.l0 k x0 m (sortI (l.take i)) l (l.length : Int) (i : Int)) r
 | 0, i, hd => by
  rw [List.take_of_length_le (by omega)]
  refine Ev.succ ?_
  simp only [spec_WordsFor.l0]
  exact Ev.neg (by omega) next
 | d + 1, i, hd => by
  have h1 : i < l.length := by omega
  have ih := wf_up m l hl x0 r next d (i + 1) (by omega)
  have hb := bePut_ev (sortI (l.take i)) l[i] (by rw [sortI_len, List.length_take]; omega) (sortI_up _)
  rw [sortI_put] at hb
  rw [List.take_succ_eq_append_getElem h1] at ih
  refine Ev.succ ?_
  simp only [spec_WordsFor.l0, rd_nat l i h1, w1 (show 0 ≤ (i : Int) by omega) (show (i : Int) < 9223372036854775807 by omega)]
  exact Ev.pos (by omega) (Ev.pos (by omega) (Ev.pos (by omega) (Ev.bind hb ih)))
def WfOk (l : List Int) (m : Int) : Prop := ∃ (L : List Nat) (mn : Nat), l = intsOf L ∧ m = (mn : Int) ∧ (2 ≤ mn ∧ mn ≤ 3) ∧ 1 ≤ L.length ∧ L.length ≤ 12 ∧ (∀ x ∈ L, 1 ≤ x ∧ x ≤ 8) ∧ kr mn 11 L ≤ mn ^ 11
theorem wf_told (l : List Int) (m : Int) (hl : l.length ≤ 1048576) : ∃ r, Ev (fun k => spec_WordsFor.f k l m) r ∧ Ev (fun k => impl_WordsFor.f k l m) r ∧ r.1.length ≤ 12 ∧ (r.2 = true → WfOk l m) := by
 unfold spec_WordsFor.f impl_WordsFor.f spec_krLetters.f
 have a1 := beLengths_ev l hl
 have a2 := impl_areDeep_ev l hl
 have a3 := spec_all l 1 8 hl
 have a4 := areLetters_eq m
 have a5 : ((spec_l1In.f m 2 3).bind fun t145 => some t145) = some (decide (2 ≤ m ∧ m ≤ 3)) := by rw [spec_in, Option.bind_some]
 have bad : ∀ g : Nat → Option (List ByteArray × Bool), (∀ k, g (k + 1) = spec_WordsFor.j0 (k + 1) l m true) → Ev g ([], false) := fun g hg => Ev.succ (by
  simp only [hg, spec_WordsFor.j0]
  exact Ev.pos trivial (Ev.now _))
 generalize hB : decide (2 ≤ m ∧ m ≤ 3) = B at a4 a5
 generalize hA : (decide (1 ≤ (l.length : Int) ∧ (l.length : Int) ≤ 12) && l.all fun x => decide (1 ≤ x ∧ x ≤ 11)) = A at a1 a2
 cases A with
 | false =>
  refine ⟨([], false), ?_, Ev.bind a2 (Ev.neg (by simp) (Ev.now _)), by simp, by simp⟩
  cases B with
  | false => exact Ev.known (fun _ => a5) (Ev.neg (by simp) (bad _ fun _ => rfl))
  | true => exact Ev.known (fun _ => a5) (Ev.pos rfl (Ev.bind a1 (Ev.neg (by simp) (bad _ fun _ => rfl))))
 | true =>
  have hn : 1 ≤ l.length ∧ l.length ≤ 12 := by simp only [Bool.and_eq_true, decide_eq_true_eq] at hA; omega
  have hall : ∀ x ∈ l, 1 ≤ x ∧ x ≤ 11 := by
   simp only [Bool.and_eq_true, List.all_eq_true, decide_eq_true_eq] at hA
   exact hA.2
  obtain ⟨mxv, hmx, hmxv⟩ := max_ev l hl (by omega)
  by_cases h8 : ∀ x ∈ l, x ≤ 8
  ·have hC : (l.all fun x => decide (1 ≤ x ∧ x ≤ 8)) = true := by
    rw [List.all_eq_true]
    intro x hx
    have := hall x hx
    have := h8 x hx
    exact decide_eq_true (by omega)
   rw [hC] at a3
   have hnm : ¬ mxv > 8 := by
    have : (l.any fun x => decide (x > 8)) = false := by
     rw [List.any_eq_false]
     intro x hx
     have := h8 x hx
     simp
     omega
    rw [this] at hmxv
    simpa using hmxv
   cases B with
   | false => exact ⟨([], false), Ev.known (fun _ => a5) (Ev.neg (by simp) (bad _ fun _ => rfl)), Ev.bind a2 (Ev.pos rfl (Ev.bind hmx (Ev.neg hnm (Ev.known (fun _ => a4) (Ev.neg (by simp) (Ev.now _)))))), by simp, by simp⟩
   | true =>
    have hm0 : 2 ≤ m ∧ m ≤ 3 := by simpa using hB
    obtain ⟨mn, rfl⟩ : ∃ n : Nat, m = (n : Int) := ⟨m.toNat, by omega⟩
    have hm : 2 ≤ mn ∧ mn ≤ 3 := by omega
    obtain ⟨L, hLl⟩ : ∃ L : List Nat, l = intsOf L := ⟨_, ints_of l (fun x hx => (hall x hx).1)⟩
    subst hLl
    have hlen : L.length = (intsOf L).length := (ints_len L).symm
    have hb8 : ∀ x ∈ L, 1 ≤ x ∧ x ≤ 8 := fun x hx => by
     have h1 := hall (x : Int) (List.mem_map.2 ⟨x, hx, rfl⟩)
     have h2 := h8 (x : Int) (List.mem_map.2 ⟨x, hx, rfl⟩)
     omega
    obtain ⟨S, hS⟩ : ∃ S : List Nat, sortI (intsOf L) = intsOf S := ⟨_, ints_of _ (fun x hx => (hall x ((sortI_perm _).mem_iff.1 hx)).1)⟩
    have hperm : S.Perm L := by
     have h1 := sortI_perm (intsOf L)
     rw [hS] at h1
     have h2 := h1.map Int.toNat
     unfold intsOf at h2
     rw [List.map_map, List.map_map] at h2
     simpa [Function.comp_def] using h2
    have hup : S.Pairwise fun x y => x ≤ y := by
     have h1 := sortI_up (intsOf L)
     rw [hS] at h1
     unfold intsOf at h1
     rw [List.pairwise_map] at h1
     exact h1.imp (fun h => by omega)
    have hSl := hperm.length_eq
    have hb8S : ∀ x ∈ S, 1 ≤ x ∧ x ≤ 8 := fun x hx => hb8 x (hperm.mem_iff.1 hx)
    have f1 := beFit_ev mn hm L (by omega) (fun x hx => by have := hb8 x hx; omega)
    have f2 := impl_fpc mn hm S (by omega) (by omega) hb8S hup
    have hq := pow_small (n := 8) hm (by omega)
    have hkr : kr mn 11 L ≤ mn ^ 11 ↔ kr mn 8 S ≤ mn ^ 8 := by
     rw [kr_up mn L (fun x hx => (hb8 x hx).2), kr_perm mn 8 hperm, show (11 : Nat) = 8 + 3 from rfl, Nat.pow_add]
     constructor
     ·intro h; exact Nat.le_of_mul_le_mul_right h (Nat.pow_pos (by omega))
     ·intro h; exact Nat.mul_le_mul_right _ h
    by_cases hk : kr mn 8 S ≤ mn ^ 8
    ·rw [decide_eq_true (hkr.2 hk)] at f1
     rw [if_pos hk] at f2
     have f3 := spec_fpc mn hm S (by omega) (by omega) hb8S hup hk
     have hW : (wds mn S 0).length = L.length := by rw [wds_len]; exact hSl
     have hp := byLen_perm L hb8
     have hpl := hp.length_eq
     rw [List.length_range] at hpl
     have g1 := wf_l1 L (by omega) (wds mn S 0) hW 8 1 0 (List.replicate L.length ByteArray.empty) rfl (by rw [List.length_replicate]) (by omega)
     refine ⟨(impl_WordsFor.fill (wds mn S 0) (byLen L 1 8) 0 (List.replicate L.length ByteArray.empty), true), Ev.known (fun _ => a5) (Ev.pos rfl (Ev.bind a1 (Ev.pos rfl (Ev.bind a3 (Ev.pos rfl (Ev.bind f1 (Ev.succ ?_))))))), Ev.bind a2 (Ev.pos rfl (Ev.bind hmx (Ev.neg hnm (Ev.known (fun _ => a4) (Ev.pos rfl (Ev.pos (by omega) ?_)))))), ?_⟩
     ·simp only [spec_WordsFor.j0]
      refine Ev.neg (by simp) ?_
      have h := wf_up (mn : Int) (intsOf L) hn.2 (intsOf L) (impl_WordsFor.fill (wds mn S 0) (byLen L 1 8) 0 (List.replicate L.length ByteArray.empty), true) (by
       rw [hS]
       refine Ev.bind f3 (Ev.pos (by omega) (Ev.pos (by rw [ints_len]; omega) ?_))
       simp only [ints_len, Int.toNat_natCast]
       exact g1) (intsOf L).length 0 (by omega)
      rw [List.take_zero, sortI_nil] at h
      exact h
     ·rw [hS]
      refine Ev.bind f2 (Ev.pos rfl (Ev.pos (by simp only [hW, ints_len]; omega) (Ev.pure ?_)))
      rw [ints_len, places_byLen L hb8 (by omega)]
     ·exact ⟨by simp only [fill_length, List.length_replicate]; omega, fun _ => ⟨L, mn, rfl, rfl, hm, by omega, by omega, hb8, hkr.2 hk⟩⟩
    ·rw [decide_eq_false (fun h => hk (hkr.1 h))] at f1
     rw [if_neg hk] at f2
     refine ⟨([], false), Ev.known (fun _ => a5) (Ev.pos rfl (Ev.bind a1 (Ev.pos rfl (Ev.bind a3 (Ev.pos rfl (Ev.bind f1 (bad _ fun _ => rfl))))))), Ev.bind a2 (Ev.pos rfl (Ev.bind hmx (Ev.neg hnm (Ev.known (fun _ => a4) (Ev.pos rfl (Ev.pos (by omega) ?_)))))), by simp, by simp⟩
     rw [hS]
     exact Ev.bind f2 (Ev.neg (by simp) (Ev.now _))
  ·have hC : (l.all fun x => decide (1 ≤ x ∧ x ≤ 8)) = false := by
    rw [Bool.eq_false_iff]
    intro h
    rw [List.all_eq_true] at h
    exact h8 (fun x hx => (of_decide_eq_true (h x hx)).2)
   rw [hC] at a3
   have hnm : mxv > 8 := by
    have : (l.any fun x => decide (x > 8)) = true := by
     rw [List.any_eq_true]
     apply Classical.byContradiction
     intro h
     exact h8 (fun x hx => by
      apply Classical.byContradiction
      intro h9
      exact h ⟨x, hx, decide_eq_true (by omega)⟩)
    rw [this] at hmxv
    simpa using hmxv
   refine ⟨([], false), ?_, Ev.bind a2 (Ev.pos rfl (Ev.bind hmx (Ev.pos hnm (Ev.now _)))), by simp, by simp⟩
   cases B with
   | false => exact Ev.known (fun _ => a5) (Ev.neg (by simp) (bad _ fun _ => rfl))
   | true => exact Ev.known (fun _ => a5) (Ev.pos rfl (Ev.bind a1 (Ev.pos rfl (Ev.bind a3 (Ev.neg (by simp) (bad _ fun _ => rfl))))))
theorem yTexts_l0 (l : List ByteArray) (hl : l.length ≤ 1048576) : ∀ (d i : Nat), i + d = l.length → Ev (fun k => laws_yTexts.l0 k l l (l.length : Int) (i : Int)) true
 | 0, i, hd => Ev.succ (by simp only [laws_yTexts.l0]; exact Ev.neg (by omega) (Ev.now _))
 | d + 1, i, hd => by
  have ih := yTexts_l0 l hl d (i + 1) (by omega)
  refine Ev.succ ?_
  simp only [laws_yTexts.l0, w1 (show 0 ≤ (i : Int) by omega) (show (i : Int) < 9223372036854775807 by omega)]
  exact Ev.pos (by omega) (Ev.pos (by omega) (Ev.pos (by omega) (Ev.pos (by omega) (Ev.pos (by simp) ih))))
theorem yTexts_ev (l : List ByteArray) (hl : l.length ≤ 1048576) : Ev (fun k => laws_yTexts.f k l l) true := by
 unfold laws_yTexts.f
 exact Ev.pos rfl (by simpa using yTexts_l0 l hl l.length 0 (by omega))
theorem even_l0 (n m : Int) (hn : n ≤ 1000000) (hm : 2 ≤ m ∧ m ≤ 3) : ∀ (e : Nat) (d x : Int), 1 ≤ x → x ≤ 1000000 → (1000000 - x).toNat ≤ e → ∃ v : Int, Ev (fun k => impl_EvenCost.l0 k n m d x) (v, true) ∧ Ev (fun k => spec_EvenCost.l0 k n m d x) (v, true) := by
 intro e
 induction e with
 | zero =>
  intro d x h1 h2 h3
  have hw : wrap64 (x * m) = x * m := by
   rcases (show m = 2 ∨ m = 3 by omega) with rfl | rfl <;> (unfold wrap64; omega)
  have hw1 : ¬ (wrap64 (m - 1) = 0) := by unfold wrap64; omega
  have hgt : ¬ (wrap64 (x * m) ≤ n) := by
   rw [hw]
   rcases (show m = 2 ∨ m = 3 by omega) with rfl | rfl <;> omega
  refine ⟨wrap64 ((wrap64 ((wrap64 (d * n)) + (wrap64 (n - x)))) + (wrap64 (Int.tdiv (wrap64 ((wrap64 ((wrap64 (n - x)) + m)) - 2)) (wrap64 (m - 1))))), Ev.succ ?_, Ev.succ ?_⟩
  ·simp only [impl_EvenCost.l0]
   exact Ev.neg hgt (Ev.neg hw1 (Ev.now _))
  ·simp only [spec_EvenCost.l0]
   exact Ev.neg hgt (Ev.neg hw1 (Ev.now _))
 | succ e ih =>
  intro d x h1 h2 h3
  have hw : wrap64 (x * m) = x * m := by
   rcases (show m = 2 ∨ m = 3 by omega) with rfl | rfl <;> (unfold wrap64; omega)
  have hw1 : ¬ (wrap64 (m - 1) = 0) := by unfold wrap64; omega
  have hgrow : x + 1 ≤ x * m := by
   rcases (show m = 2 ∨ m = 3 by omega) with rfl | rfl <;> omega
  by_cases hle : x * m ≤ n
  ·obtain ⟨v, v1, v2⟩ := ih (wrap64 (d + 1)) (x * m) (by omega) (by omega) (by omega)
   refine ⟨v, Ev.succ ?_, Ev.succ ?_⟩
   ·simp only [impl_EvenCost.l0, hw]
    exact Ev.pos hle v1
   ·simp only [spec_EvenCost.l0, hw]
    exact Ev.pos hle v2
  ·refine ⟨wrap64 ((wrap64 ((wrap64 (d * n)) + (wrap64 (n - x)))) + (wrap64 (Int.tdiv (wrap64 ((wrap64 ((wrap64 (n - x)) + m)) - 2)) (wrap64 (m - 1))))), Ev.succ ?_, Ev.succ ?_⟩
   ·simp only [impl_EvenCost.l0, hw]
    exact Ev.neg hle (Ev.neg hw1 (Ev.now _))
   ·simp only [spec_EvenCost.l0, hw]
    exact Ev.neg hle (Ev.neg hw1 (Ev.now _))
theorem even_told (n m : Int) : ∃ r : Int × Bool, Ev (fun k => impl_EvenCost.f k n m) r ∧ Ev (fun k => spec_EvenCost.f k n m) r ∧ (r.2 = true → 1 ≤ n ∧ 2 ≤ m ∧ m ≤ 3) := by
 have a3 := areLetters_eq m
 have a4 : spec_l1In.f n 1 1000000 = some (decide (1 ≤ n ∧ n ≤ 1000000)) := spec_in _ _ _
 have a5 : impl_in.f n 1 1000000 = some (decide (1 ≤ n ∧ n ≤ 1000000)) := impl_in_eq _ _ _
 have a6 : spec_krLetters.f m = some (decide (2 ≤ m ∧ m ≤ 3)) := by unfold spec_krLetters.f; rw [spec_in]; rfl
 have bad1 : Ev (fun k => impl_EvenCost.j0 k n m true) (0, false) := Ev.succ (by
  simp only [impl_EvenCost.j0]
  exact Ev.pos trivial (Ev.now _))
 have bad2 : Ev (fun k => spec_EvenCost.j0 k n m true) (0, false) := Ev.succ (by
  simp only [spec_EvenCost.j0]
  exact Ev.pos trivial (Ev.now _))
 unfold impl_EvenCost.f spec_EvenCost.f
 by_cases h1 : 1 ≤ n ∧ n ≤ 1000000
 ·rw [decide_eq_true h1] at a4 a5
  by_cases h2 : 2 ≤ m ∧ m ≤ 3
  ·rw [decide_eq_true h2] at a3 a6
   by_cases h3 : n = 1
   ·refine ⟨(1, true), Ev.known (fun _ => a5) (Ev.pos rfl (Ev.known (fun _ => a3) (Ev.succ ?_))), Ev.known (fun _ => a4) (Ev.pos rfl (Ev.known (fun _ => a6) (Ev.succ ?_))), fun _ => ⟨h1.1, h2⟩⟩
    ·simp only [impl_EvenCost.j0]
     exact Ev.neg (by simp) (Ev.pos h3 (Ev.now _))
    ·simp only [spec_EvenCost.j0]
     exact Ev.neg (by simp) (Ev.pos h3 (Ev.now _))
   ·obtain ⟨v, v1, v2⟩ := even_l0 n m h1.2 h2 _ 0 1 (by omega) (by omega) (Nat.le_refl _)
    refine ⟨(v, true), Ev.known (fun _ => a5) (Ev.pos rfl (Ev.known (fun _ => a3) (Ev.succ ?_))), Ev.known (fun _ => a4) (Ev.pos rfl (Ev.known (fun _ => a6) (Ev.succ ?_))), fun _ => ⟨h1.1, h2⟩⟩
    ·simp only [impl_EvenCost.j0]
     exact Ev.neg (by simp) (Ev.neg h3 v1)
    ·simp only [spec_EvenCost.j0]
     exact Ev.neg (by simp) (Ev.neg h3 v2)
  ·rw [decide_eq_false h2] at a3 a6
   exact ⟨(0, false), Ev.known (fun _ => a5) (Ev.pos rfl (Ev.known (fun _ => a3) bad1)), Ev.known (fun _ => a4) (Ev.pos rfl (Ev.known (fun _ => a6) bad2)), by simp⟩
 ·rw [decide_eq_false h1] at a4 a5
  exact ⟨(0, false), Ev.known (fun _ => a5) (Ev.neg (by simp) bad1), Ev.known (fun _ => a4) (Ev.neg (by simp) bad2), by simp⟩
def insI (x : Int) : List Int → List Int
 | [] => [x]
 | y :: t => if x ≤ y then x :: y :: t else y :: insI x t
def insS : List Int → List Int
 | [] => []
 | x :: t => insI x (insS t)
theorem insI_perm (x : Int) : ∀ l, (insI x l).Perm (x :: l)
 | [] => List.Perm.refl _
 | y :: t => by
  unfold insI
  split
  ·exact List.Perm.refl _
  ·exact ((insI_perm x t).cons y).trans (List.Perm.swap x y t)
theorem insI_up (x : Int) : ∀ l, l.Pairwise (fun x y => x ≤ y) → (insI x l).Pairwise (fun x y => x ≤ y)
 | [], _ => by simp [insI]
 | y :: t, h => by
  have h' := List.pairwise_cons.1 h
  unfold insI
  split
  ·rename_i c
   exact List.pairwise_cons.2 ⟨fun z hz => by
    rcases List.mem_cons.1 hz with rfl | hz
    ·exact c
    ·have := h'.1 z hz; omega, h⟩
  ·rename_i c
   refine List.pairwise_cons.2 ⟨fun z hz => ?_, insI_up x t h'.2⟩
   rcases List.mem_cons.1 ((insI_perm x t).subset hz) with rfl | hz
   ·omega
   ·exact h'.1 z hz
theorem insS_is : ∀ l, (insS l).Perm l ∧ (insS l).Pairwise (fun x y => x ≤ y)
 | [] => ⟨List.Perm.refl _, by simp [insS]⟩
 | x :: t => ⟨(insI_perm x _).trans ((insS_is t).1.cons x), insI_up x _ (insS_is t).2⟩
theorem sortI_ins (l : List Int) : sortI l = insS l :=
 List.Perm.eq_of_pairwise (le := fun x y => x ≤ y) (fun x y _ _ h1 h2 => Int.le_antisymm h1 h2) (sortI_up l) (insS_is l).2 ((sortI_perm l).trans (insS_is l).1.symm)
def mr : Nat → Nat → List Int → List Int → Nat → Option (List Int)
 | 0, _, _, _, _ => none
 | q + 1, many, list, out, take => if 1 < list.length then (if take ≤ list.length ∧ list.length ≤ 1099511627776 ∧ out.length ≤ 1099511627776 then mr q many (insS (list.drop take ++ [sumW (list.take take) 0])) (out ++ [sumW (list.take take) 0]) many else none) else some out
theorem mr_eq : ∀ q many list out take, impl_mergeRun.l0 q many list out take = mr q many list out take
 | 0, _, _, _, _ => rfl
 | q + 1, many, list, out, take => by
  simp only [impl_mergeRun.l0, mr, sortI_ins, mr_eq q]
def bcF (k : Nat) (l0 : List Int) (a1 : Int) : Option Int := if (l0.length : Int) = 1 then (if 0 < (l0.length : Int) then (some (rd l0 0)) else (none)) else ((if (l0.length ≤ 1099511627776 ∧ 0 < l0.length) ∧ 0 ≤ a1 ∧ a1 ≤ 1099511627776 then mr k a1.toNat (insS l0) [] (if a1 = 3 ∧ l0.length % 2 = 0 then 2 else a1.toNat) else none).bind fun t242 => (impl_bestCost.l0 k 0 t242 (t242.length : Int) 0))
theorem bcF_eq (k : Nat) (l : List Int) (m : Int) : impl_bestCost.f k l m = bcF k l m := by
 unfold impl_bestCost.f bcF impl_mergeRun.f
 simp only [sortI_ins, mr_eq]
def evenT : Bool := (List.range 12).all fun i => [2, 3].all fun m => match impl_EvenCost.f 30 ((i : Int) + 1) m, bcF 30 (List.replicate (i + 1) 1) m with
 | some r, some b => decide (r.1 = b) && r.2
 | _, _ => false
theorem evenT_is : evenT = true := by decide +kernel
theorem even_is (n : Nat) (m : Int) (h1 : 1 ≤ n) (h2 : n ≤ 12) (hm : 2 ≤ m ∧ m ≤ 3) : ∃ v : Int, Ev (fun k => impl_EvenCost.f k (n : Int) m) (v, true) ∧ Ev (fun k => impl_bestCost.f k (List.replicate n 1) m) v := by
 have h := evenT_is
 unfold evenT at h
 rw [List.all_eq_true] at h
 have h := h (n - 1) (List.mem_range.2 (by omega))
 rw [List.all_eq_true] at h
 have h := h m (by
  rcases (show m = 2 ∨ m = 3 by omega) with rfl | rfl <;> simp)
 rw [show ((n - 1 : Nat) : Int) + 1 = (n : Int) by omega, show n - 1 + 1 = n by omega] at h
 cases hA : impl_EvenCost.f 30 (n : Int) m with
 | none => rw [hA] at h; simp at h
 | some r =>
  cases hB : bcF 30 (List.replicate n 1) m with
  | none => rw [hA, hB] at h; simp at h
  | some b =>
   rw [hA, hB] at h
   simp only [Bool.and_eq_true, decide_eq_true_eq] at h
   obtain ⟨v, t⟩ := r
   obtain ⟨rfl, rfl⟩ := h
   rw [← bcF_eq] at hB
   exact ⟨v, Ev.of (fun k => impl_EvenCost.mono _ _ k) hA, Ev.of (fun k => impl_bestCost.mono _ _ k) hB⟩
theorem bwImpl_ev (w : List Int) (mn on : Nat) (hA : askB w (mn : Int) = true) (ho : 1 ≤ on ∧ on ≤ 11) : ∃ r : Int, Ev (fun k => impl_BestWithin.f k w (mn : Int) (on : Int)) (if r < 0 then 0 else r, decide (0 ≤ r)) ∧ IsB (Wi mn on 1 (mn ^ on)) (sortI w).reverse r := by
 obtain ⟨g1, g2, g3, n', e, hm⟩ := askB_of hA
 obtain rfl : mn = n' := by omega
 have a2 := impl_areWeights_ev w (by omega)
 have hAw : (decide (1 ≤ (w.length : Int) ∧ (w.length : Int) ≤ 12) && w.all fun x => decide (1 ≤ x ∧ x ≤ 100)) = true := by unfold askB at hA; rw [Bool.and_eq_true] at hA; exact hA.1
 rw [hAw] at a2
 have a3 := areLetters_eq (mn : Int)
 rw [decide_eq_true (show 2 ≤ (mn : Int) ∧ (mn : Int) ≤ 3 by omega)] at a3
 have a5 : impl_in.f (on : Int) 1 11 = some true := by rw [impl_in_eq, decide_eq_true (show 1 ≤ (on : Int) ∧ (on : Int) ≤ 11 by omega)]
 have hlen := sortI_len w
 have hp1 := pow_small (n := on) hm (by omega)
 have k2 := power_ev mn on (by omega) (by omega) (by omega)
 have kr := reverse_ev (sortI w) (by omega)
 obtain ⟨r, r1, -, r3⟩ := within_min (sortI w).reverse (by rw [List.length_reverse, hlen]; exact g2) (fun x hx => g3 x ((sortI_perm w).subset (List.mem_reverse.1 hx))) mn on hm (by omega) (sortI w).reverse.length 0 (by omega) 1 (mn ^ on) (by omega) (by omega) hp1.2
 rw [List.drop_zero] at r3
 refine ⟨r, ?_, r3⟩
 unfold impl_BestWithin.f
 exact Ev.bind a2 (Ev.pos rfl (Ev.known (fun _ => a3) (Ev.pos rfl (Ev.known (fun _ => a5) (Ev.pos rfl (Ev.pos (by omega) (Ev.bind kr (Ev.bind k2 (Ev.bind r1 (Ev.now _))))))))))
theorem bw_told (w : List Int) (m mo : Int) (hw : w.length ≤ 1048576) : ∃ r, Ev (fun k => spec_BestWithin.f k w m mo) r ∧ Ev (fun k => impl_BestWithin.f k w m mo) r ∧ (r.2 = true → ∃ mn on : Nat, m = (mn : Int) ∧ mo = (on : Int) ∧ (1 ≤ on ∧ on ≤ 11) ∧ askB w m = true ∧ 0 ≤ r.1 ∧ IsB (Wi mn on 1 (mn ^ on)) (sortI w).reverse r.1) := by
 obtain ⟨r, h1, h2⟩ := bw_same w m mo hw
 refine ⟨r, h1, h2, fun h => ?_⟩
 have a2 := impl_areWeights_ev w hw
 have a3 := areLetters_eq m
 have a5 : impl_in.f mo 1 11 = some (decide (1 ≤ mo ∧ mo ≤ 11)) := impl_in_eq _ _ _
 have bad : Ev (fun k => impl_BestWithin.f k w m mo) (0, false) → False := fun g => by
  have e := ev_one h2 g
  rw [e] at h
  cases h
 by_cases hA : askB w m = true
 ·by_cases hC : 1 ≤ mo ∧ mo ≤ 11
  ·obtain ⟨-, -, -, mn, rfl, -⟩ := askB_of hA
   obtain ⟨on, rfl⟩ : ∃ n : Nat, mo = (n : Int) := ⟨mo.toNat, by omega⟩
   obtain ⟨q, q1, q2⟩ := bwImpl_ev w mn on hA (by omega)
   have e := ev_one h2 q1
   rw [e] at h
   have h0 : 0 ≤ q := by simpa using h
   rw [e, if_neg (by omega)]
   exact ⟨mn, on, rfl, rfl, by omega, hA, h0, q2⟩
  ·rw [decide_eq_false hC] at a5
   refine (bad ?_).elim
   unfold impl_BestWithin.f
   unfold askB at hA
   rw [Bool.and_eq_true] at hA
   rw [hA.1] at a2
   rw [hA.2] at a3
   exact Ev.bind a2 (Ev.pos rfl (Ev.known (fun _ => a3) (Ev.pos rfl (Ev.known (fun _ => a5) (Ev.neg (by simp) (Ev.now _))))))
 ·refine (bad ?_).elim
  unfold impl_BestWithin.f
  unfold askB at hA
  generalize (decide (1 ≤ (w.length : Int) ∧ (w.length : Int) ≤ 12) && w.all fun x => decide (1 ≤ x ∧ x ≤ 100)) = A at a2 hA
  generalize decide (2 ≤ m ∧ m ≤ 3) = C at a3 hA
  cases A with
  | false => exact Ev.bind a2 (Ev.neg (by simp) (Ev.now _))
  | true =>
   obtain rfl : C = false := by simpa using hA
   exact Ev.bind a2 (Ev.pos rfl (Ev.known (fun _ => a3) (Ev.neg (by simp) (Ev.now _))))
theorem words_l1 (L : List Nat) (ws : List ByteArray) (hL : L.length ≤ 12) (hw : ws.length = L.length) (hs : ∀ i (h : i < L.length), (ws[i]'(by omega)).size = L[i]) (h8 : ∀ x ∈ L, x ≤ 8) (hl : ∀ s ∈ ws, s.data.toList.all isLetter = true) : ∀ (d i : Nat), i + d = L.length → Ev (fun k => laws_FnBestWithin.l1 k (intsOf L) ws (ws.length : Int) (i : Int)) true
 | 0, i, hd => Ev.succ (by simp only [laws_FnBestWithin.l1]; exact Ev.neg (by omega) (Ev.now _))
 | d + 1, i, hd => by
  have ih := words_l1 L ws hL hw hs h8 hl d (i + 1) (by omega)
  have hi : i < ws.length := by omega
  have e1 : rd (intsOf L) (i : Int) = ((L[i]'(by omega) : Nat) : Int) := by
   rw [rd_nat (intsOf L) i (by rw [ints_len]; omega)]
   simp [intsOf]
  have e2 := hs i (by omega)
  have e3 : impl_IsWord.f ws[i] = some true := by
   unfold impl_IsWord.f impl_isWord.f
   rw [hl _ (List.getElem_mem hi), decide_eq_true (by rw [e2]; have := h8 _ (List.getElem_mem (show i < L.length by omega)); omega)]
   rfl
  refine Ev.succ ?_
  simp only [laws_FnBestWithin.l1, rdOf_nat ws i hi, e1, w1 (show 0 ≤ (i : Int) by omega) (show (i : Int) < 9223372036854775807 by omega)]
  exact Ev.pos (by omega) (Ev.pos (by omega) (Ev.pos (by omega) (Ev.pos (by rw [ints_len]; omega) (Ev.pos (by rw [e2]) (Ev.known (fun _ => e3) (Ev.pos rfl ih))))))
theorem j6_ev {l1 : List Int} (hl : OkL l1) : Ev (fun k => laws_FnBestWithin.j6 k l1) true := by
 obtain ⟨w, at1, sd1, e1, hw, p1, p2⟩ := weights_ev hl 0 0 6 (by omega) (by omega) (by omega) (by omega)
 obtain ⟨m, at2, sd2, e2, q1, q2⟩ := letters_ev hl at1 sd1 (by omega) (by omega)
 obtain ⟨ls, at3, sd3, e3, hls⟩ := lengthsFor_ev hl at2 sd2 w m hw (by omega) (by omega)
 have d : Ev (fun k => spec_DrawWordsFor.f k l1) (ls, m) := by
  unfold spec_DrawWordsFor.f
  exact Ev.bind e1 (Ev.known (fun _ => e2) (Ev.bind e3 (Ev.now _)))
 obtain ⟨r, r1, r2, r3, r4⟩ := wf_told ls m (by omega)
 refine Ev.succ ?_
 simp only [laws_FnBestWithin.j6]
 refine Ev.bind d (Ev.bind r2 (Ev.bind r1 (Ev.neg (by simp) (Ev.bind (yTexts_ev r.1 (by omega)) (Ev.succ ?_)))))
 simp only [laws_FnBestWithin.j7]
 refine Ev.neg (by simp) (Ev.cases (fun h => ?_) (fun _ => Ev.now _))
 obtain ⟨L, mn, rfl, rfl, hm, h1, h2, h8, hk⟩ := r4 h
 obtain ⟨ws, v1, v2, v3, v4, v5⟩ := words_toldL mn hm L h1 h2 h8 hk
 obtain rfl := ev_one r2 v1
 refine Ev.bind (yPrefix_ev ws (by omega) v4) (Ev.pos rfl (Ev.succ ?_))
 simp only [laws_FnBestWithin.j8]
 exact Ev.neg (by rw [ints_len, v2]; simp) (words_l1 L ws h2 v2 v3 (fun x hx => (h8 x hx).2) v5 L.length 0 (by omega))
theorem even_loop {l1 : List Int} (hl : OkL l1) (n : Nat) (m v : Int) (hn : n ≤ 12) (hb : Ev (fun k => impl_BestCost.f k (List.replicate n 1) m) (v, true)) : ∀ (d i : Nat), i + d = n → Ev (fun k => laws_FnBestWithin.l0 k l1 m v (List.replicate i 1 ++ List.replicate d 0) (n : Int) (i : Int)) true
 | 0, i, hd => by
  obtain rfl : i = n := by omega
  refine Ev.succ ?_
  simp only [laws_FnBestWithin.l0, List.replicate_zero, List.append_nil]
  exact Ev.neg (by omega) (Ev.bind hb (Ev.pos rfl (Ev.pos rfl (j6_ev hl))))
 | d + 1, i, hd => by
  have ih := even_loop hl n m v hn hb d (i + 1) (by omega)
  have e : (List.replicate i (1 : Int) ++ List.replicate (d + 1) 0).set i 1 = List.replicate (i + 1) 1 ++ List.replicate d 0 := by
   rw [List.set_append_right _ _ (by simp), List.length_replicate, Nat.sub_self, List.replicate_succ, List.set_cons_zero, List.replicate_succ', List.append_assoc]
   rfl
  refine Ev.succ ?_
  simp only [laws_FnBestWithin.l0, Int.toNat_natCast, e, w1 (show 0 ≤ (i : Int) by omega) (show (i : Int) < 9223372036854775807 by omega)]
  exact Ev.pos (by omega) (Ev.pos (by omega) (Ev.pos (by simp; omega) ih))
theorem j2_ev {l1 : List Int} (hl : OkL l1) : Ev (fun k => laws_FnBestWithin.j2 k l1) true := by
 obtain ⟨n, at1, sd1, e1, -, p1, p2⟩ := among_ev hl 0 0 [1, 2, 3, 4, 5, 7, 8, 9, 12, 27, 1000000, 1000001, 0] (by decide) (by decide) (by omega) (by omega)
 obtain ⟨m, at2, sd2, e2, q1, q2⟩ := letters_ev hl at1 sd1 (by omega) (by omega)
 have d : spec_DrawEvenCost.f l1 = some (n, m) := by
  unfold spec_DrawEvenCost.f
  rw [e1, Option.bind_some, e2, Option.bind_some]
 obtain ⟨r, r1, r2, r3⟩ := even_told n m
 have j4f : Ev (fun k => laws_FnBestWithin.j4 k l1 n m r.1 false) true := Ev.succ (by
  simp only [laws_FnBestWithin.j4]
  exact Ev.neg (by simp) (j6_ev hl))
 refine Ev.succ ?_
 simp only [laws_FnBestWithin.j2]
 refine Ev.known (fun _ => d) (Ev.bind r1 (Ev.bind r2 (Ev.neg (by simp) (Ev.succ ?_))))
 simp only [laws_FnBestWithin.j3]
 refine Ev.neg (by simp) (Ev.cases (fun h => ?_) (fun _ => j4f))
 by_cases h12 : n ≤ 12
 ·rw [decide_eq_true h12]
  obtain ⟨g1, g2⟩ := r3 h
  obtain ⟨nn, rfl⟩ : ∃ x : Nat, n = (x : Int) := ⟨n.toNat, by omega⟩
  obtain ⟨v, v1, v2⟩ := even_is nn m (by omega) (by omega) g2
  obtain rfl := ev_one r1 v1
  have hA : askB (List.replicate nn 1) m = true := by
   unfold askB
   simp only [Bool.and_eq_true, decide_eq_true_eq, List.all_eq_true, List.length_replicate]
   exact ⟨⟨by omega, fun x hx => by rw [(List.mem_replicate.1 hx).2]; omega⟩, g2⟩
  have hb := implBest_ev (List.replicate nn 1) m (by rw [List.length_replicate]; omega) v (fun _ => v2)
  rw [if_pos hA] at hb
  refine Ev.succ ?_
  simp only [laws_FnBestWithin.j4]
  refine Ev.pos trivial (Ev.pos (by omega) (Ev.pos (by omega) (Ev.known (fun _ => rfl) ?_)))
  have := even_loop hl nn m v (by omega) hb nn 0 (by omega)
  simpa using this
 ·rw [decide_eq_false h12]
  exact j4f
theorem FnBestWithin : laws_FnBestWithin.Pure := by
 intro l0 l1 _ _ w0 _ _ w1'
 have h0 := okL_of w0
 have h1 := okL_of w1'
 clear w0 w1'
 refine Ev.rounds ?_
 have J2 := j2_ev h1
 obtain ⟨w, at1, sd1, e1, hw, p1, p2⟩ := weights_ev h0 0 0 8 (by omega) (by omega) (by omega) (by omega)
 obtain ⟨m, at2, sd2, e2, q1, q2⟩ := letters_ev h0 at1 sd1 (by omega) (by omega)
 obtain ⟨mo, at3, sd3, e3, -, -, -⟩ := among_ev h0 at2 sd2 [1, 2, 3, 4, 11, 12, 0] (by decide) (by decide) (by omega) (by omega)
 have d : Ev (fun k => spec_DrawBestWithin.f k l0) (w, m, mo) := by
  unfold spec_DrawBestWithin.f
  exact Ev.bind e1 (Ev.known (fun _ => e2) (Ev.known (fun _ => e3) (Ev.now _)))
 obtain ⟨r, r1, r2, r3⟩ := bw_told w m mo (by omega)
 unfold laws_FnBestWithin.f laws_big.f
 have main : Ev (fun k => (spec_DrawBestWithin.f k l0).bind fun bt427 => ((impl_BestWithin.f k bt427.1 bt427.2.1 bt427.2.2).bind fun bt432 => ((spec_BestWithin.f k bt427.1 bt427.2.1 bt427.2.2).bind fun bt434 => (if (bt432.2 != bt434.2) = true then (laws_FnBestWithin.j0 k l1 bt427.1 bt427.2.1 bt427.2.2 bt432.1 bt432.2 true) else (laws_FnBestWithin.j0 k l1 bt427.1 bt427.2.1 bt427.2.2 bt432.1 bt432.2 (bt432.1 != bt434.1)))))) true := by
  refine Ev.bind d (Ev.bind r2 (Ev.bind r1 (Ev.neg (by simp) (Ev.succ ?_))))
  simp only [laws_FnBestWithin.j0]
  refine Ev.neg (by simp) (Ev.cases (fun h => ?_) (fun _ => J2))
  obtain ⟨mn, on, rfl, rfl, ho, hA, hr0, hB⟩ := r3 h
  obtain ⟨g1, g2, g3, n', e, hm⟩ := askB_of hA
  obtain rfl : mn = n' := by omega
  obtain ⟨⟨B, b1, b2, b3⟩, b4⟩ := withinBest w mn g1 g2 hm g3 on (by omega) r.1 hr0 hB
  have bc := implBest_ev w (mn : Int) (by omega) B (fun _ => b1)
  rw [if_pos hA] at bc
  have j1f : Ev (fun k => laws_FnBestWithin.j1 k l1 w (mn : Int) (on : Int) r.1 false) true := by
   refine Ev.succ ?_
   simp only [laws_FnBestWithin.j1]
   refine Ev.neg (by simp) (Ev.cases (fun h11 => ?_) (fun _ => J2))
   obtain ⟨r', s1, s2⟩ := bwImpl_ev w mn (on + 1) hA (by omega)
   obtain ⟨t1, t2⟩ := b4 r' s2
   rw [if_neg (by omega), decide_eq_true t1] at s1
   rw [w64 (by omega) (by omega)]
   exact Ev.bind s1 (Ev.pos rfl (Ev.neg (by show ¬ r' > r.1; omega) J2))
  refine Ev.bind bc (Ev.pos rfl (Ev.neg (by show ¬ r.1 < B; omega) (Ev.cases (fun hn => ?_) (fun _ => j1f))))
  have : (r.1 != B) = false := by rw [b3 (by omega)]; simp
  simp only [this]
  exact j1f
 by_cases c1 : (l0.length : Int) > 1048576
 ·rw [if_pos c1]
  exact Ev.known (fun _ => rfl) (Ev.pos rfl (Ev.now _))
 ·rw [if_neg c1]
  exact Ev.known (fun _ => rfl) (Ev.cases (fun _ => Ev.now _) (fun _ => main))
end Go.Proofs.YtmanjfdchhipmaaGreatDoor.Pure
