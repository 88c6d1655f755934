/- WordsFor of the program and of the reference answer alike for all arguments, and leave them as they were: no condition. -/
import Derived.Test.YtklakacicmghiaaXFnExactWordsForx7
namespace Go.Proofs.Ytklakacicmghiaa.Pure
set_option linter.unusedSimpArgs false
set_option linter.unusedVariables false
open Go.RowKit Go.Proofs.Ytklakacicmghiaa.Hand Go.Proofs.Ytklakacicmghiaa.XFnExactWordsFor Go.Proofs.YtklakacicmghiaaW.PrintWords Go.Proofs.YtklakacicmghiaaW.PrintLast Go.Proofs.YtklakacicmghiaaW.PrintMore

theorem w1 {i : Int} (h0 : 0 ≤ i) (h : i < 9223372036854775807) : wrap64 (i + 1) = i + 1 := by unfold wrap64; omega
theorem w64 {i : Int} (h0 : -9223372036854775808 ≤ i) (h : i < 9223372036854775808) : wrap64 i = i := by unfold wrap64; omega
theorem rd_nat (l : List Int) (i : Nat) (h : i < l.length) : rd l (i : Int) = l[i] := by
  unfold rd; simp [List.getD_eq_getElem?_getD, h]
theorem Ev.pos {α : Type} {c : Prop} [Decidable c] {g g' : Nat → Option α} {r : α} (h : c) (k : Ev g r) : Ev (fun n => if c then g n else g' n) r :=
  Ev.congr (fun n => if_pos h) k
theorem Ev.neg {α : Type} {c : Prop} [Decidable c] {g g' : Nat → Option α} {r : α} (h : ¬ c) (k : Ev g' r) : Ev (fun n => if c then g n else g' n) r :=
  Ev.congr (fun n => if_neg h) k
theorem Ev.cases {α : Type} {c : Prop} [Decidable c] {g g' : Nat → Option α} {r : α} (h : c → Ev g r) (k : ¬ c → Ev g' r) : Ev (fun n => if c then g n else g' n) r := by
  by_cases e : c
  · exact Ev.pos e (h e)
  · exact Ev.neg e (k e)
/-- a call whose answer is known at every number of rounds -/
theorem Ev.known {α β : Type} {g : Nat → Option α} {f : Nat → α → Option β} {a : α} {r : β} (h : ∀ n, g n = some a) (k : Ev (fun n => f n a) r) : Ev (fun n => (g n).bind (f n)) r :=
  Ev.bind ⟨0, fun n _ => h n⟩ k
/-- one bind of two, joined with what follows -/
theorem Ev.pure {α : Type} {r q : α} (h : r = q) : Ev (fun _ => some r) q := h ▸ Ev.now r
theorem Ev.succ {α : Type} {g : Nat → Option α} {r : α} (h : Ev (fun k => g (k + 1)) r) : Ev g r := Ev.step (f := fun k => g (k + 1)) (fun _ => rfl) h

theorem rdOf_nat (l : List ByteArray) (i : Nat) (h : i < l.length) : rdOf ByteArray.empty l (i : Int) = l[i] := by
  unfold rdOf; simp [List.getD_eq_getElem?_getD, h]

/-- before: by the lengths, then by the places -/
def plLt (l : List Int) (x y : Nat) : Bool := decide (l.getD x 0 < l.getD y 0 ∨ (l.getD x 0 = l.getD y 0 ∧ x < y))
def finLt {n : Nat} (l : List Int) (x y : Fin (n + 1)) : Bool := plLt l x.val y.val
theorem plLt_anti (l : List Int) (x y : Nat) (h1 : plLt l x y = false) (h2 : plLt l y x = false) : x = y := by
  unfold plLt at h1 h2
  rw [decide_eq_false_iff_not] at h1 h2
  omega
theorem finLt_swo {n : Nat} (l : List Int) : Go.Sort.SWO (finLt (n := n) l) where
  irrefl x := by unfold finLt plLt; rw [decide_eq_false_iff_not]; omega
  trans x y z h1 h2 := by
    unfold finLt plLt at *
    rw [decide_eq_true_eq] at *
    omega
  ntrans x y z h1 h2 := by
    unfold finLt plLt at *
    rw [decide_eq_false_iff_not] at *
    omega
theorem later_eq {n : Nat} (l : List Int) (hl : ∀ x, -1000 ≤ l.getD x 0 ∧ l.getD x 0 ≤ 1000) (x y : Fin (n + 1)) (h : y.val < x.val) : ltOf (cmpP l) x y = finLt l x y := by
  have hx := hl x.val
  have hy := hl y.val
  unfold ltOf cmpP finLt plLt
  rw [w64 (by omega) (by omega)]
  exact decide_eq_decide.2 (by omega)
theorem inner_eq {n : Nat} (l : List Int) (hl : ∀ x, -1000 ≤ l.getD x 0 ∧ l.getD x 0 ≤ 1000) : ∀ (j : Nat) (d : Array (Fin (n + 1))), j < d.size → (∀ p, p < j → (d[p]!).val < (d[j]!).val) → Go.Sort.insInner (ltOf (cmpP l)) 0 j d = Go.Sort.insInner (finLt l) 0 j d
  | 0, d, _, _ => by unfold Go.Sort.insInner; rfl
  | j + 1, d, hj, h => by
    unfold Go.Sort.insInner
    rw [later_eq l hl _ _ (h j (by omega))]
    split
    · refine inner_eq l hl j _ (by rw [Go.Sort.swp_size]; omega) (fun p hp => ?_)
      rw [Go.Sort.swp_other d (j + 1) j p (by omega) (by omega), Go.Sort.swp_right d (j + 1) j (by omega)]
      exact h p (by omega)
    · rfl
theorem inner_all {α : Type} [Inhabited α] (lt : α → α → Bool) : ∀ (j : Nat) (d : Array α), j < d.size → (∀ p, j < p → (Go.Sort.insInner lt 0 j d)[p]! = d[p]!) ∧ ∀ Q : α → Prop, (∀ p, p ≤ j → Q d[p]!) → ∀ p, p ≤ j → Q (Go.Sort.insInner lt 0 j d)[p]!
  | 0, d, _ => by unfold Go.Sort.insInner; exact ⟨fun _ _ => rfl, fun Q h => h⟩
  | j + 1, d, hj => by
    unfold Go.Sort.insInner
    split
    · obtain ⟨h1, h2⟩ := inner_all lt j (Go.Sort.swp d (j + 1) j) (by rw [Go.Sort.swp_size]; omega)
      refine ⟨fun p hp => ?_, fun Q hQ p hp => ?_⟩
      · rw [h1 p (by omega), Go.Sort.swp_other d (j + 1) j p (by omega) (by omega)]
      · by_cases hpj : p = j + 1
        · subst hpj
          rw [h1 (j + 1) (by omega), Go.Sort.swp_left d (j + 1) j hj (by omega)]
          exact hQ j (by omega)
        · refine h2 Q (fun q hq => ?_) p (by omega)
          by_cases hqj : q = j
          · subst hqj
            rw [Go.Sort.swp_right d (q + 1) q (by omega)]
            exact hQ _ (Nat.le_refl _)
          · rw [Go.Sort.swp_other d (j + 1) j q (by omega) hqj]
            exact hQ q (by omega)
    · exact ⟨fun _ _ => rfl, fun Q h => h⟩
theorem outer_eq {n : Nat} (l : List Int) (hl : ∀ x, -1000 ≤ l.getD x 0 ∧ l.getD x 0 ≤ 1000) : ∀ (t i : Nat) (d : Array (Fin (n + 1))), d.size = n + 1 → i + t = n + 1 → (∀ p, i ≤ p → p < n + 1 → (d[p]!).val = p) → (∀ p, p < i → (d[p]!).val < i) →
    Go.Sort.insOuter (ltOf (cmpP l)) 0 (n + 1) i d = Go.Sort.insOuter (finLt l) 0 (n + 1) i d
  | 0, i, d, _, hi, _, _ => by
    rw [Go.Sort.insOuter, if_neg (by omega)]
    rw [Go.Sort.insOuter, if_neg (by omega)]
  | t + 1, i, d, hs, hi, h1, h2 => by
    have e := inner_eq l hl i d (by omega) (fun p hp => by rw [h1 i (Nat.le_refl _) (by omega)]; exact h2 p hp)
    obtain ⟨k1, k2⟩ := inner_all (finLt l) i d (by omega)
    rw [Go.Sort.insOuter, if_pos (by omega), e]
    conv => rhs; rw [Go.Sort.insOuter, if_pos (by omega)]
    refine outer_eq l hl t (i + 1) _ (by rw [insInner_size]; exact hs) (by omega) (fun p hp hp2 => ?_) (fun p hp => ?_)
    · rw [k1 p (by omega)]
      exact h1 p (by omega) hp2
    · refine k2 (fun x => x.val < i + 1) (fun q hq => ?_) p (by omega)
      by_cases hqi : q = i
      · subst hqi
        rw [h1 q (Nat.le_refl _) (by omega)]
        omega
      · have := h2 q (by omega)
        omega
theorem allP_at (n p : Nat) (hp : p < n + 1) : ((allP n)[p]!).val = p := by
  rw [getElem!_pos (allP n) p (by rw [allP_size]; exact hp)]
  simp [allP]
theorem stable_eq {n : Nat} (l : List Int) (hl : ∀ x, -1000 ≤ l.getD x 0 ∧ l.getD x 0 ≤ 1000) : stableP l (allP n) = Go.Sort.insertionSort (finLt l) (allP n) 0 (n + 1) := by
  unfold stableP Go.Sort.insertionSort
  rw [allP_size]
  refine outer_eq l hl n (0 + 1) (allP n) (allP_size n) (by omega) (fun p _ hp => allP_at n p hp) (fun p hp => ?_)
  obtain rfl : p = 0 := by omega
  rw [allP_at n 0 (by omega)]
  omega
theorem extract_all {α : Type} (d : Array α) {m : Nat} (h : d.size = m) : d.extract 0 m = d := by subst h; simp
/-- the places, by their lengths, then by themselves: sorted, and all of them -/
theorem places_sorted (n : Nat) (l : List Int) (hl : ∀ x, -1000 ≤ l.getD x 0 ∧ l.getD x 0 ≤ 1000) : (impl_WordsFor.places l n).Pairwise (fun x y => plLt l y x = false) ∧ (impl_WordsFor.places l n).Perm (List.range (n + 1)) := by
  unfold impl_WordsFor.places
  rw [stable_eq l hl]
  have hsz := allP_size n
  obtain ⟨⟨p1, -, p3⟩, hs⟩ := Go.Sort.insertionSort_holds (lt := finLt (n := n) l) (finLt_swo l) (allP n) 0 (n + 1) (by omega) (by omega)
  generalize Go.Sort.insertionSort (finLt l) (allP n) 0 (n + 1) = d at p1 p3 hs
  have hd : d.size = n + 1 := by omega
  constructor
  · rw [List.pairwise_map, List.pairwise_iff_getElem]
    intro i j hi hj hij
    have hi' : i < d.size := by simpa using hi
    have hj' : j < d.size := by simpa using hj
    have := hs i j (by omega) hij (by omega)
    rw [getElem!_pos d i hi', getElem!_pos d j hj'] at this
    simpa [finLt] using this
  · have e1 : (d.extract 0 (n + 1)) = d := extract_all d hd
    have e2 : ((allP n).extract 0 (n + 1)) = allP n := extract_all _ hsz
    rw [e1, e2] at p3
    refine (p3.map _).trans ?_
    have : (allP n).toList.map (fun i => i.val) = List.range (n + 1) := by
      apply List.ext_getElem
      · simp [allP]
      · intro j h1 h2
        simp only [allP, List.getElem_map, List.getElem_range, Array.getElem_toList, Array.getElem_ofFn, id]
    rw [this]

theorem spec_in (a b c : Int) : spec_l1In.f a b c = some (decide (b ≤ a ∧ a ≤ c)) := by
  unfold spec_l1In.f
  by_cases h : a ≥ b
  · rw [if_pos h]; simp [h]
  · rw [if_neg h]; simp; omega

theorem spec_all_l0 (a b : Int) (l : List Int) (hl : l.length ≤ 1048576) : ∀ (d i : Nat), i + d = l.length → Ev (fun k => spec_l1All.l0 k a b l (l.length : Int) (i : Int)) ((l.drop i).all fun x => decide (a ≤ x ∧ x ≤ b))
  | 0, i, hd => Ev.step (f := fun _ => some true) (fun k => by simp only [spec_l1All.l0]; rw [if_neg (by omega)]) (Ev.pure (by rw [List.drop_of_length_le (by omega)]; rfl))
  | d + 1, i, hd => by
    have h1 : i < l.length := by omega
    have ih := spec_all_l0 a b l hl d (i + 1) (by omega)
    rw [List.drop_eq_getElem_cons h1, List.all_cons]
    refine Ev.step (f := fun k => if (decide (a ≤ l[i] ∧ l[i] ≤ b)) = true then spec_l1All.l0 k a b l (l.length : Int) ((i + 1 : Nat) : Int) else some false) (fun k => ?_) ?_
    · simp only [spec_l1All.l0, spec_in]; rw [if_pos (by omega), if_pos (by omega), if_pos (by omega), w1 (by omega) (by omega), rd_nat l i h1]; simp
    · refine Ev.cases (fun h => ?_) (fun h => ?_)
      · rw [h, Bool.true_and]; exact ih
      · rw [Bool.eq_false_iff.mpr h, Bool.false_and]; exact Ev.now _
theorem spec_all (l : List Int) (a b : Int) (hl : l.length ≤ 1048576) : Ev (fun k => spec_l1All.f k l a b) (l.all fun x => decide (a ≤ x ∧ x ≤ b)) := by
  have h := spec_all_l0 a b l hl l.length 0 (by omega)
  simpa [spec_l1All.f] using h

theorem impl_in_eq (a b c : Int) : impl_in.f a b c = some (decide (b ≤ a ∧ a ≤ c)) := by
  unfold impl_in.f
  by_cases h : b ≤ a
  · rw [if_pos h]; simp [h]
  · rw [if_neg h]; simp [h]

theorem areLetters_eq (m : Int) : impl_areLetters.f m = some (decide (2 ≤ m ∧ m ≤ 3)) := by
  unfold impl_areLetters.f
  rw [impl_in_eq, Option.bind_some]

theorem impl_areDeep__1_l0 (l : List Int) (hl : l.length ≤ 1048576) : ∀ (d i : Nat), i + d = l.length → ∃ r, Ev (fun k => slices_IndexFunc_int_int__at_impl_areDeep__1.l0 k l (l.length : Int) (i : Int)) r ∧ decide (r ≥ 0) = (l.drop i).any fun x => !decide (1 ≤ x ∧ x ≤ 11)
  | 0, i, hd => ⟨-1, Ev.step (f := fun _ => some (-1)) (fun k => by simp only [slices_IndexFunc_int_int__at_impl_areDeep__1.l0]; rw [if_neg (by omega)]) (Ev.now _), by rw [List.drop_of_length_le (by omega)]; rfl⟩
  | d + 1, i, hd => by
    have h1 : i < l.length := by omega
    obtain ⟨r, ih, hr⟩ := impl_areDeep__1_l0 l hl d (i + 1) (by omega)
    have hs : ∀ k, slices_IndexFunc_int_int__at_impl_areDeep__1.l0 (k + 1) l (l.length : Int) (i : Int) = if (!decide (1 ≤ l[i] ∧ l[i] ≤ 11)) = true then some (i : Int) else slices_IndexFunc_int_int__at_impl_areDeep__1.l0 k l (l.length : Int) ((i + 1 : Nat) : Int) := by
      intro k
      simp only [slices_IndexFunc_int_int__at_impl_areDeep__1.l0, impl_areDeep__1.f, impl_in_eq]; rw [if_pos (by omega), if_pos (by omega), if_pos (by omega), w1 (by omega) (by omega), rd_nat l i h1]; simp
    rw [List.drop_eq_getElem_cons h1, List.any_cons]
    by_cases h : (!decide (1 ≤ l[i] ∧ l[i] ≤ 11)) = true
    · exact ⟨i, Ev.step hs (Ev.pos h (Ev.now _)), by rw [h]; simp⟩
    · exact ⟨r, Ev.step hs (Ev.neg h ih), by rw [hr, Bool.eq_false_iff.mpr h, Bool.false_or]⟩
theorem impl_areDeep__1_contains (l : List Int) (hl : l.length ≤ 1048576) : Ev (fun k => slices_ContainsFunc_int_int__at_impl_areDeep__1.f k l) (l.any fun x => !decide (1 ≤ x ∧ x ≤ 11)) := by
  obtain ⟨r, h, hr⟩ := impl_areDeep__1_l0 l hl l.length 0 (by omega)
  unfold slices_ContainsFunc_int_int__at_impl_areDeep__1.f slices_IndexFunc_int_int__at_impl_areDeep__1.f
  refine Ev.bind (by simpa using h) (Ev.pure ?_)
  simpa using hr
theorem impl_areDeep_ev (l : List Int) (hl : l.length ≤ 1048576) : Ev (fun k => impl_areDeep.f k l) (decide (1 ≤ (l.length : Int) ∧ (l.length : Int) ≤ 12) && l.all fun x => decide (1 ≤ x ∧ x ≤ 11)) := by
  unfold impl_areDeep.f
  refine Ev.known (fun n => impl_in_eq _ _ _) (Ev.cases (fun h => ?_) (fun h => ?_))
  · refine Ev.bind (impl_areDeep__1_contains l hl) (Ev.pure ?_)
    rw [h, Bool.true_and, List.any_eq_not_all_not, Bool.not_not]; simp
  · refine Ev.pure ?_
    rw [Bool.eq_false_iff.mpr h, Bool.false_and]

theorem impl_areLengths__1_l0 (l : List Int) (hl : l.length ≤ 1048576) : ∀ (d i : Nat), i + d = l.length → ∃ r, Ev (fun k => slices_IndexFunc_int_int__at_impl_areLengths__1.l0 k l (l.length : Int) (i : Int)) r ∧ decide (r ≥ 0) = (l.drop i).any fun x => !decide (1 ≤ x ∧ x ≤ 8)
  | 0, i, hd => ⟨-1, Ev.step (f := fun _ => some (-1)) (fun k => by simp only [slices_IndexFunc_int_int__at_impl_areLengths__1.l0]; rw [if_neg (by omega)]) (Ev.now _), by rw [List.drop_of_length_le (by omega)]; rfl⟩
  | d + 1, i, hd => by
    have h1 : i < l.length := by omega
    obtain ⟨r, ih, hr⟩ := impl_areLengths__1_l0 l hl d (i + 1) (by omega)
    have hs : ∀ k, slices_IndexFunc_int_int__at_impl_areLengths__1.l0 (k + 1) l (l.length : Int) (i : Int) = if (!decide (1 ≤ l[i] ∧ l[i] ≤ 8)) = true then some (i : Int) else slices_IndexFunc_int_int__at_impl_areLengths__1.l0 k l (l.length : Int) ((i + 1 : Nat) : Int) := by
      intro k
      simp only [slices_IndexFunc_int_int__at_impl_areLengths__1.l0, impl_areLengths__1.f, impl_in_eq]; rw [if_pos (by omega), if_pos (by omega), if_pos (by omega), w1 (by omega) (by omega), rd_nat l i h1]; simp
    rw [List.drop_eq_getElem_cons h1, List.any_cons]
    by_cases h : (!decide (1 ≤ l[i] ∧ l[i] ≤ 8)) = true
    · exact ⟨i, Ev.step hs (Ev.pos h (Ev.now _)), by rw [h]; simp⟩
    · exact ⟨r, Ev.step hs (Ev.neg h ih), by rw [hr, Bool.eq_false_iff.mpr h, Bool.false_or]⟩
theorem impl_areLengths__1_contains (l : List Int) (hl : l.length ≤ 1048576) : Ev (fun k => slices_ContainsFunc_int_int__at_impl_areLengths__1.f k l) (l.any fun x => !decide (1 ≤ x ∧ x ≤ 8)) := by
  obtain ⟨r, h, hr⟩ := impl_areLengths__1_l0 l hl l.length 0 (by omega)
  unfold slices_ContainsFunc_int_int__at_impl_areLengths__1.f slices_IndexFunc_int_int__at_impl_areLengths__1.f
  refine Ev.bind (by simpa using h) (Ev.pure ?_)
  simpa using hr

theorem beLengths_ev (l : List Int) (hl : l.length ≤ 1048576) : Ev (fun k => spec_beLengths.f k l) (decide (1 ≤ (l.length : Int) ∧ (l.length : Int) ≤ 12) && l.all fun x => decide (1 ≤ x ∧ x ≤ 11)) := by
  unfold spec_beLengths.f
  refine Ev.known (fun n => spec_in _ _ _) (Ev.cases (fun h => ?_) (fun h => ?_))
  · exact Ev.bind (spec_all l _ _ hl) (Ev.pure (by rw [h, Bool.true_and]))
  · exact Ev.pure (by rw [Bool.eq_false_iff.mpr h, Bool.false_and])

theorem wf64 {n : Int} (h1 : -9223372036854775808 ≤ n) (h2 : n ≤ 9223372036854775807) : (Lit.int .i64 n).wf = true := by
  simp only [Lit.wf, IntKind.min, IntKind.max, IntKind.signed, IntKind.bits, Bool.and_eq_true, decide_eq_true_eq, if_true]
  omega
theorem pow_small {m n : Nat} (hm : 2 ≤ m ∧ m ≤ 3) (hn : n ≤ 11) : 1 ≤ m ^ n ∧ m ^ n ≤ 177147 := by
  have e : (3 : Nat) ^ 11 = 177147 := by decide
  exact ⟨Nat.pow_pos (by omega), by rw [← e]; exact Nat.le_trans (Nat.pow_le_pow_left hm.2 _) (Nat.pow_le_pow_right (by omega) hn)⟩

theorem krPower_l0 (b m : Nat) (hb : 1 ≤ b) (hp : b ^ m < 4611686018427387904) (hm : m ≤ 1048576) : ∀ (d i : Nat), i + d = m → Ev (fun k => spec_krPower.l0 k (b : Int) (d : Int) ((b ^ i : Nat) : Int)) ((b ^ m : Nat) : Int)
  | 0, i, hd => by
    refine Ev.succ ?_
    simp only [spec_krPower.l0]
    exact Ev.neg (by omega) (Ev.pure (by rw [show i = m by omega]))
  | d + 1, i, hd => by
    have ih := krPower_l0 b m hb hp hm d (i + 1) (by omega)
    have h1 : b ^ (i + 1) ≤ b ^ m := Nat.pow_le_pow_right hb (by omega)
    have e : Aside0 (wrap64 (((b ^ i : Nat) : Int) * (b : Int)) = ((b ^ (i + 1) : Nat) : Int)) := ⟨by
      rw [← Int.natCast_mul, show b ^ i * b = b ^ (i + 1) from rfl]; exact w64 (by omega) (by omega)⟩
    have e2 : Aside0 (wrap64 (((d + 1 : Nat) : Int) - 1) = (d : Int)) := ⟨by rw [w64 (by omega) (by omega)]; omega⟩
    refine Ev.succ ?_
    simp only [spec_krPower.l0, e.out, e2.out]
    exact Ev.pos (by omega) ih
theorem krPower_ev (b m : Nat) (hb : 1 ≤ b) (hp : b ^ m < 4611686018427387904) (hm : m ≤ 1048576) : Ev (fun k => spec_krPower.f k (b : Int) (m : Int)) ((b ^ m : Nat) : Int) := by
  have h := krPower_l0 b m hb hp hm m 0 (by omega)
  simpa [spec_krPower.f] using h

theorem power_l0 (b m : Nat) (hb : 1 ≤ b) (hp : b ^ m < 4611686018427387904) (hm : m ≤ 1048576) : ∀ (d i : Nat), i + d = m → Ev (fun k => impl_power.l0 k (b : Int) ((b ^ i : Nat) : Int) (m : Int) (i : Int)) ((b ^ m : Nat) : Int)
  | 0, i, hd => by
    refine Ev.succ ?_
    simp only [impl_power.l0]
    exact Ev.neg (by omega) (Ev.pure (by rw [show i = m by omega]))
  | d + 1, i, hd => by
    have ih := power_l0 b m hb hp hm d (i + 1) (by omega)
    have h1 : b ^ (i + 1) ≤ b ^ m := Nat.pow_le_pow_right hb (by omega)
    have e : Aside0 (wrap64 (((b ^ i : Nat) : Int) * (b : Int)) = ((b ^ (i + 1) : Nat) : Int)) := ⟨by
      rw [← Int.natCast_mul, show b ^ i * b = b ^ (i + 1) from rfl]; exact w64 (by omega) (by omega)⟩
    refine Ev.succ ?_
    simp only [impl_power.l0, e.out, w1 (show 0 ≤ (i : Int) by omega) (show (i : Int) < 9223372036854775807 by omega)]
    exact Ev.pos (by omega) ih
theorem power_ev (b m : Nat) (hb : 1 ≤ b) (hp : b ^ m < 4611686018427387904) (hm : m ≤ 1048576) : Ev (fun k => impl_power.f k (b : Int) (m : Int)) ((b ^ m : Nat) : Int) := by
  have h := power_l0 b m hb hp hm m 0 (by omega)
  simpa [impl_power.f] using h

/-- Kraft's sum, in parts of the greatest length e -/
def kr (m e : Nat) (L : List Nat) : Nat := (L.map fun x => m ^ (e - x)).sum
theorem kr_snoc (m e : Nat) (L : List Nat) (x : Nat) : kr m e (L ++ [x]) = kr m e L + m ^ (e - x) := by simp [kr]
theorem kr_le {m e : Nat} (hm : 2 ≤ m ∧ m ≤ 3) (he : e ≤ 11) : ∀ L : List Nat, kr m e L ≤ L.length * 177147
  | [] => by simp [kr]
  | x :: L => by
    have h1 := kr_le hm he L
    have h2 := (pow_small (n := e - x) hm (by omega)).2
    have h3 : kr m e (x :: L) = m ^ (e - x) + kr m e L := by simp [kr]
    rw [h3, List.length_cons, Nat.add_mul]
    omega
theorem kr_take {m e : Nat} (hm : 2 ≤ m ∧ m ≤ 3) (he : e ≤ 11) (L : List Nat) (hL : L.length ≤ 12) (i : Nat) : kr m e (L.take i) ≤ 2125764 := by
  have h1 := kr_le hm he (L.take i)
  have h2 : (L.take i).length ≤ 12 := by rw [List.length_take]; omega
  have h3 := Nat.mul_le_mul_right 177147 h2
  omega
theorem kr_perm (m e : Nat) {L M : List Nat} (h : L.Perm M) : kr m e L = kr m e M := (h.map _).sum_nat
theorem kr_up (m : Nat) : ∀ (L : List Nat), (∀ x ∈ L, x ≤ 8) → kr m 11 L = kr m 8 L * m ^ 3
  | [], _ => by simp [kr]
  | x :: L, h => by
    have ih := kr_up m L (fun y hy => h y (by simp [hy]))
    have hx := h x (by simp)
    have h1 : kr m 11 (x :: L) = m ^ (11 - x) + kr m 11 L := by simp [kr]
    have h2 : kr m 8 (x :: L) = m ^ (8 - x) + kr m 8 L := by simp [kr]
    rw [h1, h2, ih, Nat.add_mul, ← Nat.pow_add, show 8 - x + 3 = 11 - x by omega]
def intsOf (L : List Nat) : List Int := L.map fun (x : Nat) => (x : Int)
theorem ints_len (L : List Nat) : (intsOf L).length = L.length := by simp [intsOf]
theorem ints_at (L : List Nat) (i : Nat) (h : i < L.length) : rd (intsOf L) (i : Int) = ((L[i] : Nat) : Int) := by
  rw [rd_nat _ i (by rw [ints_len]; exact h)]
  simp [intsOf]

theorem impl_parts_l0 (m : Nat) (hm : 2 ≤ m ∧ m ≤ 3) (L : List Nat) (hL : L.length ≤ 12) (hb : ∀ x ∈ L, 1 ≤ x ∧ x ≤ 8) : ∀ (d i : Nat), i + d = L.length → Ev (fun k => impl_parts.l0 k (m : Int) ((kr m 8 (L.take i) : Nat) : Int) (intsOf L) (L.length : Int) (i : Int)) ((kr m 8 L : Nat) : Int)
  | 0, i, hd => by
    refine Ev.succ ?_
    simp only [impl_parts.l0]
    exact Ev.neg (by omega) (Ev.pure (by rw [List.take_of_length_le (by omega)]))
  | d + 1, i, hd => by
    have h1 : i < L.length := by omega
    have hx := hb _ (List.getElem_mem h1)
    have ih := impl_parts_l0 m hm L hL hb d (i + 1) (by omega)
    have hp := pow_small (n := 8 - L[i]) hm (by omega)
    have hk := kr_take hm (e := 8) (by omega) L hL i
    have hpe := power_ev m (8 - L[i]) (by omega) (by omega) (by omega)
    rw [List.take_succ_eq_append_getElem h1, kr_snoc] at ih
    have e1 : Aside0 (wrap64 (8 - ((L[i] : Nat) : Int)) = ((8 - L[i] : Nat) : Int)) := ⟨by rw [w64 (by omega) (by omega)]; omega⟩
    have e2 : Aside0 (wrap64 (((kr m 8 (L.take i) : Nat) : Int) + ((m ^ (8 - L[i]) : Nat) : Int)) = ((kr m 8 (L.take i) + m ^ (8 - L[i]) : Nat) : Int)) := ⟨by rw [w64 (by omega) (by omega)]; omega⟩
    refine Ev.succ ?_
    simp only [impl_parts.l0, ints_at L i h1, e1.out, w1 (show 0 ≤ (i : Int) by omega) (show (i : Int) < 9223372036854775807 by omega)]
    refine Ev.pos (by omega) (Ev.pos (by omega) (Ev.pos (by rw [ints_len]; omega) (Ev.bind hpe ?_)))
    simp only [e2.out]
    exact ih
theorem impl_parts_ev (m : Nat) (hm : 2 ≤ m ∧ m ≤ 3) (L : List Nat) (hL : L.length ≤ 12) (hb : ∀ x ∈ L, 1 ≤ x ∧ x ≤ 8) : Ev (fun k => impl_parts.f k (intsOf L) (m : Int)) ((kr m 8 L : Nat) : Int) := by
  have h := impl_parts_l0 m hm L hL hb L.length 0 (by omega)
  unfold impl_parts.f
  rw [ints_len]
  exact h

theorem spec_krShares_l0 (m : Nat) (hm : 2 ≤ m ∧ m ≤ 3) (L : List Nat) (hL : L.length ≤ 12) (hb : ∀ x ∈ L, 1 ≤ x ∧ x ≤ 8) : ∀ (d i : Nat), i + d = L.length → Ev (fun k => spec_krShares.l0 k (m : Int) ((kr m 8 (L.take i) : Nat) : Int) (intsOf L) (L.length : Int) (i : Int)) ((kr m 8 L : Nat) : Int)
  | 0, i, hd => by
    refine Ev.succ ?_
    simp only [spec_krShares.l0]
    exact Ev.neg (by omega) (Ev.pure (by rw [List.take_of_length_le (by omega)]))
  | d + 1, i, hd => by
    have h1 : i < L.length := by omega
    have hx := hb _ (List.getElem_mem h1)
    have ih := spec_krShares_l0 m hm L hL hb d (i + 1) (by omega)
    have hp := pow_small (n := 8 - L[i]) hm (by omega)
    have hk := kr_take hm (e := 8) (by omega) L hL i
    have hpe := krPower_ev m (8 - L[i]) (by omega) (by omega) (by omega)
    rw [List.take_succ_eq_append_getElem h1, kr_snoc] at ih
    have e1 : Aside0 (wrap64 (8 - ((L[i] : Nat) : Int)) = ((8 - L[i] : Nat) : Int)) := ⟨by rw [w64 (by omega) (by omega)]; omega⟩
    have e2 : Aside0 (wrap64 (((kr m 8 (L.take i) : Nat) : Int) + ((m ^ (8 - L[i]) : Nat) : Int)) = ((kr m 8 (L.take i) + m ^ (8 - L[i]) : Nat) : Int)) := ⟨by rw [w64 (by omega) (by omega)]; omega⟩
    refine Ev.succ ?_
    simp only [spec_krShares.l0, ints_at L i h1, e1.out, w1 (show 0 ≤ (i : Int) by omega) (show (i : Int) < 9223372036854775807 by omega)]
    refine Ev.pos (by omega) (Ev.pos (by omega) (Ev.pos (by rw [ints_len]; omega) (Ev.bind hpe ?_)))
    simp only [e2.out]
    exact ih
theorem spec_krShares_ev (m : Nat) (hm : 2 ≤ m ∧ m ≤ 3) (L : List Nat) (hL : L.length ≤ 12) (hb : ∀ x ∈ L, 1 ≤ x ∧ x ≤ 8) : Ev (fun k => spec_krShares.f k (intsOf L) (m : Int)) ((kr m 8 L : Nat) : Int) := by
  have h := spec_krShares_l0 m hm L hL hb L.length 0 (by omega)
  unfold spec_krShares.f
  rw [ints_len]
  exact h

theorem beFit_l0 (m : Nat) (hm : 2 ≤ m ∧ m ≤ 3) (L : List Nat) (hL : L.length ≤ 12) (hb : ∀ x ∈ L, 1 ≤ x ∧ x ≤ 11) : ∀ (d i : Nat), i + d = L.length → Ev (fun k => spec_beFit.l0 k (m : Int) (((m ^ 11 : Nat) : Int) - ((kr m 11 (L.take i) : Nat) : Int)) (intsOf L) (L.length : Int) (i : Int)) (decide (kr m 11 L ≤ m ^ 11))
  | 0, i, hd => by
    refine Ev.succ ?_
    simp only [spec_beFit.l0]
    exact Ev.neg (by omega) (Ev.pure (by rw [List.take_of_length_le (by omega)]; exact decide_eq_decide.2 (by omega)))
  | d + 1, i, hd => by
    have h1 : i < L.length := by omega
    have hx := hb _ (List.getElem_mem h1)
    have ih := beFit_l0 m hm L hL hb d (i + 1) (by omega)
    have hp := pow_small (n := 11 - L[i]) hm (by omega)
    have hq := pow_small (n := 11) hm (by omega)
    have hk := kr_take hm (e := 11) (by omega) L hL i
    have hpe := krPower_ev m (11 - L[i]) (by omega) (by omega) (by omega)
    rw [List.take_succ_eq_append_getElem h1, kr_snoc] at ih
    have e1 : Aside0 (wrap64 (11 - ((L[i] : Nat) : Int)) = ((11 - L[i] : Nat) : Int)) := ⟨by rw [w64 (by omega) (by omega)]; omega⟩
    have e2 : Aside0 (wrap64 (((m ^ 11 : Nat) : Int) - ((kr m 11 (L.take i) : Nat) : Int) - ((m ^ (11 - L[i]) : Nat) : Int)) = ((m ^ 11 : Nat) : Int) - ((kr m 11 (L.take i) + m ^ (11 - L[i]) : Nat) : Int)) := ⟨by rw [w64 (by omega) (by omega)]; omega⟩
    refine Ev.succ ?_
    simp only [spec_beFit.l0, ints_at L i h1, e1.out, w1 (show 0 ≤ (i : Int) by omega) (show (i : Int) < 9223372036854775807 by omega)]
    refine Ev.pos (by omega) (Ev.pos (by omega) (Ev.pos (by rw [ints_len]; omega) (Ev.bind hpe ?_)))
    simp only [e2.out]
    exact ih
theorem beFit_ev (m : Nat) (hm : 2 ≤ m ∧ m ≤ 3) (L : List Nat) (hL : L.length ≤ 12) (hb : ∀ x ∈ L, 1 ≤ x ∧ x ≤ 11) : Ev (fun k => spec_beFit.f k (intsOf L) (m : Int)) (decide (kr m 11 L ≤ m ^ 11)) := by
  have hq := pow_small (n := 11) hm (by omega)
  have h := beFit_l0 m hm L hL hb L.length 0 (by omega)
  unfold spec_beFit.f
  refine Ev.bind (krPower_ev m 11 (by omega) (by omega) (by omega)) ?_
  rw [ints_len]
  simpa [kr] using h

/-- the letters of a number with base m, l of them, the last one the least -/
def digs (m : Nat) : Nat → Nat → List UInt8
  | 0, _ => []
  | l + 1, n => digs m l (n / m) ++ [UInt8.ofNat (97 + n % m)]
theorem digs_length (m : Nat) : ∀ l n, (digs m l n).length = l
  | 0, _ => rfl
  | l + 1, n => by rw [digs, List.length_append, digs_length m l]; rfl
theorem ba_append (a b : Array UInt8) : (⟨a⟩ : ByteArray) ++ (⟨b⟩ : ByteArray) = ⟨a ++ b⟩ := by
  apply ByteArray.ext
  rw [ByteArray.data_append]
theorem letter_cut (r : Nat) (h : r < 3) : (⟨#[97, 98, 99]⟩ : ByteArray).extract r (r + 1) = ⟨#[UInt8.ofNat (97 + r)]⟩ := by
  match r, h with
  | 0, _ => decide
  | 1, _ => decide
  | 2, _ => decide

theorem krText_l0 (m : Nat) (hm : 2 ≤ m) (hm3 : m ≤ 3) (l : Nat) (hl : l ≤ 60) : ∀ (d i n : Nat) (acc : List UInt8), i + d = l → acc.length = i → n < 4611686018427387904 → Ev (fun k => spec_krText.l0 k (n : Int) (l : Int) (m : Int) (⟨acc.toArray⟩ : ByteArray) (i : Int)) ((⟨(digs m d n ++ acc).toArray⟩ : ByteArray))
  | 0, i, n, acc, hd, ha, hn => by
    refine Ev.succ ?_
    simp only [spec_krText.l0]
    exact Ev.neg (by omega) (Ev.pure (by simp [digs]))
  | d + 1, i, n, acc, hd, ha, hn => by
    have h2 : n / m ≤ n := Nat.div_le_self _ _
    have hr : n % m < m := Nat.mod_lt _ (by omega)
    have ih := krText_l0 m hm hm3 l hl d (i + 1) (n / m) (UInt8.ofNat (97 + n % m) :: acc) (by omega) (by simp; omega) (by omega)
    have e1 : Int.tmod (n : Int) (m : Int) = ((n % m : Nat) : Int) := (Int.ofNat_tmod n m).symm
    have e2 : Aside0 (wrap64 (Int.tdiv (n : Int) (m : Int)) = ((n / m : Nat) : Int)) := ⟨by
      rw [← Int.ofNat_tdiv]; generalize n / m = q at h2 ⊢; exact w64 (by omega) (by omega)⟩
    have e3 : Aside0 (wrap64 (((n % m : Nat) : Int) + 1) = ((n % m + 1 : Nat) : Int)) := ⟨by rw [w64 (by omega) (by omega)]; omega⟩
    have e4 : (⟨#[97, 98, 99]⟩ : ByteArray).extract (n % m) (n % m + 1) = ⟨#[UInt8.ofNat (97 + n % m)]⟩ := letter_cut _ (by omega)
    have e5 : (⟨#[UInt8.ofNat (97 + n % m)]⟩ : ByteArray) ++ (⟨acc.toArray⟩ : ByteArray) = ⟨(UInt8.ofNat (97 + n % m) :: acc).toArray⟩ := by rw [ba_append]; simp
    refine Ev.succ ?_
    simp only [spec_krText.l0, e1, e2.out, e3.out, Int.toNat_natCast, e4, e5, w1 (show 0 ≤ (i : Int) by omega) (show (i : Int) < 9223372036854775807 by omega)]
    refine Ev.pos (by omega) (Ev.neg (by omega) (Ev.pos (by omega) (Ev.pos (by omega) (Ev.pos (by omega) (Ev.pos ?_ ?_)))))
    · simp [ByteArray.size]; omega
    · rw [digs, List.append_assoc]; exact ih
theorem krText_ev (n l m : Nat) (hm : 2 ≤ m) (hm3 : m ≤ 3) (hl : l ≤ 60) (hn : n < 4611686018427387904) : Ev (fun k => spec_krText.f k (n : Int) (l : Int) (m : Int)) (⟨(digs m l n).toArray⟩ : ByteArray) := by
  have h := krText_l0 m hm hm3 l hl l 0 n [] (by omega) rfl hn
  simpa [spec_krText.f] using h

/-- letters as whole numbers -/
def numsOf (l : List UInt8) : List Int := l.map fun c => (c.toNat : Int)
theorem strOfNums_nums (l : List UInt8) : strOfNums (numsOf l) = ⟨l.toArray⟩ := by
  apply ByteArray.ext
  simp [strOfNums, numsOf, Function.comp_def]
theorem abc_at (r : Nat) (h : r < 3) : bt (⟨#[97, 98, 99]⟩ : ByteArray) (r : Int) = ((UInt8.ofNat (97 + r)).toNat : Int) := by
  match r, h with
  | 0, _ => decide
  | 1, _ => decide
  | 2, _ => decide
theorem wordAt_l0 (m : Nat) (hm : 2 ≤ m) (hm3 : m ≤ 3) : ∀ (d n : Nat) (acc : List UInt8), d ≤ 1048576 → n < 4611686018427387904 → Ev (fun k => impl_wordAt.l0 k (n : Int) (m : Int) (List.replicate d 0 ++ numsOf acc) ((d : Int) - 1)) (⟨(digs m d n ++ acc).toArray⟩ : ByteArray)
  | 0, n, acc, hd, hn => by
    refine Ev.succ ?_
    simp only [impl_wordAt.l0]
    exact Ev.neg (by omega) (Ev.pure (by simp [strOfNums_nums, digs]))
  | d + 1, n, acc, hd, hn => by
    have h2 : n / m ≤ n := Nat.div_le_self _ _
    have hr : n % m < m := Nat.mod_lt _ (by omega)
    have ih := wordAt_l0 m hm hm3 d (n / m) (UInt8.ofNat (97 + n % m) :: acc) (by omega) (by omega)
    have e1 : Int.tmod (n : Int) (m : Int) = ((n % m : Nat) : Int) := (Int.ofNat_tmod n m).symm
    have e2 : Aside0 (wrap64 (Int.tdiv (n : Int) (m : Int)) = ((n / m : Nat) : Int)) := ⟨by
      rw [← Int.ofNat_tdiv]; generalize n / m = q at h2 ⊢; exact w64 (by omega) (by omega)⟩
    have e3 : Aside0 (wrap64 (((d + 1 : Nat) : Int) - 1 - 1) = (d : Int) - 1) := ⟨by rw [w64 (by omega) (by omega)]; omega⟩
    have e4 : (((d + 1 : Nat) : Int) - 1).toNat = d := by omega
    have e5 : (List.replicate (d + 1) (0 : Int) ++ numsOf acc).set d (((UInt8.ofNat (97 + n % m)).toNat : Int)) = List.replicate d 0 ++ numsOf (UInt8.ofNat (97 + n % m) :: acc) := by
      rw [List.set_append_left _ _ (by simp), List.replicate_succ', List.set_append_right _ _ (by simp)]
      simp [numsOf]
    refine Ev.succ ?_
    simp only [impl_wordAt.l0, e1, e2.out, e3.out, e4, abc_at _ (show n % m < 3 by omega), e5]
    refine Ev.pos (by omega) (Ev.neg (by omega) (Ev.pos (by omega) (Ev.pos (by omega) (Ev.pos (by omega) (Ev.pos (by simp; omega) ?_)))))
    rw [digs, List.append_assoc]; exact ih
theorem wordAt_ev (m : Nat) (hm : 2 ≤ m) (hm3 : m ≤ 3) (d n : Nat) (hd : d ≤ 1048576) (hn : n < 4611686018427387904) : Ev (fun k => impl_wordAt.f k (n : Int) (d : Int) (m : Int)) (⟨(digs m d n).toArray⟩ : ByteArray) := by
  have h := wordAt_l0 m hm hm3 d n [] hd hn
  have e : Aside0 (wrap64 ((d : Int) - 1) = (d : Int) - 1) := ⟨w64 (by omega) (by omega)⟩
  unfold impl_wordAt.f
  rw [e.out]
  refine Ev.pos (by omega) (Ev.pos (by omega) ?_)
  simpa [numsOf] using h

/-- the words of the first prefix code: each the next of its length behind those that are taken -/
def wds (m : Nat) : List Nat → Nat → List ByteArray
  | [], _ => []
  | x :: L, A => ⟨(digs m x (A / m ^ (8 - x))).toArray⟩ :: wds m L (A + m ^ (8 - x))
theorem wds_len (m : Nat) : ∀ (L : List Nat) (A : Nat), (wds m L A).length = L.length
  | [], _ => rfl
  | x :: L, A => by rw [wds, List.length_cons, wds_len m L, List.length_cons]
theorem impl_fpc_l0 (m : Nat) (hm : 2 ≤ m ∧ m ≤ 3) (L : List Nat) (hL : L.length ≤ 12) (hb : ∀ x ∈ L, 1 ≤ x ∧ x ≤ 8) : ∀ (d i : Nat) (acc : List ByteArray), i + d = L.length → acc.length ≤ i → Ev (fun k => impl_FirstPrefixCode.l0 k (m : Int) acc ((kr m 8 (L.take i) : Nat) : Int) (intsOf L) (L.length : Int) (i : Int)) (acc ++ wds m (L.drop i) (kr m 8 (L.take i)), true)
  | 0, i, acc, hd, ha => by
    refine Ev.succ ?_
    simp only [impl_FirstPrefixCode.l0]
    exact Ev.neg (by omega) (Ev.pure (by rw [List.drop_of_length_le (by omega), wds, List.append_nil]))
  | d + 1, i, acc, hd, ha => by
    have h1 : i < L.length := by omega
    have hx := hb _ (List.getElem_mem h1)
    have hp := pow_small (n := 8 - L[i]) hm (by omega)
    have hk := kr_take hm (e := 8) (by omega) L hL i
    have hpe := power_ev m (8 - L[i]) (by omega) (by omega) (by omega)
    have hdv : kr m 8 (L.take i) / m ^ (8 - L[i]) ≤ kr m 8 (L.take i) := Nat.div_le_self _ _
    have hwa := wordAt_ev m hm.1 hm.2 L[i] (kr m 8 (L.take i) / m ^ (8 - L[i])) (by omega) (by omega)
    have ih := impl_fpc_l0 m hm L hL hb d (i + 1) (acc ++ [⟨(digs m L[i] (kr m 8 (L.take i) / m ^ (8 - L[i]))).toArray⟩]) (by omega) (by rw [List.length_append]; simp; omega)
    rw [List.take_succ_eq_append_getElem h1, kr_snoc, List.append_assoc] at ih
    rw [List.drop_eq_getElem_cons h1, wds]
    have e1 : Aside0 (wrap64 (8 - ((L[i] : Nat) : Int)) = ((8 - L[i] : Nat) : Int)) := ⟨by rw [w64 (by omega) (by omega)]; omega⟩
    have e2 : Aside0 (wrap64 (((kr m 8 (L.take i) : Nat) : Int) + ((m ^ (8 - L[i]) : Nat) : Int)) = ((kr m 8 (L.take i) + m ^ (8 - L[i]) : Nat) : Int)) := ⟨by rw [w64 (by omega) (by omega)]; omega⟩
    have e3 : Aside0 (wrap64 (Int.tdiv ((kr m 8 (L.take i) : Nat) : Int) ((m ^ (8 - L[i]) : Nat) : Int)) = ((kr m 8 (L.take i) / m ^ (8 - L[i]) : Nat) : Int)) := ⟨by rw [← Int.ofNat_tdiv]; generalize kr m 8 (L.take i) / m ^ (8 - L[i]) = q at hdv; exact w64 (by omega) (by omega)⟩
    refine Ev.succ ?_
    simp only [impl_FirstPrefixCode.l0, ints_at L i h1, e1.out, w1 (show 0 ≤ (i : Int) by omega) (show (i : Int) < 9223372036854775807 by omega)]
    refine Ev.pos (by omega) (Ev.pos (by omega) (Ev.pos (by rw [ints_len]; omega) (Ev.bind hpe ?_)))
    simp only [e3.out]
    refine Ev.neg (by omega) (Ev.bind hwa (Ev.pos (by omega) (Ev.bind hpe ?_)))
    simp only [e2.out]
    exact ih
theorem spec_fpc_l0 (m : Nat) (hm : 2 ≤ m ∧ m ≤ 3) (L : List Nat) (hL : L.length ≤ 12) (hb : ∀ x ∈ L, 1 ≤ x ∧ x ≤ 8) (hu : L.Pairwise fun x y => x ≤ y) : ∀ (d i at_ last : Nat) (acc : List ByteArray), i + d = L.length → acc.length ≤ i → last ≤ 8 → at_ * m ^ (8 - last) = kr m 8 (L.take i) → (∀ x ∈ L.drop i, last ≤ x) → Ev (fun k => spec_FirstPrefixCode.l0 k (m : Int) acc (at_ : Int) (last : Int) (intsOf L) (L.length : Int) (i : Int)) (acc ++ wds m (L.drop i) (kr m 8 (L.take i)), true)
  | 0, i, at_, last, acc, hd, ha, hl8, hat, hla => by
    refine Ev.succ ?_
    simp only [spec_FirstPrefixCode.l0]
    exact Ev.neg (by omega) (Ev.pure (by rw [List.drop_of_length_le (by omega), wds, List.append_nil]))
  | d + 1, i, at_, last, acc, hd, ha, hl8, hat, hla => by
    have h1 : i < L.length := by omega
    have hx := hb _ (List.getElem_mem h1)
    have hlx : last ≤ L[i] := hla _ (by rw [List.drop_eq_getElem_cons h1]; exact List.mem_cons_self)
    have hp := pow_small (n := 8 - L[i]) hm (by omega)
    have hp2 := pow_small (n := L[i] - last) hm (by omega)
    have hk := kr_take hm (e := 8) (by omega) L hL i
    have hpe := krPower_ev m (L[i] - last) (by omega) (by omega) (by omega)
    have hmul : (at_ * m ^ (L[i] - last)) * m ^ (8 - L[i]) = kr m 8 (L.take i) := by
      rw [← hat, Nat.mul_assoc, ← Nat.pow_add, show L[i] - last + (8 - L[i]) = 8 - last by omega]
    have hle : at_ * m ^ (L[i] - last) ≤ kr m 8 (L.take i) := by rw [← hmul]; exact Nat.le_mul_of_pos_right _ (by omega)
    have hdiv : kr m 8 (L.take i) / m ^ (8 - L[i]) = at_ * m ^ (L[i] - last) := by rw [← hmul]; exact Nat.mul_div_cancel _ (by omega)
    have hkt := krText_ev (at_ * m ^ (L[i] - last)) L[i] m hm.1 hm.2 (by omega) (by omega)
    have hmul2 : (at_ * m ^ (L[i] - last) + 1) * m ^ (8 - L[i]) = kr m 8 (L.take (i + 1)) := by
      rw [List.take_succ_eq_append_getElem h1, kr_snoc, Nat.add_mul, hmul]; omega
    have ih := spec_fpc_l0 m hm L hL hb hu d (i + 1) (at_ * m ^ (L[i] - last) + 1) L[i] (acc ++ [⟨(digs m L[i] (at_ * m ^ (L[i] - last))).toArray⟩]) (by omega) (by rw [List.length_append]; simp; omega) (by omega) hmul2 (fun y hy => by
      rw [List.drop_eq_getElem_cons h1] at hla
      have h2 : (L[i] :: L.drop (i + 1)).Pairwise fun x y => x ≤ y := by rw [← List.drop_eq_getElem_cons h1]; exact hu.sublist (List.drop_sublist _ _)
      exact (List.pairwise_cons.1 h2).1 y hy)
    rw [List.take_succ_eq_append_getElem h1, kr_snoc, List.append_assoc] at ih
    rw [List.drop_eq_getElem_cons h1, wds, hdiv]
    have e1 : Aside0 (wrap64 (((L[i] : Nat) : Int) - (last : Int)) = ((L[i] - last : Nat) : Int)) := ⟨by rw [w64 (by omega) (by omega)]; omega⟩
    have e2 : Aside0 (wrap64 ((at_ : Int) * ((m ^ (L[i] - last) : Nat) : Int)) = ((at_ * m ^ (L[i] - last) : Nat) : Int)) := ⟨by rw [w64 (by rw [← Int.natCast_mul]; omega) (by rw [← Int.natCast_mul]; omega), Int.natCast_mul]⟩
    have e3 : Aside0 (wrap64 (((at_ * m ^ (L[i] - last) : Nat) : Int) + 1) = ((at_ * m ^ (L[i] - last) + 1 : Nat) : Int)) := ⟨by rw [w64 (by omega) (by omega)]; omega⟩
    refine Ev.succ ?_
    simp only [spec_FirstPrefixCode.l0, ints_at L i h1, e1.out, w1 (show 0 ≤ (i : Int) by omega) (show (i : Int) < 9223372036854775807 by omega)]
    refine Ev.pos (by omega) (Ev.pos (by omega) (Ev.pos (by rw [ints_len]; omega) (Ev.bind hpe ?_)))
    simp only [e2.out, e3.out]
    exact Ev.bind hkt (Ev.pos (by omega) ih)
/-- sorted: no later one is less -/
theorem krList_l0 (L : List Nat) (hL : L.length ≤ 12) (hu : L.Pairwise fun x y => x ≤ y) : ∀ (d i : Nat), i + 1 + d = L.length → Ev (fun k => spec_krList.l0 k (intsOf L) ((i + 1 : Nat) : Int)) true
  | 0, i, hd => by
    refine Ev.succ ?_
    simp only [spec_krList.l0]
    exact Ev.neg (by rw [ints_len]; omega) (Ev.now _)
  | d + 1, i, hd => by
    have h1 : i + 1 < L.length := by omega
    have ih := krList_l0 L hL hu d (i + 1) (by omega)
    have hle : L[i] ≤ L[i + 1] := List.pairwise_iff_getElem.1 hu i (i + 1) (by omega) h1 (by omega)
    have e1 : Aside0 (wrap64 (((i + 1 : Nat) : Int) - 1) = (i : Int)) := ⟨by rw [w64 (by omega) (by omega)]; omega⟩
    refine Ev.succ ?_
    simp only [spec_krList.l0, ints_at L (i + 1) h1, e1.out, ints_at L i (show i < L.length by omega), w1 (show 0 ≤ ((i + 1 : Nat) : Int) by omega) (show ((i + 1 : Nat) : Int) < 9223372036854775807 by omega)]
    exact Ev.pos (by rw [ints_len]; omega) (Ev.pos (by omega) (Ev.pos (by omega) (Ev.pos (by rw [ints_len]; omega) (Ev.neg (by omega) ih))))
theorem isSorted_l0 (L : List Nat) (hL : L.length ≤ 12) (hu : L.Pairwise fun x y => x ≤ y) : ∀ (i : Nat), i < L.length → Ev (fun k => slices_IsSorted_int_int.l0 k (intsOf L) (i : Int)) true
  | 0, _ => by
    refine Ev.succ ?_
    simp only [slices_IsSorted_int_int.l0]
    exact Ev.neg (by omega) (Ev.now _)
  | i + 1, h1 => by
    have ih := isSorted_l0 L hL hu i (by omega)
    have hle : L[i] ≤ L[i + 1] := List.pairwise_iff_getElem.1 hu i (i + 1) (by omega) h1 (by omega)
    have e1 : Aside0 (wrap64 (((i + 1 : Nat) : Int) - 1) = (i : Int)) := ⟨by rw [w64 (by omega) (by omega)]; omega⟩
    have hless : cmp_Less_int.f ((L[i + 1] : Nat) : Int) ((L[i] : Nat) : Int) = some false := by
      unfold cmp_Less_int.f cmp_isNaN_int.f
      simp
      omega
    refine Ev.succ ?_
    simp only [slices_IsSorted_int_int.l0, ints_at L (i + 1) h1, e1.out, ints_at L i (show i < L.length by omega)]
    exact Ev.pos (by omega) (Ev.pos (by omega) (Ev.pos (by rw [ints_len]; omega) (Ev.pos (by omega) (Ev.pos (by rw [ints_len]; omega) (Ev.known (fun _ => hless) (Ev.neg (by simp) ih))))))
/-- the first prefix code of lengths in order, if there is one: the reference's and the program's -/
theorem spec_fpc (m : Nat) (hm : 2 ≤ m ∧ m ≤ 3) (L : List Nat) (h1 : 1 ≤ L.length) (hL : L.length ≤ 12) (hb : ∀ x ∈ L, 1 ≤ x ∧ x ≤ 8) (hu : L.Pairwise fun x y => x ≤ y) (hk : kr m 8 L ≤ m ^ 8) : Ev (fun k => spec_FirstPrefixCode.f k (intsOf L) (m : Int)) (wds m L 0, true) := by
  have hq := pow_small (n := 8) hm (by omega)
  unfold spec_FirstPrefixCode.f spec_krList.f spec_krFits.f spec_krLetters.f
  have hall : ((intsOf L).all fun x => decide (1 ≤ x ∧ x ≤ 8)) = true := by
    rw [List.all_eq_true]
    intro x hx
    obtain ⟨y, hy, rfl⟩ := List.mem_map.1 hx
    have := hb y hy
    exact decide_eq_true (by omega)
  have hs := spec_all (intsOf L) 1 8 (by rw [ints_len]; omega)
  rw [hall] at hs
  have hl := krList_l0 L hL hu (L.length - 1) 0 (by omega)
  have hw := spec_fpc_l0 m hm L hL hb hu L.length 0 0 0 [] (by omega) (by simp) (by omega) (by simp [kr]) (fun _ _ => Nat.zero_le _)
  refine Ev.bind (a := true) (Ev.known (fun _ => by rw [spec_in, Option.bind_some]) (Ev.pos (decide_eq_true (by omega)) (Ev.neg (by rw [ints_len]; omega) (Ev.bind hs (Ev.succ ?_))))) (Ev.pos rfl (Ev.bind (a := true) (Ev.bind (spec_krShares_ev m hm L hL hb) (Ev.bind (krPower_ev m 8 (by omega) (by omega) (by omega)) (Ev.pure (decide_eq_true (by omega))))) (Ev.succ ?_)))
  · simp only [spec_krList.j0]
    exact Ev.neg (by simp) hl
  · simp only [spec_FirstPrefixCode.j0]
    refine Ev.neg (by simp) ?_
    rw [ints_len]
    simpa [kr] using hw
theorem impl_fpc (m : Nat) (hm : 2 ≤ m ∧ m ≤ 3) (L : List Nat) (h1 : 1 ≤ L.length) (hL : L.length ≤ 12) (hb : ∀ x ∈ L, 1 ≤ x ∧ x ≤ 8) (hu : L.Pairwise fun x y => x ≤ y) : Ev (fun k => impl_FirstPrefixCode.f k (intsOf L) (m : Int)) (if kr m 8 L ≤ m ^ 8 then (wds m L 0, true) else ([], false)) := by
  have hq := pow_small (n := 8) hm (by omega)
  unfold impl_FirstPrefixCode.f impl_areLengths.f impl_canBePrefix.f
  have hany : ((intsOf L).any fun x => !decide (1 ≤ x ∧ x ≤ 8)) = false := by
    rw [List.any_eq_false]
    intro x hx
    obtain ⟨y, hy, rfl⟩ := List.mem_map.1 hx
    have := hb y hy
    rw [decide_eq_true (by omega)]
    simp
  have hc := impl_areLengths__1_contains (intsOf L) (by rw [ints_len]; omega)
  rw [hany] at hc
  have hl := isSorted_l0 L hL hu (L.length - 1) (by omega)
  have e1 : Aside0 (wrap64 ((L.length : Int) - 1) = ((L.length - 1 : Nat) : Int)) := ⟨by rw [w64 (by omega) (by omega)]; omega⟩
  have hs : Ev (fun k => slices_IsSorted_int_int.f k (intsOf L)) true := by
    unfold slices_IsSorted_int_int.f
    rw [ints_len, e1.out]
    exact hl
  have hw := impl_fpc_l0 m hm L hL hb L.length 0 [] (by omega) (by simp)
  refine Ev.known (fun _ => by rw [areLetters_eq]) (Ev.pos (decide_eq_true (by omega)) (Ev.bind (a := true) (Ev.pos (by rw [ints_len]; omega) (Ev.bind hs (Ev.pos rfl (Ev.bind hc (Ev.now _))))) (Ev.pos rfl (Ev.bind (Ev.bind (impl_parts_ev m hm L hL hb) (Ev.bind (power_ev m 8 (by omega) (by omega) (by omega)) (Ev.now _))) (Ev.succ ?_)))))
  simp only [impl_FirstPrefixCode.j0]
  by_cases hk : kr m 8 L ≤ m ^ 8
  · rw [if_pos hk]
    refine Ev.neg (by rw [decide_eq_true (show ((kr m 8 L : Nat) : Int) ≤ ((m ^ 8 : Nat) : Int) by omega)]; simp) ?_
    rw [ints_len]
    simpa [kr] using hw
  · rw [if_neg hk]
    exact Ev.pos (by rw [decide_eq_false (show ¬ ((kr m 8 L : Nat) : Int) ≤ ((m ^ 8 : Nat) : Int) by omega)]; rfl) (Ev.now _)

theorem mx_more (a b : Int) : decide (mx a b > 8) = (decide (a > 8) || decide (b > 8)) := by
  unfold mx
  by_cases h1 : a > 8 <;> by_cases h2 : b > 8 <;> simp [h1, h2] <;> omega
theorem max_l0 (l : List Int) (hl : l.length ≤ 1048576) : ∀ (d i : Nat) (x3 : Int), i + d = l.length → ∃ r, Ev (fun k => slices_Max_int_int.l0 k l x3 (i : Int)) r ∧ decide (r > 8) = (decide (x3 > 8) || (l.drop i).any fun x => decide (x > 8))
  | 0, i, x3, hd => ⟨x3, Ev.succ (by simp only [slices_Max_int_int.l0]; exact Ev.neg (by omega) (Ev.now _)), by rw [List.drop_of_length_le (by omega)]; simp⟩
  | d + 1, i, x3, hd => by
    have h1 : i < l.length := by omega
    obtain ⟨r, h, hr⟩ := max_l0 l hl d (i + 1) (mx x3 l[i]) (by omega)
    refine ⟨r, Ev.succ ?_, by rw [hr, mx_more, List.drop_eq_getElem_cons h1, List.any_cons, Bool.or_assoc]⟩
    simp only [slices_Max_int_int.l0, rd_nat l i h1, w1 (show 0 ≤ (i : Int) by omega) (show (i : Int) < 9223372036854775807 by omega)]
    exact Ev.pos (by omega) (Ev.pos (by omega) h)
theorem max_ev (l : List Int) (hl : l.length ≤ 1048576) (h0 : 0 < l.length) : ∃ r, Ev (fun k => slices_Max_int_int.f k l) r ∧ decide (r > 8) = l.any fun x => decide (x > 8) := by
  obtain ⟨r, h, hr⟩ := max_l0 l hl (l.length - 1) 1 l[0] (by omega)
  refine ⟨r, ?_, ?_⟩
  · unfold slices_Max_int_int.f
    have e : rd l 0 = l[0] := rd_nat l 0 h0
    rw [e]
    exact Ev.neg (by omega) (Ev.pos (by omega) h)
  · rw [hr]
    have : l.any (fun x => decide (x > 8)) = (l.drop 0).any (fun x => decide (x > 8)) := by simp
    rw [this, List.drop_eq_getElem_cons h0, List.any_cons]
theorem fill_append (W : List ByteArray) : ∀ (a b : List Nat) (k : Nat) (out : List ByteArray), impl_WordsFor.fill W (a ++ b) k out = impl_WordsFor.fill W b (k + a.length) (impl_WordsFor.fill W a k out)
  | [], b, k, out => by simp [impl_WordsFor.fill]
  | x :: a, b, k, out => by
    rw [List.cons_append, impl_WordsFor.fill, fill_append W a b (k + 1), impl_WordsFor.fill, List.length_cons, show k + 1 + a.length = k + (a.length + 1) by omega]
theorem fill_length (W : List ByteArray) : ∀ (a : List Nat) (k : Nat) (out : List ByteArray), (impl_WordsFor.fill W a k out).length = out.length
  | [], k, out => rfl
  | x :: a, k, out => by rw [impl_WordsFor.fill, fill_length W a, List.length_set]
/-- the places of one length, from i on -/
def ofLen (L : List Nat) (s i d : Nat) : List Nat := (List.range' i d).filter fun j => decide (L.getD j 0 = s)
def byLen (L : List Nat) (s e : Nat) : List Nat := (List.range' s e).flatMap fun s => ofLen L s 0 L.length
theorem wf_l2 (L : List Nat) (hL : L.length ≤ 12) (W : List ByteArray) (hW : W.length = L.length) (s : Nat) (hs : s ≤ 8) (r : List ByteArray × Bool) : ∀ (d i at_ : Nat) (out : List ByteArray), i + d = L.length → out.length = L.length → at_ + (ofLen L s i d).length ≤ L.length →
    Ev (fun k => spec_WordsFor.l1 k (intsOf L) W (impl_WordsFor.fill W (ofLen L s i d) at_ out) ((at_ + (ofLen L s i d).length : Nat) : Int) ((s + 1 : Nat) : Int)) r → Ev (fun k => spec_WordsFor.l2 k (intsOf L) W out (at_ : Int) (s : Int) (intsOf L) (L.length : Int) (i : Int)) r
  | 0, i, at_, out, hd, ho, ha, next => by
    have e1 : Aside0 (wrap64 ((s : Int) + 1) = ((s + 1 : Nat) : Int)) := ⟨by rw [w64 (by omega) (by omega)]; omega⟩
    refine Ev.succ ?_
    simp only [spec_WordsFor.l2, e1.out]
    exact Ev.neg (by omega) (by simpa [ofLen, impl_WordsFor.fill] using next)
  | d + 1, i, at_, out, hd, ho, ha, next => by
    have h1 : i < L.length := by omega
    have hcons : List.range' i (d + 1) = i :: List.range' (i + 1) d := List.range'_succ ..
    have hg : L.getD i 0 = L[i] := by simp [List.getD_eq_getElem?_getD, h1]
    by_cases hx : L[i] = s
    · have hof : ofLen L s i (d + 1) = i :: ofLen L s (i + 1) d := by
        unfold ofLen
        rw [hcons, List.filter_cons_of_pos (by rw [hg]; exact decide_eq_true hx)]
      rw [hof, List.length_cons] at ha next
      rw [impl_WordsFor.fill] at next
      have hat : at_ < W.length := by omega
      have hwg : W.getD at_ ByteArray.empty = W[at_] := by simp [List.getD_eq_getElem?_getD, hat]
      rw [hwg, show at_ + ((ofLen L s (i + 1) d).length + 1) = at_ + 1 + (ofLen L s (i + 1) d).length by omega] at next
      have ih := wf_l2 L hL W hW s hs r d (i + 1) (at_ + 1) (out.set i W[at_]) (by omega) (by rw [List.length_set]; exact ho) (by omega) next
      refine Ev.succ ?_
      simp only [spec_WordsFor.l2, ints_at L i h1, rdOf_nat W at_ hat, Int.toNat_natCast, w1 (show 0 ≤ (i : Int) by omega) (show (i : Int) < 9223372036854775807 by omega), w1 (show 0 ≤ (at_ : Int) by omega) (show (at_ : Int) < 9223372036854775807 by omega)]
      exact Ev.pos (by omega) (Ev.pos (by omega) (Ev.pos (by rw [ints_len]; omega) (Ev.pos (by omega) (Ev.pos (by omega) (Ev.pos (by omega) (Ev.pos (by omega) ih))))))
    · have hof : ofLen L s i (d + 1) = ofLen L s (i + 1) d := by
        unfold ofLen
        rw [hcons, List.filter_cons_of_neg (by rw [hg]; simpa using hx)]
      rw [hof] at ha next
      have ih := wf_l2 L hL W hW s hs r d (i + 1) at_ out (by omega) ho ha next
      refine Ev.succ ?_
      simp only [spec_WordsFor.l2, ints_at L i h1, w1 (show 0 ≤ (i : Int) by omega) (show (i : Int) < 9223372036854775807 by omega)]
      exact Ev.pos (by omega) (Ev.pos (by omega) (Ev.pos (by rw [ints_len]; omega) (Ev.neg (by omega) ih)))
theorem wf_l1 (L : List Nat) (hL : L.length ≤ 12) (W : List ByteArray) (hW : W.length = L.length) : ∀ (e s at_ : Nat) (out : List ByteArray), s + e = 9 → out.length = L.length → at_ + (byLen L s e).length ≤ L.length → Ev (fun k => spec_WordsFor.l1 k (intsOf L) W out (at_ : Int) (s : Int)) (impl_WordsFor.fill W (byLen L s e) at_ out, true)
  | 0, s, at_, out, he, ho, ha => by
    refine Ev.succ ?_
    simp only [spec_WordsFor.l1]
    exact Ev.neg (by omega) (Ev.pure (by simp [byLen, impl_WordsFor.fill]))
  | e + 1, s, at_, out, he, ho, ha => by
    have hb : byLen L s (e + 1) = ofLen L s 0 L.length ++ byLen L (s + 1) e := by
      unfold byLen
      rw [List.range'_succ, List.flatMap_cons]
    rw [hb, List.length_append] at ha
    rw [hb, fill_append]
    have ih := wf_l1 L hL W hW e (s + 1) (at_ + (ofLen L s 0 L.length).length) (impl_WordsFor.fill W (ofLen L s 0 L.length) at_ out) (by omega) (by rw [fill_length]; exact ho) (by omega)
    refine Ev.succ ?_
    simp only [spec_WordsFor.l1, ints_len]
    exact Ev.pos (by omega) (wf_l2 L hL W hW s (by omega) _ L.length 0 at_ out (by omega) ho (by omega) ih)
theorem ofLen_mem (L : List Nat) (s x : Nat) : x ∈ ofLen L s 0 L.length ↔ x < L.length ∧ L.getD x 0 = s := by
  unfold ofLen
  rw [List.mem_filter, List.mem_range'_1, decide_eq_true_eq]
  omega
theorem byLen_strict (L : List Nat) (s e : Nat) : (byLen L s e).Pairwise (fun x y => plLt (intsOf L) x y = true) := by
  have hget : ∀ x, (intsOf L).getD x 0 = ((L.getD x 0 : Nat) : Int) := fun x => by
    unfold intsOf
    simp only [List.getD_eq_getElem?_getD, List.getElem?_map]
    cases L[x]? <;> rfl
  unfold byLen
  rw [List.pairwise_flatMap]
  refine ⟨fun a _ => ?_, ?_⟩
  · have h1 : (List.range' 0 L.length).Pairwise (fun x y => x < y) := List.pairwise_lt_range'
    refine (h1.sublist (List.filter_sublist)).imp_of_mem (R := fun x y => x < y) ?_
    intro x y hx hy hxy
    have hx' := (ofLen_mem L a x).1 hx
    have hy' := (ofLen_mem L a y).1 hy
    unfold plLt
    rw [decide_eq_true_eq, hget, hget, hx'.2, hy'.2]
    exact .inr ⟨rfl, hxy⟩
  · have h1 : (List.range' s e).Pairwise (fun x y => x < y) := List.pairwise_lt_range'
    refine h1.imp ?_
    intro a b hab x hx y hy
    have hx' := (ofLen_mem L a x).1 hx
    have hy' := (ofLen_mem L b y).1 hy
    unfold plLt
    rw [decide_eq_true_eq, hget, hget, hx'.2, hy'.2]
    exact .inl (by omega)
theorem byLen_perm (L : List Nat) (hb : ∀ x ∈ L, 1 ≤ x ∧ x ≤ 8) : (byLen L 1 8).Perm (List.range L.length) := by
  have hnd : (byLen L 1 8).Nodup := (byLen_strict L 1 8).imp (fun {x y} h => by
    intro e
    subst e
    unfold plLt at h
    rw [decide_eq_true_eq] at h
    omega)
  refine (List.perm_ext_iff_of_nodup hnd List.nodup_range).2 (fun x => ?_)
  rw [List.mem_range]
  unfold byLen
  rw [List.mem_flatMap]
  constructor
  · rintro ⟨s, _, hx⟩
    exact ((ofLen_mem L s x).1 hx).1
  · intro hx
    have h1 : L.getD x 0 = L[x] := by simp [List.getD_eq_getElem?_getD, hx]
    have h2 := hb _ (List.getElem_mem hx)
    exact ⟨L.getD x 0, by rw [List.mem_range'_1, h1]; omega, (ofLen_mem L _ x).2 ⟨hx, rfl⟩⟩
theorem places_byLen (L : List Nat) (hb : ∀ x ∈ L, 1 ≤ x ∧ x ≤ 8) (h0 : 0 < L.length) : impl_WordsFor.places (intsOf L) (L.length - 1) = byLen L 1 8 := by
  have hget : ∀ x, (intsOf L).getD x 0 = ((L.getD x 0 : Nat) : Int) := fun x => by
    unfold intsOf
    simp only [List.getD_eq_getElem?_getD, List.getElem?_map]
    cases L[x]? <;> rfl
  obtain ⟨p1, p2⟩ := places_sorted (L.length - 1) (intsOf L) (fun x => by
    rw [hget, List.getD_eq_getElem?_getD]
    by_cases hx : x < L.length
    · have := hb _ (List.getElem_mem hx)
      rw [List.getElem?_eq_getElem hx, Option.getD_some]
      omega
    · rw [List.getElem?_eq_none (by omega)]
      simp)
  rw [show L.length - 1 + 1 = L.length by omega] at p2
  refine List.Perm.eq_of_pairwise (le := fun x y => plLt (intsOf L) y x = false) (fun x y _ _ h1 h2 => plLt_anti _ x y h2 h1) p1 ((byLen_strict L 1 8).imp ?_) (p2.trans (byLen_perm L hb).symm)
  intro x y h
  unfold plLt at *
  rw [decide_eq_true_eq] at h
  rw [decide_eq_false_iff_not]
  omega

theorem toIntS_l0 (l : List Int) (hl : l.length ≤ 1048576) : ∀ (d i : Nat) (xs : List Int), i + d = l.length → xs.length = l.length → xs.take i = l.take i → Ev (fun k => laws_toIntS.l0 k l xs (i : Int)) l
  | 0, i, xs, hd, hx, ht => by
    refine Ev.step (f := fun _ => some xs) (fun k => ?_) (Ev.pure ?_)
    · simp only [laws_toIntS.l0]; rw [if_neg (by omega)]
    · rw [List.take_of_length_le (by omega), List.take_of_length_le (by omega)] at ht; exact ht
  | d + 1, i, xs, hd, hx, ht => by
    refine Ev.step (f := fun k => laws_toIntS.l0 k l (xs.set i (rd l i)) ((i + 1 : Nat) : Int)) (fun k => ?_) (toIntS_l0 l hl d (i + 1) _ (by omega) (by simp [hx]) ?_)
    · simp only [laws_toIntS.l0]; rw [if_pos (by omega), if_pos (by omega), if_pos (by omega), w1 (by omega) (by omega)]; simp
    · have h1 : i < l.length := by omega
      have h2 : i < (xs.set i (rd l i)).length := by simp; omega
      have e := rd_nat l i h1
      rw [List.take_succ_eq_append_getElem h2, List.take_succ_eq_append_getElem h1, List.take_set, List.set_eq_of_length_le (by simp; omega), ht]
      simp [e]
theorem toIntS_ev (l : List Int) (hl : l.length ≤ 1048576) : Ev (fun k => laws_toIntS.f k l) l := by
  unfold laws_toIntS.f
  refine Ev.pos (by omega) (Ev.pos (by omega) ?_)
  have h := toIntS_l0 l hl l.length 0 (List.replicate l.length 0) (by omega) (by simp) (by simp)
  simpa using h
theorem eqIntS_l0 (l : List Int) (hl : l.length ≤ 1048576) : ∀ (d i : Nat), i + d = l.length → Ev (fun k => laws_eqIntS.l0 k l l (i : Int)) true
  | 0, i, hd => Ev.step (f := fun _ => some true) (fun k => by simp only [laws_eqIntS.l0]; rw [if_neg (by omega)]) (Ev.now _)
  | d + 1, i, hd => by
    refine Ev.step (f := fun k => laws_eqIntS.l0 k l l ((i + 1 : Nat) : Int)) (fun k => ?_) (eqIntS_l0 l hl d (i + 1) (by omega))
    simp only [laws_eqIntS.l0]; rw [if_pos (by omega), if_pos (by omega), if_pos (by omega), if_pos trivial, w1 (by omega) (by omega)]; simp
theorem eqIntS_ev (l : List Int) (hl : l.length ≤ 1048576) : Ev (fun k => laws_eqIntS.f k l l) true := by
  unfold laws_eqIntS.f
  exact Ev.pos rfl (by simpa using eqIntS_l0 l hl l.length 0 (by omega))




theorem eqS_l0 (l : List ByteArray) (hl : l.length ≤ 1048576) : ∀ (d i : Nat), i + d = l.length → Ev (fun k => laws_eqStringS.l0 k l l (i : Int)) true
  | 0, i, hd => Ev.step (f := fun _ => some true) (fun k => by simp only [laws_eqStringS.l0]; rw [if_neg (by omega)]) (Ev.now _)
  | d + 1, i, hd => by
    refine Ev.step (f := fun k => laws_eqStringS.l0 k l l ((i + 1 : Nat) : Int)) (fun k => ?_) (eqS_l0 l hl d (i + 1) (by omega))
    simp only [laws_eqStringS.l0]; rw [if_pos (by omega), if_pos (by omega), if_pos (by omega), if_pos trivial, w1 (by omega) (by omega)]; simp
theorem eqS_ev (l : List ByteArray) (hl : l.length ≤ 1048576) : Ev (fun k => laws_eqStringS.f k l l) true := by
  unfold laws_eqStringS.f
  exact Ev.pos rfl (by simpa using eqS_l0 l hl l.length 0 (by omega))


theorem strOfNums_one (x : Int) : (strOfNums [x]).size = 1 := by simp [strOfNums, ByteArray.size]
theorem markText_l0 : ∀ (d n : Nat) (s : ByteArray), n < 10 ^ d → n < 4611686018427387904 → s.size + d ≤ 1000 → ∃ t, Ev (fun k => laws_markText.l0 k (n : Int) s) t
  | 0, n, s, hn, _, hs => by
    refine ⟨(⟨#[109]⟩ : ByteArray) ++ s, Ev.succ ?_⟩
    simp only [laws_markText.l0]
    exact Ev.neg (by omega) (Ev.pos (by omega) (Ev.now _))
  | d + 1, n, s, hn, hb, hs => by
    by_cases h0 : n = 0
    · refine ⟨(⟨#[109]⟩ : ByteArray) ++ s, Ev.succ ?_⟩
      simp only [laws_markText.l0]
      exact Ev.neg (by omega) (Ev.pos (by omega) (Ev.now _))
    · have e0 : (strOfNums [(wrap64 (48 + (Int.tmod (n : Int) 10))) % 256]).size = 1 := strOfNums_one _
      have hq : n / 10 < 10 ^ d := by rw [Nat.pow_succ] at hn; omega
      obtain ⟨t, ht⟩ := markText_l0 d (n / 10) (strOfNums [(wrap64 (48 + (Int.tmod (n : Int) 10))) % 256] ++ s) hq (by omega) (by rw [ByteArray.size_append, e0]; omega)
      have e2 : Aside0 (wrap64 (Int.tdiv (n : Int) 10) = ((n / 10 : Nat) : Int)) := ⟨by
        rw [show (10 : Int) = ((10 : Nat) : Int) from rfl, ← Int.ofNat_tdiv]; exact w64 (by omega) (by omega)⟩
      refine ⟨t, Ev.succ ?_⟩
      simp only [laws_markText.l0, e2.out]
      exact Ev.pos (by omega) (Ev.known (fun _ => rfl) (Ev.pos (by rw [e0]; omega) ht))
theorem marks : ∃ mt : Nat → ByteArray, ∀ n : Nat, n ≤ 1048577 → Ev (fun k => laws_markText.f k (n : Int)) (mt n) := by
  have h : ∀ n : Nat, ∃ t, n ≤ 1048577 → Ev (fun k => laws_markText.f k (n : Int)) t := by
    intro n
    by_cases hn : n ≤ 1048577
    · by_cases h0 : n = 0
      · exact ⟨_, fun _ => Ev.pos (by omega) (Ev.now _)⟩
      · obtain ⟨t, ht⟩ := markText_l0 7 n ⟨#[]⟩ (by omega) (by omega) (by decide)
        exact ⟨t, fun _ => Ev.neg (by omega) ht⟩
    · exact ⟨ByteArray.empty, fun h => absurd h hn⟩
  exact ⟨fun n => (h n).choose, fun n hn => (h n).choose_spec hn⟩
/-- n texts, all different -/
def marked (mt : Nat → ByteArray) (n : Nat) : List ByteArray := (List.range n).map fun j => mt (j + 1)
theorem marked_length (mt : Nat → ByteArray) (n : Nat) : (marked mt n).length = n := by simp [marked]
theorem markS_l0 (mt : Nat → ByteArray) (hmt : ∀ n : Nat, n ≤ 1048577 → Ev (fun k => laws_markText.f k (n : Int)) (mt n)) (n : Nat) (hn : n ≤ 1048576) : ∀ (d i : Nat) (xs : List ByteArray), i + d = n → xs.length = n → xs.take i = (marked mt n).take i → Ev (fun k => laws_markStringS.l0 k xs ((i + 1 : Nat) : Int) (i : Int)) (((n + 1 : Nat) : Int), marked mt n)
  | 0, i, xs, hd, hx, ht => by
    refine Ev.succ ?_
    simp only [laws_markStringS.l0]
    refine Ev.neg (by omega) (Ev.pure ?_)
    have := marked_length mt n
    rw [List.take_of_length_le (by omega), List.take_of_length_le (by omega)] at ht
    rw [ht, show i = n by omega]
  | d + 1, i, xs, hd, hx, ht => by
    have hlen := marked_length mt n
    have h1 : i < (marked mt n).length := by omega
    have ih := markS_l0 mt hmt n hn d (i + 1) (xs.set i (mt (i + 1))) (by omega) (by simp [hx]) (by
      have h2 : i < (xs.set i (mt (i + 1))).length := by simp; omega
      rw [List.take_succ_eq_append_getElem h2, List.take_succ_eq_append_getElem h1, List.take_set, List.set_eq_of_length_le (by simp; omega), ht]
      simp [marked])
    refine Ev.succ ?_
    simp only [laws_markStringS.l0, w1 (show 0 ≤ (i : Int) by omega) (show (i : Int) < 9223372036854775807 by omega), w1 (show 0 ≤ ((i + 1 : Nat) : Int) by omega) (show ((i + 1 : Nat) : Int) < 9223372036854775807 by omega)]
    exact Ev.pos (by omega) (Ev.bind (hmt (i + 1) (by omega)) (Ev.pos (by omega) ih))
theorem markS_ev {mt : Nat → ByteArray} (hmt : ∀ n : Nat, n ≤ 1048577 → Ev (fun k => laws_markText.f k (n : Int)) (mt n)) (xs : List ByteArray) (hn : xs.length ≤ 1048576) : Ev (fun k => laws_markStringS.f k xs 1) (((xs.length + 1 : Nat) : Int), marked mt xs.length) :=
  markS_l0 mt hmt xs.length hn xs.length 0 xs (by omega) rfl rfl

theorem heldS_l0 (mt : Nat → ByteArray) (hmt : ∀ n : Nat, n ≤ 1048577 → Ev (fun k => laws_markText.f k (n : Int)) (mt n)) (n : Nat) (hn : n ≤ 1048576) : ∀ (d i : Nat), i + d = n → Ev (fun k => laws_heldStringS.l0 k (marked mt n) ((i + 1 : Nat) : Int) (i : Int)) ((n + 1 : Nat) : Int)
  | 0, i, hd => by
    have hlen := marked_length mt n
    refine Ev.succ ?_
    simp only [laws_heldStringS.l0]
    exact Ev.neg (by omega) (Ev.pure (by rw [show i = n by omega]))
  | d + 1, i, hd => by
    have hlen := marked_length mt n
    have h1 : i < (marked mt n).length := by omega
    have ih := heldS_l0 mt hmt n hn d (i + 1) (by omega)
    refine Ev.succ ?_
    simp only [laws_heldStringS.l0, rdOf_nat _ i h1, w1 (show 0 ≤ (i : Int) by omega) (show (i : Int) < 9223372036854775807 by omega), w1 (show 0 ≤ ((i + 1 : Nat) : Int) by omega) (show ((i + 1 : Nat) : Int) < 9223372036854775807 by omega)]
    exact Ev.pos (by omega) (Ev.pos (by omega) (Ev.bind (hmt (i + 1) (by omega)) (Ev.pos (by simp [marked]) ih)))
theorem heldS_ev {mt : Nat → ByteArray} (hmt : ∀ n : Nat, n ≤ 1048577 → Ev (fun k => laws_markText.f k (n : Int)) (mt n)) (n : Nat) (hn : n ≤ 1048576) : Ev (fun k => laws_heldStringS.f k (marked mt n) 1) ((n + 1 : Nat) : Int) :=
  heldS_l0 mt hmt n hn n 0 (by omega)

theorem markI_ev (l : List Int) (hl : l.length ≤ 1048576) : ∃ r : Int × List Int, Ev (fun k => laws_markIntS.f k l 1) r ∧ 0 ≤ r.1 := by
  have h : ∀ (d i : Nat) (xs : List Int), i + d = l.length → xs.length = l.length → ∃ r : Int × List Int, Ev (fun k => laws_markIntS.l0 k xs ((i + 1 : Nat) : Int) (i : Int)) r ∧ 0 ≤ r.1 := by
    intro d
    induction d with
    | zero =>
      intro i xs hd hx
      exact ⟨(((i + 1 : Nat) : Int), xs), Ev.succ (by simp only [laws_markIntS.l0]; exact Ev.neg (by omega) (Ev.now _)), by simp; omega⟩
    | succ d ih =>
      intro i xs hd hx
      obtain ⟨r, hr, h0⟩ := ih (i + 1) (xs.set i ((i + 1 : Nat) : Int)) (by omega) (by simp [hx])
      refine ⟨r, Ev.succ ?_, h0⟩
      simp only [laws_markIntS.l0, Int.toNat_natCast, w1 (show 0 ≤ (i : Int) by omega) (show (i : Int) < 9223372036854775807 by omega), w1 (show 0 ≤ ((i + 1 : Nat) : Int) by omega) (show ((i + 1 : Nat) : Int) < 9223372036854775807 by omega)]
      exact Ev.pos (by omega) (Ev.pos (by omega) hr)
  exact h l.length 0 l (by omega) rfl

theorem sortI_up (l : List Int) : (sortI l).Pairwise fun x y => x ≤ y := by
  have h := List.pairwise_mergeSort (le := fun x y : Int => decide (x ≤ y)) (fun a b c h1 h2 => by simp at h1 h2 ⊢; omega) (fun a b => by simp; omega) l
  exact h.imp fun {a b} h => by simpa using h
theorem sortI_perm (l : List Int) : (sortI l).Perm l := List.mergeSort_perm l _
theorem up_unique {a b : List Int} (ha : a.Pairwise fun x y => x ≤ y) (hb : b.Pairwise fun x y => x ≤ y) (h : a.Perm b) : a = b :=
  List.Perm.eq_of_pairwise (le := fun x y : Int => x ≤ y) (fun x y _ _ h1 h2 => by omega) ha hb h
theorem sortI_of {a b : List Int} (ha : a.Pairwise fun x y => x ≤ y) (h : a.Perm b) : a = sortI b := up_unique ha (sortI_up b) (h.trans (sortI_perm b).symm)
theorem sortI_len (l : List Int) : (sortI l).length = l.length := (sortI_perm l).length_eq
theorem sortI_nil : sortI [] = [] := (sortI_of (by simp) (List.Perm.refl _)).symm

theorem l1Own_ev (l : List Int) (h : l.length ≤ 1048576) : spec_l1Own.f l = some l := by
  unfold spec_l1Own.f
  rw [Option.bind_some, if_pos (by simp; omega)]
  simp
/-- putting a number into an ordered list -/
theorem bePut_l0 (L : List Int) (x : Int) (hL : L.length ≤ 1000) (hu : L.Pairwise fun x y => x ≤ y) : ∀ (d i : Nat), i + d = L.length → (∀ j (h : j < L.length), j < i → L[j] ≤ x) → Ev (fun k => spec_bePut.l0 k L x (i : Int)) (sortI (L ++ [x])) := by
  have fin : ∀ i, i ≤ L.length → (∀ j (h : j < L.length), j < i → L[j] ≤ x) → (∀ j (h : j < L.length), i ≤ j → x ≤ L[j]) → L.take i ++ [x] ++ L.drop i = sortI (L ++ [x]) := by
    intro i hi h1 h2
    refine sortI_of ?_ ?_
    · rw [List.pairwise_append, List.pairwise_append]
      refine ⟨⟨hu.sublist (List.take_sublist _ _), by simp, ?_⟩, hu.sublist (List.drop_sublist _ _), ?_⟩
      · intro a ha b hb
        rw [List.mem_singleton] at hb
        subst hb
        obtain ⟨j, hj, rfl⟩ := List.getElem_of_mem ha
        rw [List.length_take] at hj
        rw [List.getElem_take]
        exact h1 j (by omega) (by omega)
      · intro a ha b hb
        obtain ⟨j, hj, rfl⟩ := List.getElem_of_mem hb
        rw [List.length_drop] at hj
        rw [List.getElem_drop]
        have hb' := h2 (i + j) (by omega) (by omega)
        rcases List.mem_append.1 ha with ha | ha
        · obtain ⟨j', hj', rfl⟩ := List.getElem_of_mem ha
          rw [List.length_take] at hj'
          rw [List.getElem_take]
          have := h1 j' (by omega) (by omega)
          omega
        · rw [List.mem_singleton] at ha
          subst ha
          exact hb'
    · have e : (L ++ [x]).Perm (L.take i ++ L.drop i ++ [x]) := by rw [List.take_append_drop]
      refine List.Perm.trans ?_ e.symm
      rw [List.append_assoc, List.append_assoc]
      exact List.Perm.append_left _ List.perm_append_comm
  intro d
  induction d with
  | zero =>
    intro i hd h1
    have hf := fin i (by omega) h1 (fun j hj h => by omega)
    refine Ev.succ ?_
    simp only [spec_bePut.l0, Int.toNat_natCast]
    refine Ev.neg (by omega) (Ev.pos (by omega) (Ev.pos (by omega) (Ev.known (fun _ => l1Own_ev _ (by rw [List.length_take]; omega)) (Ev.pos (by rw [List.length_take]; omega) (Ev.known (fun _ => rfl) (Ev.pos (by simp; omega) (Ev.pure hf)))))))
  | succ d ih =>
    intro i hd h1
    have hi : i < L.length := by omega
    refine Ev.succ ?_
    simp only [spec_bePut.l0, Int.toNat_natCast, rd_nat L i hi, w1 (show 0 ≤ (i : Int) by omega) (show (i : Int) < 9223372036854775807 by omega)]
    refine Ev.pos (by omega) (Ev.pos (by omega) (Ev.cases (fun h => ?_) (fun h => ?_)))
    · exact ih (i + 1) (by omega) (fun j hj hji => by
        by_cases e : j = i
        · subst e; exact h
        · exact h1 j hj (by omega))
    · have hf := fin i (by omega) h1 (fun j hj hij => by
        by_cases e : j = i
        · subst e; omega
        · have := List.pairwise_iff_getElem.1 hu i j hi hj (by omega)
          omega)
      exact Ev.pos (by omega) (Ev.known (fun _ => l1Own_ev _ (by rw [List.length_take]; omega)) (Ev.pos (by rw [List.length_take]; omega) (Ev.known (fun _ => rfl) (Ev.pos (by simp; omega) (Ev.pure hf)))))
theorem bePut_ev (L : List Int) (x : Int) (hL : L.length ≤ 1000) (hu : L.Pairwise fun x y => x ≤ y) : Ev (fun k => spec_bePut.f k L x) (sortI (L ++ [x])) :=
  bePut_l0 L x hL hu L.length 0 (by omega) (fun j _ h => by omega)
theorem sortI_put (l : List Int) (x : Int) : sortI (sortI l ++ [x]) = sortI (l ++ [x]) :=
  (sortI_of (sortI_up _) ((sortI_perm _).trans ((sortI_perm l).append_right [x])))

theorem up_l0 (m : Int) (l : List Int) (hl : l.length ≤ 12) (x0 : List Int) (r : List ByteArray × Bool) (next : Ev (fun k => (spec_FirstPrefixCode.f k (sortI l) m).bind fun bt170 => (if 0 ≤ (x0.length : Int) then (if ((x0.length : Int) : Int).toNat ≤ 17592186044416 then (spec_WordsFor.l1 k x0 bt170.1 (List.replicate ((x0.length : Int) : Int).toNat (⟨#[]⟩ : ByteArray)) 0 1) else (none)) else (none))) r) :
    ∀ (d i : Nat), i + d = l.length → Ev (fun k => spec_WordsFor.l0 k x0 m (sortI (l.take i)) l (l.length : Int) (i : Int)) r
  | 0, i, hd => by
    rw [List.take_of_length_le (by omega)]
    refine Ev.succ ?_
    simp only [spec_WordsFor.l0]
    exact Ev.neg (by omega) next
  | d + 1, i, hd => by
    have h1 : i < l.length := by omega
    have ih := up_l0 m l hl x0 r next d (i + 1) (by omega)
    have hb := bePut_ev (sortI (l.take i)) l[i] (by rw [sortI_len, List.length_take]; omega) (sortI_up _)
    rw [sortI_put] at hb
    rw [List.take_succ_eq_append_getElem h1] at ih
    refine Ev.succ ?_
    simp only [spec_WordsFor.l0, rd_nat l i h1, w1 (show 0 ≤ (i : Int) by omega) (show (i : Int) < 9223372036854775807 by omega)]
    exact Ev.pos (by omega) (Ev.pos (by omega) (Ev.pos (by omega) (Ev.bind hb ih)))
theorem ints_of (l : List Int) (h : ∀ x ∈ l, 1 ≤ x) : l = intsOf (l.map Int.toNat) := by
  unfold intsOf
  rw [List.map_map]
  conv => lhs; rw [← List.map_id l]
  apply List.map_congr_left
  intro x hx
  have := h x hx
  simp
  omega
theorem wf_same (l : List Int) (m : Int) (hl : l.length ≤ 1048576) : ∃ r, Ev (fun k => spec_WordsFor.f k l m) r ∧ Ev (fun k => impl_WordsFor.f k l m) r ∧ r.1.length ≤ 12 := by
  unfold spec_WordsFor.f impl_WordsFor.f spec_krLetters.f
  have a1 := beLengths_ev l hl
  have a2 := impl_areDeep_ev l hl
  have a3 := spec_all l 1 8 hl
  have a4 := areLetters_eq m
  have a5 : ((spec_l1In.f m 2 3).bind fun t145 => some t145) = some (decide (2 ≤ m ∧ m ≤ 3)) := by rw [spec_in, Option.bind_some]
  have bad : ∀ g : Nat → Option (List ByteArray × Bool), (∀ k, g (k + 1) = spec_WordsFor.j0 (k + 1) l m true) → Ev g ([], false) := fun g hg => Ev.succ (by
    simp only [hg, spec_WordsFor.j0]
    exact Ev.pos trivial (Ev.now _))
  generalize hB : decide (2 ≤ m ∧ m ≤ 3) = B at a4 a5
  generalize hA : (decide (1 ≤ (l.length : Int) ∧ (l.length : Int) ≤ 12) && l.all fun x => decide (1 ≤ x ∧ x ≤ 11)) = A at a1 a2
  cases A with
  | false =>
    refine ⟨([], false), ?_, Ev.bind a2 (Ev.neg (by simp) (Ev.now _)), by simp⟩
    cases B with
    | false => exact Ev.known (fun _ => a5) (Ev.neg (by simp) (bad _ fun _ => rfl))
    | true => exact Ev.known (fun _ => a5) (Ev.pos rfl (Ev.bind a1 (Ev.neg (by simp) (bad _ fun _ => rfl))))
  | true =>
    have hn : 1 ≤ l.length ∧ l.length ≤ 12 := by simp only [Bool.and_eq_true, decide_eq_true_eq] at hA; omega
    have hall : ∀ x ∈ l, 1 ≤ x ∧ x ≤ 11 := by
      simp only [Bool.and_eq_true, List.all_eq_true, decide_eq_true_eq] at hA
      exact hA.2
    obtain ⟨mxv, hmx, hmxv⟩ := max_ev l hl (by omega)
    by_cases h8 : ∀ x ∈ l, x ≤ 8
    · have hC : (l.all fun x => decide (1 ≤ x ∧ x ≤ 8)) = true := by
        rw [List.all_eq_true]
        intro x hx
        have := hall x hx
        have := h8 x hx
        exact decide_eq_true (by omega)
      rw [hC] at a3
      have hnm : ¬ mxv > 8 := by
        have : (l.any fun x => decide (x > 8)) = false := by
          rw [List.any_eq_false]
          intro x hx
          have := h8 x hx
          simp
          omega
        rw [this] at hmxv
        simpa using hmxv
      cases B with
      | false => exact ⟨([], false), Ev.known (fun _ => a5) (Ev.neg (by simp) (bad _ fun _ => rfl)), Ev.bind a2 (Ev.pos rfl (Ev.bind hmx (Ev.neg hnm (Ev.known (fun _ => a4) (Ev.neg (by simp) (Ev.now _)))))), by simp⟩
      | true =>
        have hm0 : 2 ≤ m ∧ m ≤ 3 := by simpa using hB
        obtain ⟨mn, rfl⟩ : ∃ n : Nat, m = (n : Int) := ⟨m.toNat, by omega⟩
        have hm : 2 ≤ mn ∧ mn ≤ 3 := by omega
        obtain ⟨L, hLl⟩ : ∃ L : List Nat, l = intsOf L := ⟨_, ints_of l (fun x hx => (hall x hx).1)⟩
        subst hLl
        have hlen : L.length = (intsOf L).length := (ints_len L).symm
        have hb8 : ∀ x ∈ L, 1 ≤ x ∧ x ≤ 8 := fun x hx => by
          have h1 := hall (x : Int) (List.mem_map.2 ⟨x, hx, rfl⟩)
          have h2 := h8 (x : Int) (List.mem_map.2 ⟨x, hx, rfl⟩)
          omega
        obtain ⟨S, hS⟩ : ∃ S : List Nat, sortI (intsOf L) = intsOf S := ⟨_, ints_of _ (fun x hx => (hall x ((sortI_perm _).mem_iff.1 hx)).1)⟩
        have hperm : S.Perm L := by
          have h1 := sortI_perm (intsOf L)
          rw [hS] at h1
          have h2 := h1.map Int.toNat
          unfold intsOf at h2
          rw [List.map_map, List.map_map] at h2
          simpa [Function.comp_def] using h2
        have hup : S.Pairwise fun x y => x ≤ y := by
          have h1 := sortI_up (intsOf L)
          rw [hS] at h1
          unfold intsOf at h1
          rw [List.pairwise_map] at h1
          exact h1.imp (fun h => by omega)
        have hSl := hperm.length_eq
        have hb8S : ∀ x ∈ S, 1 ≤ x ∧ x ≤ 8 := fun x hx => hb8 x (hperm.mem_iff.1 hx)
        have f1 := beFit_ev mn hm L (by omega) (fun x hx => by have := hb8 x hx; omega)
        have f2 := impl_fpc mn hm S (by omega) (by omega) hb8S hup
        have hq := pow_small (n := 8) hm (by omega)
        have hkr : kr mn 11 L ≤ mn ^ 11 ↔ kr mn 8 S ≤ mn ^ 8 := by
          rw [kr_up mn L (fun x hx => (hb8 x hx).2), kr_perm mn 8 hperm, show (11 : Nat) = 8 + 3 from rfl, Nat.pow_add]
          constructor
          · intro h; exact Nat.le_of_mul_le_mul_right h (Nat.pow_pos (by omega))
          · intro h; exact Nat.mul_le_mul_right _ h
        by_cases hk : kr mn 8 S ≤ mn ^ 8
        · rw [decide_eq_true (hkr.2 hk)] at f1
          rw [if_pos hk] at f2
          have f3 := spec_fpc mn hm S (by omega) (by omega) hb8S hup hk
          have hW : (wds mn S 0).length = L.length := by rw [wds_len]; exact hSl
          have hp := byLen_perm L hb8
          have hpl := hp.length_eq
          rw [List.length_range] at hpl
          have g1 := wf_l1 L (by omega) (wds mn S 0) hW 8 1 0 (List.replicate L.length ByteArray.empty) rfl (by rw [List.length_replicate]) (by omega)
          refine ⟨(impl_WordsFor.fill (wds mn S 0) (byLen L 1 8) 0 (List.replicate L.length ByteArray.empty), true), Ev.known (fun _ => a5) (Ev.pos rfl (Ev.bind a1 (Ev.pos rfl (Ev.bind a3 (Ev.pos rfl (Ev.bind f1 (Ev.succ ?_))))))), Ev.bind a2 (Ev.pos rfl (Ev.bind hmx (Ev.neg hnm (Ev.known (fun _ => a4) (Ev.pos rfl (Ev.pos (by omega) ?_)))))), ?_⟩
          · simp only [spec_WordsFor.j0]
            refine Ev.neg (by simp) ?_
            have h := up_l0 (mn : Int) (intsOf L) hn.2 (intsOf L) (impl_WordsFor.fill (wds mn S 0) (byLen L 1 8) 0 (List.replicate L.length ByteArray.empty), true) (by
              rw [hS]
              refine Ev.bind f3 (Ev.pos (by omega) (Ev.pos (by rw [ints_len]; omega) ?_))
              simp only [ints_len, Int.toNat_natCast]
              exact g1) (intsOf L).length 0 (by omega)
            rw [List.take_zero, sortI_nil] at h
            exact h
          · rw [hS]
            refine Ev.bind f2 (Ev.pos rfl (Ev.pos (by simp only [hW, ints_len]; omega) (Ev.pure ?_)))
            rw [ints_len, places_byLen L hb8 (by omega)]
          · simp only [fill_length, List.length_replicate]; omega
        · rw [decide_eq_false (fun h => hk (hkr.1 h))] at f1
          rw [if_neg hk] at f2
          refine ⟨([], false), Ev.known (fun _ => a5) (Ev.pos rfl (Ev.bind a1 (Ev.pos rfl (Ev.bind a3 (Ev.pos rfl (Ev.bind f1 (bad _ fun _ => rfl))))))), Ev.bind a2 (Ev.pos rfl (Ev.bind hmx (Ev.neg hnm (Ev.known (fun _ => a4) (Ev.pos rfl (Ev.pos (by omega) ?_)))))), by simp⟩
          rw [hS]
          exact Ev.bind f2 (Ev.neg (by simp) (Ev.now _))
    · have hC : (l.all fun x => decide (1 ≤ x ∧ x ≤ 8)) = false := by
        rw [Bool.eq_false_iff]
        intro h
        rw [List.all_eq_true] at h
        exact h8 (fun x hx => (of_decide_eq_true (h x hx)).2)
      rw [hC] at a3
      have hnm : mxv > 8 := by
        have : (l.any fun x => decide (x > 8)) = true := by
          rw [List.any_eq_true]
          apply Classical.byContradiction
          intro h
          exact h8 (fun x hx => by
            apply Classical.byContradiction
            intro h9
            exact h ⟨x, hx, decide_eq_true (by omega)⟩)
        rw [this] at hmxv
        simpa using hmxv
      refine ⟨([], false), ?_, Ev.bind a2 (Ev.pos rfl (Ev.bind hmx (Ev.pos hnm (Ev.now _)))), by simp⟩
      cases B with
      | false => exact Ev.known (fun _ => a5) (Ev.neg (by simp) (bad _ fun _ => rfl))
      | true => exact Ev.known (fun _ => a5) (Ev.pos rfl (Ev.bind a1 (Ev.pos rfl (Ev.bind a3 (Ev.neg (by simp) (bad _ fun _ => rfl))))))
theorem FnExactWordsFor : laws_FnExactWordsFor.Pure := by
  intro l m _ _ _ _
  refine Ev.rounds ?_
  unfold laws_FnExactWordsFor.f
  refine Ev.cases (fun _ => Ev.now _) (fun hl => ?_)
  have hl' : l.length ≤ 1048576 := by omega
  obtain ⟨mt, hmt⟩ := marks
  obtain ⟨r, h1, h2, h3⟩ := wf_same l m hl'
  obtain ⟨q, hq, hq0⟩ := markI_ev l hl'
  refine Ev.bind (toIntS_ev l hl') (Ev.bind h1 (Ev.bind (toIntS_ev l hl') (Ev.bind h2 (Ev.bind (eqS_ev r.1 (by omega)) (Ev.pos rfl ?_)))))
  refine Ev.succ ?_
  simp only [laws_FnExactWordsFor.j0]
  refine Ev.neg (by simp) (Ev.bind (toIntS_ev l hl') (Ev.bind (eqIntS_ev l hl') (Ev.pos rfl (Ev.bind hq (Ev.neg (by omega) (Ev.bind (eqS_ev r.1 (by omega)) (Ev.pos rfl ?_)))))))
  refine Ev.succ ?_
  simp only [laws_FnExactWordsFor.j1]
  refine Ev.neg (by simp) (Ev.bind (markS_ev hmt r.1 (by omega)) (Ev.bind (heldS_ev hmt r.1.length (by omega)) (Ev.neg (by omega) (Ev.pos rfl (Ev.bind (toIntS_ev l hl') (Ev.bind h2 (Ev.bind (eqS_ev r.1 (by omega)) (Ev.pos rfl ?_))))))))
  refine Ev.succ ?_
  simp only [laws_FnExactWordsFor.j2]
  exact Ev.neg (by simp) (Ev.bind (heldS_ev hmt r.1.length (by omega)) (Ev.neg (by omega) (Ev.pos rfl (Ev.now _))))
end Go.Proofs.Ytklakacicmghiaa.Pure
