/- BestWithin of the program and of the reference answer alike for all arguments, and leave them as they were: no condition. -/
import Derived.Test.YtklakacicmghiaaXFnExactBestWithinx4
namespace Go.Proofs.Ytklakacicmghiaa.Pure
set_option linter.unusedSimpArgs false
set_option linter.unusedVariables false
open Go.RowKit Go.Proofs.Ytklakacicmghiaa.Hand Go.Proofs.Ytklakacicmghiaa.XFnExactBestWithin Go.Proofs.YtklakacicmghiaaW.PrintWords Go.Proofs.YtklakacicmghiaaW.PrintLast Go.Proofs.YtklakacicmghiaaW.PrintMore

theorem w1 {i : Int} (h0 : 0 ≤ i) (h : i < 9223372036854775807) : wrap64 (i + 1) = i + 1 := by unfold wrap64; omega
theorem w64 {i : Int} (h0 : -9223372036854775808 ≤ i) (h : i < 9223372036854775808) : wrap64 i = i := by unfold wrap64; omega
theorem rd_nat (l : List Int) (i : Nat) (h : i < l.length) : rd l (i : Int) = l[i] := by
  unfold rd; simp [List.getD_eq_getElem?_getD, h]
theorem Ev.pos {α : Type} {c : Prop} [Decidable c] {g g' : Nat → Option α} {r : α} (h : c) (k : Ev g r) : Ev (fun n => if c then g n else g' n) r :=
  Ev.congr (fun n => if_pos h) k
theorem Ev.neg {α : Type} {c : Prop} [Decidable c] {g g' : Nat → Option α} {r : α} (h : ¬ c) (k : Ev g' r) : Ev (fun n => if c then g n else g' n) r :=
  Ev.congr (fun n => if_neg h) k
theorem Ev.cases {α : Type} {c : Prop} [Decidable c] {g g' : Nat → Option α} {r : α} (h : c → Ev g r) (k : ¬ c → Ev g' r) : Ev (fun n => if c then g n else g' n) r := by
  by_cases e : c
  · exact Ev.pos e (h e)
  · exact Ev.neg e (k e)
/-- a call whose answer is known at every number of rounds -/
theorem Ev.known {α β : Type} {g : Nat → Option α} {f : Nat → α → Option β} {a : α} {r : β} (h : ∀ n, g n = some a) (k : Ev (fun n => f n a) r) : Ev (fun n => (g n).bind (f n)) r :=
  Ev.bind ⟨0, fun n _ => h n⟩ k
/-- one bind of two, joined with what follows -/
theorem Ev.pure {α : Type} {r q : α} (h : r = q) : Ev (fun _ => some r) q := h ▸ Ev.now r
theorem Ev.succ {α : Type} {g : Nat → Option α} {r : α} (h : Ev (fun k => g (k + 1)) r) : Ev g r := Ev.step (f := fun k => g (k + 1)) (fun _ => rfl) h

theorem toIntS_l0 (l : List Int) (hl : l.length ≤ 1048576) : ∀ (d i : Nat) (xs : List Int), i + d = l.length → xs.length = l.length → xs.take i = l.take i → Ev (fun k => laws_toIntS.l0 k l xs (i : Int)) l
  | 0, i, xs, hd, hx, ht => by
    refine Ev.step (f := fun _ => some xs) (fun k => ?_) (Ev.pure ?_)
    · simp only [laws_toIntS.l0]; rw [if_neg (by omega)]
    · rw [List.take_of_length_le (by omega), List.take_of_length_le (by omega)] at ht; exact ht
  | d + 1, i, xs, hd, hx, ht => by
    refine Ev.step (f := fun k => laws_toIntS.l0 k l (xs.set i (rd l i)) ((i + 1 : Nat) : Int)) (fun k => ?_) (toIntS_l0 l hl d (i + 1) _ (by omega) (by simp [hx]) ?_)
    · simp only [laws_toIntS.l0]; rw [if_pos (by omega), if_pos (by omega), if_pos (by omega), w1 (by omega) (by omega)]; simp
    · have h1 : i < l.length := by omega
      have h2 : i < (xs.set i (rd l i)).length := by simp; omega
      have e := rd_nat l i h1
      rw [List.take_succ_eq_append_getElem h2, List.take_succ_eq_append_getElem h1, List.take_set, List.set_eq_of_length_le (by simp; omega), ht]
      simp [e]
theorem toIntS_ev (l : List Int) (hl : l.length ≤ 1048576) : Ev (fun k => laws_toIntS.f k l) l := by
  unfold laws_toIntS.f
  refine Ev.pos (by omega) (Ev.pos (by omega) ?_)
  have h := toIntS_l0 l hl l.length 0 (List.replicate l.length 0) (by omega) (by simp) (by simp)
  simpa using h
theorem eqIntS_l0 (l : List Int) (hl : l.length ≤ 1048576) : ∀ (d i : Nat), i + d = l.length → Ev (fun k => laws_eqIntS.l0 k l l (i : Int)) true
  | 0, i, hd => Ev.step (f := fun _ => some true) (fun k => by simp only [laws_eqIntS.l0]; rw [if_neg (by omega)]) (Ev.now _)
  | d + 1, i, hd => by
    refine Ev.step (f := fun k => laws_eqIntS.l0 k l l ((i + 1 : Nat) : Int)) (fun k => ?_) (eqIntS_l0 l hl d (i + 1) (by omega))
    simp only [laws_eqIntS.l0]; rw [if_pos (by omega), if_pos (by omega), if_pos (by omega), if_pos trivial, w1 (by omega) (by omega)]; simp
theorem eqIntS_ev (l : List Int) (hl : l.length ≤ 1048576) : Ev (fun k => laws_eqIntS.f k l l) true := by
  unfold laws_eqIntS.f
  exact Ev.pos rfl (by simpa using eqIntS_l0 l hl l.length 0 (by omega))



theorem spec_in (a b c : Int) : spec_l1In.f a b c = some (decide (b ≤ a ∧ a ≤ c)) := by
  unfold spec_l1In.f
  by_cases h : a ≥ b
  · rw [if_pos h]; simp [h]
  · rw [if_neg h]; simp; omega

theorem spec_all_l0 (a b : Int) (l : List Int) (hl : l.length ≤ 1048576) : ∀ (d i : Nat), i + d = l.length → Ev (fun k => spec_l1All.l0 k a b l (l.length : Int) (i : Int)) ((l.drop i).all fun x => decide (a ≤ x ∧ x ≤ b))
  | 0, i, hd => Ev.step (f := fun _ => some true) (fun k => by simp only [spec_l1All.l0]; rw [if_neg (by omega)]) (Ev.pure (by rw [List.drop_of_length_le (by omega)]; rfl))
  | d + 1, i, hd => by
    have h1 : i < l.length := by omega
    have ih := spec_all_l0 a b l hl d (i + 1) (by omega)
    rw [List.drop_eq_getElem_cons h1, List.all_cons]
    refine Ev.step (f := fun k => if (decide (a ≤ l[i] ∧ l[i] ≤ b)) = true then spec_l1All.l0 k a b l (l.length : Int) ((i + 1 : Nat) : Int) else some false) (fun k => ?_) ?_
    · simp only [spec_l1All.l0, spec_in]; rw [if_pos (by omega), if_pos (by omega), if_pos (by omega), w1 (by omega) (by omega), rd_nat l i h1]; simp
    · refine Ev.cases (fun h => ?_) (fun h => ?_)
      · rw [h, Bool.true_and]; exact ih
      · rw [Bool.eq_false_iff.mpr h, Bool.false_and]; exact Ev.now _
theorem spec_all (l : List Int) (a b : Int) (hl : l.length ≤ 1048576) : Ev (fun k => spec_l1All.f k l a b) (l.all fun x => decide (a ≤ x ∧ x ≤ b)) := by
  have h := spec_all_l0 a b l hl l.length 0 (by omega)
  simpa [spec_l1All.f] using h

theorem impl_in_eq (a b c : Int) : impl_in.f a b c = some (decide (b ≤ a ∧ a ≤ c)) := by
  unfold impl_in.f
  by_cases h : b ≤ a
  · rw [if_pos h]; simp [h]
  · rw [if_neg h]; simp [h]

theorem impl_areWeights__1_l0 (l : List Int) (hl : l.length ≤ 1048576) : ∀ (d i : Nat), i + d = l.length → ∃ r, Ev (fun k => slices_IndexFunc_int_int__at_impl_areWeights__1.l0 k l (l.length : Int) (i : Int)) r ∧ decide (r ≥ 0) = (l.drop i).any fun x => !decide (1 ≤ x ∧ x ≤ 100)
  | 0, i, hd => ⟨-1, Ev.step (f := fun _ => some (-1)) (fun k => by simp only [slices_IndexFunc_int_int__at_impl_areWeights__1.l0]; rw [if_neg (by omega)]) (Ev.now _), by rw [List.drop_of_length_le (by omega)]; rfl⟩
  | d + 1, i, hd => by
    have h1 : i < l.length := by omega
    obtain ⟨r, ih, hr⟩ := impl_areWeights__1_l0 l hl d (i + 1) (by omega)
    have hs : ∀ k, slices_IndexFunc_int_int__at_impl_areWeights__1.l0 (k + 1) l (l.length : Int) (i : Int) = if (!decide (1 ≤ l[i] ∧ l[i] ≤ 100)) = true then some (i : Int) else slices_IndexFunc_int_int__at_impl_areWeights__1.l0 k l (l.length : Int) ((i + 1 : Nat) : Int) := by
      intro k
      simp only [slices_IndexFunc_int_int__at_impl_areWeights__1.l0, impl_areWeights__1.f, impl_in_eq]; rw [if_pos (by omega), if_pos (by omega), if_pos (by omega), w1 (by omega) (by omega), rd_nat l i h1]; simp
    rw [List.drop_eq_getElem_cons h1, List.any_cons]
    by_cases h : (!decide (1 ≤ l[i] ∧ l[i] ≤ 100)) = true
    · exact ⟨i, Ev.step hs (Ev.pos h (Ev.now _)), by rw [h]; simp⟩
    · exact ⟨r, Ev.step hs (Ev.neg h ih), by rw [hr, Bool.eq_false_iff.mpr h, Bool.false_or]⟩
theorem impl_areWeights__1_contains (l : List Int) (hl : l.length ≤ 1048576) : Ev (fun k => slices_ContainsFunc_int_int__at_impl_areWeights__1.f k l) (l.any fun x => !decide (1 ≤ x ∧ x ≤ 100)) := by
  obtain ⟨r, h, hr⟩ := impl_areWeights__1_l0 l hl l.length 0 (by omega)
  unfold slices_ContainsFunc_int_int__at_impl_areWeights__1.f slices_IndexFunc_int_int__at_impl_areWeights__1.f
  refine Ev.bind (by simpa using h) (Ev.pure ?_)
  simpa using hr
theorem impl_areWeights_ev (l : List Int) (hl : l.length ≤ 1048576) : Ev (fun k => impl_areWeights.f k l) (decide (1 ≤ (l.length : Int) ∧ (l.length : Int) ≤ 12) && l.all fun x => decide (1 ≤ x ∧ x ≤ 100)) := by
  unfold impl_areWeights.f
  refine Ev.known (fun n => impl_in_eq _ _ _) (Ev.cases (fun h => ?_) (fun h => ?_))
  · refine Ev.bind (impl_areWeights__1_contains l hl) (Ev.pure ?_)
    rw [h, Bool.true_and, List.any_eq_not_all_not, Bool.not_not]; simp
  · refine Ev.pure ?_
    rw [Bool.eq_false_iff.mpr h, Bool.false_and]

theorem beWeights_ev (l : List Int) (hl : l.length ≤ 1048576) : Ev (fun k => spec_beWeights.f k l) (decide (1 ≤ (l.length : Int) ∧ (l.length : Int) ≤ 12) && l.all fun x => decide (1 ≤ x ∧ x ≤ 100)) := by
  unfold spec_beWeights.f
  refine Ev.known (fun n => spec_in _ _ _) (Ev.cases (fun h => ?_) (fun h => ?_))
  · exact Ev.bind (spec_all l _ _ hl) (Ev.pure (by rw [h, Bool.true_and]))
  · exact Ev.pure (by rw [Bool.eq_false_iff.mpr h, Bool.false_and])

theorem beAsked_ev (l : List Int) (m : Int) (hl : l.length ≤ 1048576) : Ev (fun k => spec_beAsked.f k l m) (decide (2 ≤ m ∧ m ≤ 3) && (decide (1 ≤ (l.length : Int) ∧ (l.length : Int) ≤ 12) && l.all fun x => decide (1 ≤ x ∧ x ≤ 100))) := by
  unfold spec_beAsked.f spec_krLetters.f
  refine Ev.known (fun _ => by rw [spec_in, Option.bind_some]) (Ev.cases (fun h => ?_) (fun h => ?_))
  · exact Ev.bind (beWeights_ev l hl) (Ev.pure (by rw [h, Bool.true_and]))
  · exact Ev.pure (by rw [Bool.eq_false_iff.mpr h, Bool.false_and])
theorem areLetters_eq (m : Int) : impl_areLetters.f m = some (decide (2 ≤ m ∧ m ≤ 3)) := by
  unfold impl_areLetters.f
  rw [impl_in_eq, Option.bind_some]

theorem sortI_up (l : List Int) : (sortI l).Pairwise fun x y => x ≤ y := by
  have h := List.pairwise_mergeSort (le := fun x y : Int => decide (x ≤ y)) (fun a b c h1 h2 => by simp at h1 h2 ⊢; omega) (fun a b => by simp; omega) l
  exact h.imp fun {a b} h => by simpa using h
theorem sortI_perm (l : List Int) : (sortI l).Perm l := List.mergeSort_perm l _
theorem up_unique {a b : List Int} (ha : a.Pairwise fun x y => x ≤ y) (hb : b.Pairwise fun x y => x ≤ y) (h : a.Perm b) : a = b :=
  List.Perm.eq_of_pairwise (le := fun x y : Int => x ≤ y) (fun x y _ _ h1 h2 => by omega) ha hb h
theorem sortI_of {a b : List Int} (ha : a.Pairwise fun x y => x ≤ y) (h : a.Perm b) : a = sortI b := up_unique ha (sortI_up b) (h.trans (sortI_perm b).symm)
theorem sortI_len (l : List Int) : (sortI l).length = l.length := (sortI_perm l).length_eq
theorem sortI_nil : sortI [] = [] := (sortI_of (by simp) (List.Perm.refl _)).symm

theorem l1Own_ev (l : List Int) (h : l.length ≤ 1048576) : spec_l1Own.f l = some l := by
  unfold spec_l1Own.f
  rw [Option.bind_some, if_pos (by simp; omega)]
  simp
/-- putting a number into an ordered list -/
theorem bePut_l0 (L : List Int) (x : Int) (hL : L.length ≤ 1000) (hu : L.Pairwise fun x y => x ≤ y) : ∀ (d i : Nat), i + d = L.length → (∀ j (h : j < L.length), j < i → L[j] ≤ x) → Ev (fun k => spec_bePut.l0 k L x (i : Int)) (sortI (L ++ [x])) := by
  have fin : ∀ i, i ≤ L.length → (∀ j (h : j < L.length), j < i → L[j] ≤ x) → (∀ j (h : j < L.length), i ≤ j → x ≤ L[j]) → L.take i ++ [x] ++ L.drop i = sortI (L ++ [x]) := by
    intro i hi h1 h2
    refine sortI_of ?_ ?_
    · rw [List.pairwise_append, List.pairwise_append]
      refine ⟨⟨hu.sublist (List.take_sublist _ _), by simp, ?_⟩, hu.sublist (List.drop_sublist _ _), ?_⟩
      · intro a ha b hb
        rw [List.mem_singleton] at hb
        subst hb
        obtain ⟨j, hj, rfl⟩ := List.getElem_of_mem ha
        rw [List.length_take] at hj
        rw [List.getElem_take]
        exact h1 j (by omega) (by omega)
      · intro a ha b hb
        obtain ⟨j, hj, rfl⟩ := List.getElem_of_mem hb
        rw [List.length_drop] at hj
        rw [List.getElem_drop]
        have hb' := h2 (i + j) (by omega) (by omega)
        rcases List.mem_append.1 ha with ha | ha
        · obtain ⟨j', hj', rfl⟩ := List.getElem_of_mem ha
          rw [List.length_take] at hj'
          rw [List.getElem_take]
          have := h1 j' (by omega) (by omega)
          omega
        · rw [List.mem_singleton] at ha
          subst ha
          exact hb'
    · have e : (L ++ [x]).Perm (L.take i ++ L.drop i ++ [x]) := by rw [List.take_append_drop]
      refine List.Perm.trans ?_ e.symm
      rw [List.append_assoc, List.append_assoc]
      exact List.Perm.append_left _ List.perm_append_comm
  intro d
  induction d with
  | zero =>
    intro i hd h1
    have hf := fin i (by omega) h1 (fun j hj h => by omega)
    refine Ev.succ ?_
    simp only [spec_bePut.l0, Int.toNat_natCast]
    refine Ev.neg (by omega) (Ev.pos (by omega) (Ev.pos (by omega) (Ev.known (fun _ => l1Own_ev _ (by rw [List.length_take]; omega)) (Ev.pos (by rw [List.length_take]; omega) (Ev.known (fun _ => rfl) (Ev.pos (by simp; omega) (Ev.pure hf)))))))
  | succ d ih =>
    intro i hd h1
    have hi : i < L.length := by omega
    refine Ev.succ ?_
    simp only [spec_bePut.l0, Int.toNat_natCast, rd_nat L i hi, w1 (show 0 ≤ (i : Int) by omega) (show (i : Int) < 9223372036854775807 by omega)]
    refine Ev.pos (by omega) (Ev.pos (by omega) (Ev.cases (fun h => ?_) (fun h => ?_)))
    · exact ih (i + 1) (by omega) (fun j hj hji => by
        by_cases e : j = i
        · subst e; exact h
        · exact h1 j hj (by omega))
    · have hf := fin i (by omega) h1 (fun j hj hij => by
        by_cases e : j = i
        · subst e; omega
        · have := List.pairwise_iff_getElem.1 hu i j hi hj (by omega)
          omega)
      exact Ev.pos (by omega) (Ev.known (fun _ => l1Own_ev _ (by rw [List.length_take]; omega)) (Ev.pos (by rw [List.length_take]; omega) (Ev.known (fun _ => rfl) (Ev.pos (by simp; omega) (Ev.pure hf)))))
theorem bePut_ev (L : List Int) (x : Int) (hL : L.length ≤ 1000) (hu : L.Pairwise fun x y => x ≤ y) : Ev (fun k => spec_bePut.f k L x) (sortI (L ++ [x])) :=
  bePut_l0 L x hL hu L.length 0 (by omega) (fun j _ h => by omega)
theorem sortI_put (l : List Int) (x : Int) : sortI (sortI l ++ [x]) = sortI (l ++ [x]) :=
  (sortI_of (sortI_up _) ((sortI_perm _).trans ((sortI_perm l).append_right [x])))

theorem krPower_l0 (b m : Nat) (hb : 1 ≤ b) (hp : b ^ m < 4611686018427387904) (hm : m ≤ 1048576) : ∀ (d i : Nat), i + d = m → Ev (fun k => spec_krPower.l0 k (b : Int) (d : Int) ((b ^ i : Nat) : Int)) ((b ^ m : Nat) : Int)
  | 0, i, hd => by
    refine Ev.succ ?_
    simp only [spec_krPower.l0]
    exact Ev.neg (by omega) (Ev.pure (by rw [show i = m by omega]))
  | d + 1, i, hd => by
    have ih := krPower_l0 b m hb hp hm d (i + 1) (by omega)
    have h1 : b ^ (i + 1) ≤ b ^ m := Nat.pow_le_pow_right hb (by omega)
    have e : Aside0 (wrap64 (((b ^ i : Nat) : Int) * (b : Int)) = ((b ^ (i + 1) : Nat) : Int)) := ⟨by
      rw [← Int.natCast_mul, show b ^ i * b = b ^ (i + 1) from rfl]; exact w64 (by omega) (by omega)⟩
    have e2 : Aside0 (wrap64 (((d + 1 : Nat) : Int) - 1) = (d : Int)) := ⟨by rw [w64 (by omega) (by omega)]; omega⟩
    refine Ev.succ ?_
    simp only [spec_krPower.l0, e.out, e2.out]
    exact Ev.pos (by omega) ih
theorem krPower_ev (b m : Nat) (hb : 1 ≤ b) (hp : b ^ m < 4611686018427387904) (hm : m ≤ 1048576) : Ev (fun k => spec_krPower.f k (b : Int) (m : Int)) ((b ^ m : Nat) : Int) := by
  have h := krPower_l0 b m hb hp hm m 0 (by omega)
  simpa [spec_krPower.f] using h

theorem power_l0 (b m : Nat) (hb : 1 ≤ b) (hp : b ^ m < 4611686018427387904) (hm : m ≤ 1048576) : ∀ (d i : Nat), i + d = m → Ev (fun k => impl_power.l0 k (b : Int) ((b ^ i : Nat) : Int) (m : Int) (i : Int)) ((b ^ m : Nat) : Int)
  | 0, i, hd => by
    refine Ev.succ ?_
    simp only [impl_power.l0]
    exact Ev.neg (by omega) (Ev.pure (by rw [show i = m by omega]))
  | d + 1, i, hd => by
    have ih := power_l0 b m hb hp hm d (i + 1) (by omega)
    have h1 : b ^ (i + 1) ≤ b ^ m := Nat.pow_le_pow_right hb (by omega)
    have e : Aside0 (wrap64 (((b ^ i : Nat) : Int) * (b : Int)) = ((b ^ (i + 1) : Nat) : Int)) := ⟨by
      rw [← Int.natCast_mul, show b ^ i * b = b ^ (i + 1) from rfl]; exact w64 (by omega) (by omega)⟩
    refine Ev.succ ?_
    simp only [impl_power.l0, e.out, w1 (show 0 ≤ (i : Int) by omega) (show (i : Int) < 9223372036854775807 by omega)]
    exact Ev.pos (by omega) ih
theorem power_ev (b m : Nat) (hb : 1 ≤ b) (hp : b ^ m < 4611686018427387904) (hm : m ≤ 1048576) : Ev (fun k => impl_power.f k (b : Int) (m : Int)) ((b ^ m : Nat) : Int) := by
  have h := power_l0 b m hb hp hm m 0 (by omega)
  simpa [impl_power.f] using h

theorem wf64 {n : Int} (h1 : -9223372036854775808 ≤ n) (h2 : n ≤ 9223372036854775807) : (Lit.int .i64 n).wf = true := by
  simp only [Lit.wf, IntKind.min, IntKind.max, IntKind.signed, IntKind.bits, Bool.and_eq_true, decide_eq_true_eq, if_true]
  omega
theorem pow_small {m n : Nat} (hm : 2 ≤ m ∧ m ≤ 3) (hn : n ≤ 11) : 1 ≤ m ^ n ∧ m ^ n ≤ 177147 := by
  have e : (3 : Nat) ^ 11 = 177147 := by decide
  exact ⟨Nat.pow_pos (by omega), by rw [← e]; exact Nat.le_trans (Nat.pow_le_pow_left hm.2 _) (Nat.pow_le_pow_right (by omega) hn)⟩
theorem within_same (ws : List Int) (hws : ws.length ≤ 12) (m mo : Nat) (hm : 2 ≤ m ∧ m ≤ 3) (hmo : mo ≤ 11) : ∀ (d k : Nat), k + d = ws.length → ∀ (f L : Nat), 1 ≤ f → f ≤ mo → L ≤ 177147 →
    ∃ r : Int, Ev (fun q => spec_beWithin.f q (ws.drop k) (m : Int) (f : Int) (mo : Int) ((L * m ^ (11 - mo) : Nat) : Int)) r ∧ Ev (fun q => impl_BestWithin.least q ws (m : Int) (mo : Int) k (f : Int) (L : Int)) r
  | 0, k, hd, f, L, hf, hfm, hL => by
    refine ⟨0, Ev.succ ?_, Ev.succ ?_⟩
    · simp only [spec_beWithin.f]
      exact Ev.pos (by rw [List.length_drop]; omega) (Ev.now _)
    · simp only [impl_BestWithin.least]
      exact Ev.pos (by omega) (Ev.now _)
  | d + 1, k, hd, f, L, hf, hfm, hL => by
    have hk : k < ws.length := by omega
    have hP := pow_small (n := 11 - mo) hm (by omega)
    have hsh : L * m ^ (11 - mo) ≤ 177147 * 177147 := Nat.mul_le_mul hL hP.2
    have hdl : (ws.drop k).length = d + 1 := by rw [List.length_drop]; omega
    have hd1 : (ws.drop k).drop 1 = ws.drop (k + 1) := by rw [List.drop_drop]
    have hr0 : rd (ws.drop k) 0 = rd ws (k : Int) := by
      unfold rd; simp [List.getD_eq_getElem?_getD]
    have IH := within_same ws hws m mo hm hmo d (k + 1) (by omega)
    have inner : ∀ (e l : Nat) (best : Int), l + e = mo + 1 → 1 ≤ l → ∃ r : Int, Ev (fun q => spec_beWithin.l0 q (ws.drop k) (m : Int) (mo : Int) ((L * m ^ (11 - mo) : Nat) : Int) best (l : Int)) r ∧ Ev (fun q => impl_BestWithin.loop q ws (m : Int) (mo : Int) k (L : Int) best (l : Int)) r := by
      intro e
      induction e with
      | zero =>
        intro l best hl h1
        refine ⟨best, Ev.succ ?_, Ev.succ ?_⟩
        · simp only [spec_beWithin.l0]; exact Ev.neg (by omega) (Ev.now _)
        · simp only [impl_BestWithin.loop]; exact Ev.neg (by omega) (Ev.now _)
      | succ e ih =>
        intro l best hl h1
        have hlm : l ≤ mo := by omega
        have hp1 := pow_small (n := 11 - l) hm (by omega)
        have hp2 := pow_small (n := mo - l) hm (by omega)
        have hpp : m ^ (11 - l) = m ^ (mo - l) * m ^ (11 - mo) := by rw [← Nat.pow_add]; congr 1; omega
        have k1 := krPower_ev m (11 - l) (by omega) (by omega) (by omega)
        have k2 := power_ev m (mo - l) (by omega) (by omega) (by omega)
        have e1 : Aside0 (wrap64 (11 - (l : Int)) = ((11 - l : Nat) : Int)) := ⟨by rw [w64 (by omega) (by omega)]; omega⟩
        have e2 : Aside0 (wrap64 ((mo : Int) - (l : Int)) = ((mo - l : Nat) : Int)) := ⟨by rw [w64 (by omega) (by omega)]; omega⟩
        have e3 : Aside0 (wrap64 ((l : Int) + 1) = ((l + 1 : Nat) : Int)) := ⟨by rw [w64 (by omega) (by omega)]; omega⟩
        by_cases hlt : L < m ^ (mo - l)
        · obtain ⟨r, r1, r2⟩ := ih (l + 1) best (by omega) (by omega)
          have hc : L * m ^ (11 - mo) < m ^ (11 - l) := by rw [hpp]; exact Nat.mul_lt_mul_of_pos_right hlt (by omega)
          have e4 : Aside0 (wrap64 (((L * m ^ (11 - mo) : Nat) : Int) - ((m ^ (11 - l) : Nat) : Int)) < 0) := ⟨by rw [w64 (by omega) (by omega)]; omega⟩
          refine ⟨r, Ev.succ ?_, Ev.succ ?_⟩
          · simp only [spec_beWithin.l0, e1.out, e3.out]
            exact Ev.pos (by omega) (Ev.bind k1 (Ev.pos e4.out r1))
          · simp only [impl_BestWithin.loop, e2.out, e3.out]
            exact Ev.pos (by omega) (Ev.bind k2 (Ev.pos (by omega) r2))
        · have hc : m ^ (11 - l) ≤ L * m ^ (11 - mo) := by rw [hpp]; exact Nat.mul_le_mul_right _ (by omega)
          have hsub : L * m ^ (11 - mo) - m ^ (11 - l) = (L - m ^ (mo - l)) * m ^ (11 - mo) := by rw [hpp, Nat.sub_mul]
          obtain ⟨t, t1, t2⟩ := IH l (L - m ^ (mo - l)) h1 hlm (by omega)
          have e4 : Aside0 (wrap64 (((L * m ^ (11 - mo) : Nat) : Int) - ((m ^ (11 - l) : Nat) : Int)) = (((L - m ^ (mo - l)) * m ^ (11 - mo) : Nat) : Int)) := ⟨by rw [w64 (by omega) (by omega), ← hsub]; omega⟩
          have e5 : Aside0 (wrap64 ((L : Int) - ((m ^ (mo - l) : Nat) : Int)) = ((L - m ^ (mo - l) : Nat) : Int)) := ⟨by rw [w64 (by omega) (by omega)]; omega⟩
          have e6 : Aside0 ((l : Int) * rd ws (k : Int) = rd ws (k : Int) * (l : Int)) := ⟨Int.mul_comm _ _⟩
          obtain ⟨c, hc⟩ : ∃ c, c = wrap64 (t + wrap64 (rd ws (k : Int) * (l : Int))) := ⟨_, rfl⟩
          have HC := Aside0.mk hc
          clear hc
          obtain ⟨r, r1, r2⟩ := ih (l + 1) (if t ≥ 0 ∧ (best < 0 ∨ c < best) then c else best) (by omega) (by omega)
          refine ⟨r, Ev.succ ?_, Ev.succ ?_⟩
          · simp only [spec_beWithin.l0, e1.out, e3.out]
            refine Ev.pos (by omega) (Ev.bind k1 ?_)
            simp only [e4.out, hd1, hr0, e6.out]
            refine Ev.neg (by omega) (Ev.pos (by omega) (Ev.bind t1 ?_))
            simp only [← HC.out]
            refine Ev.cases (fun ht => Ev.cases (fun hb => Ev.pos (by omega) ?_) (fun hb => Ev.pos (by omega) (Ev.cases (fun hcb => ?_) (fun hcb => ?_)))) (fun ht => ?_)
            · rw [if_pos ⟨ht, .inl hb⟩] at r1; exact r1
            · rw [if_pos ⟨ht, .inr hcb⟩] at r1; exact r1
            · rw [if_neg (fun q => q.2.elim hb hcb)] at r1; exact r1
            · rw [if_neg (fun q => ht q.1)] at r1; exact r1
          · simp only [impl_BestWithin.loop, e2.out, e3.out]
            refine Ev.pos (by omega) (Ev.bind k2 ?_)
            simp only [e5.out]
            refine Ev.neg (by omega) (Ev.bind t2 ?_)
            simp only [← HC.out]
            refine Ev.cases (fun h => ?_) (fun h => ?_)
            · rw [if_pos h] at r2; exact r2
            · rw [if_neg h] at r2; exact r2
    obtain ⟨r, r1, r2⟩ := inner (mo + 1 - f) f (-1) (by omega) hf
    refine ⟨r, Ev.succ ?_, Ev.succ ?_⟩
    · simp only [spec_beWithin.f]
      exact Ev.neg (by omega) r1
    · simp only [impl_BestWithin.least]
      exact Ev.neg (by omega) (Ev.pos ⟨hk, hws, by omega, by omega, by omega, wf64 (by omega) (by omega)⟩ r2)
/-- slices.Reverse -/
theorem reverse_l0 (l : List Int) (hl : l.length ≤ 1000) : ∀ (d i : Nat) (xs : List Int), 2 * i + d = l.length → xs.length = l.length → (∀ p, p < l.length → xs[p]? = if p < i ∨ l.length - i ≤ p then l[l.length - 1 - p]? else l[p]?) → Ev (fun k => slices_Reverse_int_int.l0 k xs (i : Int) ((l.length : Int) - 1 - (i : Int))) l.reverse := by
  intro d
  induction d using Nat.strongRecOn with
  | _ d ih =>
    intro i xs hd hx hp
    by_cases h2 : d ≤ 1
    · refine Ev.succ ?_
      simp only [slices_Reverse_int_int.l0]
      refine Ev.neg (by omega) (Ev.pure ?_)
      apply List.ext_getElem?
      intro p
      by_cases hpl : p < l.length
      · rw [hp p hpl, List.getElem?_reverse hpl]
        split
        · rfl
        · congr 1; omega
      · rw [List.getElem?_eq_none (by omega), List.getElem?_eq_none (by rw [List.length_reverse]; omega)]
    · have hi : i < xs.length := by omega
      have hj : l.length - 1 - i < xs.length := by omega
      have ej : (l.length : Int) - 1 - (i : Int) = ((l.length - 1 - i : Nat) : Int) := by omega
      have e1 : Aside0 (wrap64 ((i : Int) + 1) = ((i + 1 : Nat) : Int)) := ⟨by rw [w64 (by omega) (by omega)]; omega⟩
      have e2 : Aside0 (wrap64 (((l.length - 1 - i : Nat) : Int) - 1) = (l.length : Int) - 1 - ((i + 1 : Nat) : Int)) := ⟨by rw [w64 (by omega) (by omega)]; omega⟩
      have ih' := ih (d - 2) (by omega) (i + 1) ((xs.set i (xs[l.length - 1 - i])).set (l.length - 1 - i) (xs[i])) (by omega) (by simp [hx]) (fun p hpl => by
        rw [List.getElem?_set, List.getElem?_set]
        by_cases h3 : l.length - 1 - i = p
        · rw [if_pos h3, if_pos (by simp; omega)]
          subst h3
          have := hp i (by omega)
          rw [if_neg (by omega), List.getElem?_eq_getElem hi] at this
          rw [this, if_pos (by omega)]
          congr 1; omega
        · rw [if_neg h3]
          by_cases h4 : i = p
          · subst h4
            rw [if_pos rfl, if_pos hi]
            have := hp (l.length - 1 - i) (by omega)
            rw [if_neg (by omega), List.getElem?_eq_getElem hj] at this
            rw [this, if_pos (by omega)]
          · rw [if_neg h4, hp p hpl]
            by_cases h5 : p < i ∨ l.length - i ≤ p
            · rw [if_pos h5, if_pos (by omega)]
            · rw [if_neg h5, if_neg (by omega)])
      rw [ej]
      refine Ev.succ ?_
      simp only [slices_Reverse_int_int.l0, rd_nat xs i hi, rd_nat xs _ hj, e1.out, e2.out, Int.toNat_natCast]
      exact Ev.pos (by omega) (Ev.pos (by omega) (Ev.pos (by omega) (Ev.pos (by omega) (Ev.pos (by omega) ih'))))
theorem reverse_ev (l : List Int) (hl : l.length ≤ 1000) : Ev (fun k => slices_Reverse_int_int.f k l) l.reverse := by
  have h := reverse_l0 l hl l.length 0 l (by omega) rfl (fun p hp => by rw [if_neg (by omega)])
  have e : Aside0 (wrap64 ((l.length : Int) - 1) = (l.length : Int) - 1 - ((0 : Nat) : Int)) := ⟨by rw [w64 (by omega) (by omega)]; omega⟩
  unfold slices_Reverse_int_int.f
  rw [e.out]
  exact h

theorem down_l1 (m mo : Int) (L : List Int) (hL : L.length ≤ 12) (r : Int × Bool) (next : Ev (fun k => (spec_krPower.f k m 11).bind fun t160 => ((spec_beWithin.f k L.reverse m 1 mo t160).bind fun t161 => (if t161 < 0 then (some (0, false)) else (some (t161, true))))) r) :
    ∀ (d : Nat), d ≤ L.length → Ev (fun k => spec_BestWithin.l1 k m mo L (L.drop d).reverse ((d : Int) - 1)) r
  | 0, hd => by
    refine Ev.succ ?_
    simp only [spec_BestWithin.l1, List.drop_zero]
    exact Ev.neg (by omega) next
  | d + 1, hd => by
    have h1 : d < L.length := by omega
    have ih := down_l1 m mo L hL r next d (by omega)
    rw [List.drop_eq_getElem_cons h1, List.reverse_cons] at ih
    have e0 : ((d + 1 : Nat) : Int) - 1 = (d : Int) := by omega
    have e1 : Aside0 (wrap64 ((d : Int) - 1) = (d : Int) - 1) := ⟨w64 (by omega) (by omega)⟩
    rw [e0]
    refine Ev.succ ?_
    simp only [spec_BestWithin.l1, rd_nat L d h1, e1.out]
    exact Ev.pos (by omega) (Ev.pos (by omega) (Ev.pos (by omega) (Ev.pos (by rw [List.length_reverse, List.length_drop]; omega) ih)))
theorem up_l0 (m mo : Int) (l : List Int) (hl : l.length ≤ 12) (r : Int × Bool) (next : Ev (fun k => spec_BestWithin.l1 k m mo (sortI l) [] (wrap64 (((sortI l).length : Int) - 1))) r) :
    ∀ (d i : Nat), i + d = l.length → Ev (fun k => spec_BestWithin.l0 k m mo (sortI (l.take i)) l (l.length : Int) (i : Int)) r
  | 0, i, hd => by
    rw [List.take_of_length_le (by omega)]
    refine Ev.succ ?_
    simp only [spec_BestWithin.l0]
    exact Ev.neg (by omega) next
  | d + 1, i, hd => by
    have h1 : i < l.length := by omega
    have ih := up_l0 m mo l hl r next d (i + 1) (by omega)
    have hb := bePut_ev (sortI (l.take i)) l[i] (by rw [sortI_len, List.length_take]; omega) (sortI_up _)
    rw [sortI_put] at hb
    rw [List.take_succ_eq_append_getElem h1] at ih
    refine Ev.succ ?_
    simp only [spec_BestWithin.l0, rd_nat l i h1, w1 (show 0 ≤ (i : Int) by omega) (show (i : Int) < 9223372036854775807 by omega)]
    exact Ev.pos (by omega) (Ev.pos (by omega) (Ev.pos (by omega) (Ev.bind hb ih)))
theorem bw_same (l : List Int) (m mo : Int) (hl : l.length ≤ 1048576) : ∃ r, Ev (fun k => spec_BestWithin.f k l m mo) r ∧ Ev (fun k => impl_BestWithin.f k l m mo) r := by
  unfold spec_BestWithin.f impl_BestWithin.f
  have a1 := beAsked_ev l m hl
  have a2 := impl_areWeights_ev l hl
  have a3 := areLetters_eq m
  have a4 : spec_l1In.f mo 1 11 = some (decide (1 ≤ mo ∧ mo ≤ 11)) := spec_in _ _ _
  have a5 : impl_in.f mo 1 11 = some (decide (1 ≤ mo ∧ mo ≤ 11)) := impl_in_eq _ _ _
  generalize hB : decide (2 ≤ m ∧ m ≤ 3) = B at a1 a3
  generalize hA : (decide (1 ≤ (l.length : Int) ∧ (l.length : Int) ≤ 12) && l.all fun x => decide (1 ≤ x ∧ x ≤ 100)) = A at a1 a2
  generalize hC : decide (1 ≤ mo ∧ mo ≤ 11) = C at a4 a5
  have bad : ∀ g : Nat → Option (Int × Bool), (∀ k, g (k + 1) = spec_BestWithin.j0 (k + 1) l m mo true) → Ev g (0, false) := fun g hg => Ev.succ (by
    simp only [hg, spec_BestWithin.j0]
    exact Ev.pos trivial (Ev.now _))
  cases A with
  | false => exact ⟨(0, false), Ev.bind a1 (Ev.neg (by simp) (bad _ fun _ => rfl)), Ev.bind a2 (Ev.neg (by simp) (Ev.now _))⟩
  | true =>
    cases B with
    | false => exact ⟨(0, false), Ev.bind a1 (Ev.neg (by simp) (bad _ fun _ => rfl)), Ev.bind a2 (Ev.pos rfl (Ev.known (fun _ => a3) (Ev.neg (by simp) (Ev.now _))))⟩
    | true =>
      cases C with
      | false => exact ⟨(0, false), Ev.bind a1 (Ev.pos rfl (Ev.known (fun _ => a4) (bad _ fun _ => rfl))), Ev.bind a2 (Ev.pos rfl (Ev.known (fun _ => a3) (Ev.pos rfl (Ev.known (fun _ => a5) (Ev.neg (by simp) (Ev.now _))))))⟩
      | true =>
        have hn : 1 ≤ l.length ∧ l.length ≤ 12 := by simp only [Bool.and_eq_true, decide_eq_true_eq] at hA; omega
        have hm0 : 2 ≤ m ∧ m ≤ 3 := by simpa using hB
        have hmo0 : 1 ≤ mo ∧ mo ≤ 11 := by simpa using hC
        obtain ⟨mn, rfl⟩ : ∃ n : Nat, m = (n : Int) := ⟨m.toNat, by omega⟩
        obtain ⟨on, rfl⟩ : ∃ n : Nat, mo = (n : Int) := ⟨mo.toNat, by omega⟩
        have hm : 2 ≤ mn ∧ mn ≤ 3 := by omega
        have hp1 := pow_small (n := on) hm (by omega)
        have hp2 := pow_small (n := 11) hm (by omega)
        have hlen := sortI_len l
        have hrl : (sortI l).reverse.length = l.length := by rw [List.length_reverse, hlen]
        obtain ⟨r, r1, r2⟩ := within_same (sortI l).reverse (by omega) mn on hm (by omega) l.length 0 (by omega) 1 (mn ^ on) (by omega) (by omega) hp1.2
        rw [List.drop_zero, ← Nat.pow_add, show on + (11 - on) = 11 by omega] at r1
        have k1 := krPower_ev mn 11 (by omega) (by omega) (by omega)
        have k2 := power_ev mn on (by omega) (by omega) (by omega)
        have kr := reverse_ev (sortI l) (by omega)
        have e1 : Aside0 (wrap64 (((sortI l).length : Int) - 1) = ((sortI l).length : Int) - 1) := ⟨w64 (by omega) (by omega)⟩
        refine ⟨(if r < 0 then 0 else r, decide (0 ≤ r)), Ev.bind a1 (Ev.pos rfl (Ev.known (fun _ => a4) (Ev.succ ?_))), Ev.bind a2 (Ev.pos rfl (Ev.known (fun _ => a3) (Ev.pos rfl (Ev.known (fun _ => a5) (Ev.pos rfl (Ev.pos (by omega) (Ev.bind kr (Ev.bind k2 (Ev.bind r2 (Ev.now _))))))))))⟩
        simp only [spec_BestWithin.j0]
        refine Ev.neg (by simp) ?_
        have h := up_l0 (mn : Int) (on : Int) l hn.2 (if r < 0 then 0 else r, decide (0 ≤ r)) (by
          rw [e1.out]
          have := down_l1 (mn : Int) (on : Int) (sortI l) (by omega) (if r < 0 then 0 else r, decide (0 ≤ r)) (Ev.bind k1 (Ev.bind r1 (by
            by_cases hr : r < 0
            · simp only [if_pos hr]; rw [decide_eq_false (by omega)]; exact Ev.now _
            · simp only [if_neg hr]; rw [decide_eq_true (by omega)]; exact Ev.now _))) (sortI l).length (Nat.le_refl _)
          rw [List.drop_of_length_le (Nat.le_refl _)] at this
          exact this) l.length 0 (by omega)
        rw [List.take_zero, sortI_nil] at h
        exact h
theorem FnExactBestWithin : laws_FnExactBestWithin.Pure := by
  intro l m mo _ _ _ _ _
  refine Ev.rounds ?_
  unfold laws_FnExactBestWithin.f
  refine Ev.cases (fun _ => Ev.now _) (fun hl => ?_)
  have hl' : l.length ≤ 1048576 := by omega
  obtain ⟨r, h1, h2⟩ := bw_same l m mo hl'
  refine Ev.bind (toIntS_ev l hl') (Ev.bind h1 (Ev.bind (toIntS_ev l hl') (Ev.bind h2 (Ev.pos rfl ?_))))
  refine Ev.succ ?_
  simp only [laws_FnExactBestWithin.j0]
  refine Ev.neg (by simp) ?_
  exact Ev.bind (toIntS_ev l hl') (Ev.bind (eqIntS_ev l hl') (Ev.pos rfl (Ev.now _)))
end Go.Proofs.Ytklakacicmghiaa.Pure
