/- WeightOf of the program and of the reference answer alike for all arguments, and leave them as they were: no condition. -/
import Derived.Test.YtoemhhfkbclbiaaDoorXFnExactWeightOfx4
namespace Go.Proofs.YtoemhhfkbclbiaaDoor.Pure
set_option linter.unusedSimpArgs false
set_option linter.unusedVariables false
open Go.RowKit Go.Proofs.YtoemhhfkbclbiaaDoor.Hand Go.Proofs.YtoemhhfkbclbiaaDoor.XFnExactWeightOf Go.Proofs.YtoemhhfkbclbiaaDoorW.PrintWords Go.Proofs.YtoemhhfkbclbiaaDoorW.PrintLast Go.Proofs.YtoemhhfkbclbiaaDoorW.PrintMore

theorem w1 {i : Int} (h0 : 0 ≤ i) (h : i < 9223372036854775807) : wrap64 (i + 1) = i + 1 := by unfold wrap64; omega
theorem w64 {i : Int} (h0 : -9223372036854775808 ≤ i) (h : i < 9223372036854775808) : wrap64 i = i := by unfold wrap64; omega
theorem rd_nat (l : List Int) (i : Nat) (h : i < l.length) : rd l (i : Int) = l[i] := by
  unfold rd; simp [List.getD_eq_getElem?_getD, h]
theorem Ev.pos {α : Type} {c : Prop} [Decidable c] {g g' : Nat → Option α} {r : α} (h : c) (k : Ev g r) : Ev (fun n => if c then g n else g' n) r :=
  Ev.congr (fun n => if_pos h) k
theorem Ev.neg {α : Type} {c : Prop} [Decidable c] {g g' : Nat → Option α} {r : α} (h : ¬ c) (k : Ev g' r) : Ev (fun n => if c then g n else g' n) r :=
  Ev.congr (fun n => if_neg h) k
theorem Ev.cases {α : Type} {c : Prop} [Decidable c] {g g' : Nat → Option α} {r : α} (h : c → Ev g r) (k : ¬ c → Ev g' r) : Ev (fun n => if c then g n else g' n) r := by
  by_cases e : c
  · exact Ev.pos e (h e)
  · exact Ev.neg e (k e)
/-- a call whose answer is known at every number of rounds -/
theorem Ev.known {α β : Type} {g : Nat → Option α} {f : Nat → α → Option β} {a : α} {r : β} (h : ∀ n, g n = some a) (k : Ev (fun n => f n a) r) : Ev (fun n => (g n).bind (f n)) r :=
  Ev.bind ⟨0, fun n _ => h n⟩ k
/-- one bind of two, joined with what follows -/
theorem Ev.pure {α : Type} {r q : α} (h : r = q) : Ev (fun _ => some r) q := h ▸ Ev.now r
theorem Ev.succ {α : Type} {g : Nat → Option α} {r : α} (h : Ev (fun k => g (k + 1)) r) : Ev g r := Ev.step (f := fun k => g (k + 1)) (fun _ => rfl) h

theorem toIntS_l0 (l : List Int) (hl : l.length ≤ 1048576) : ∀ (d i : Nat) (xs : List Int), i + d = l.length → xs.length = l.length → xs.take i = l.take i → Ev (fun k => laws_toIntS.l0 k l xs (i : Int)) l
  | 0, i, xs, hd, hx, ht => by
    refine Ev.step (f := fun _ => some xs) (fun k => ?_) (Ev.pure ?_)
    · simp only [laws_toIntS.l0]; rw [if_neg (by omega)]
    · rw [List.take_of_length_le (by omega), List.take_of_length_le (by omega)] at ht; exact ht
  | d + 1, i, xs, hd, hx, ht => by
    refine Ev.step (f := fun k => laws_toIntS.l0 k l (xs.set i (rd l i)) ((i + 1 : Nat) : Int)) (fun k => ?_) (toIntS_l0 l hl d (i + 1) _ (by omega) (by simp [hx]) ?_)
    · simp only [laws_toIntS.l0]; rw [if_pos (by omega), if_pos (by omega), if_pos (by omega), w1 (by omega) (by omega)]; simp
    · have h1 : i < l.length := by omega
      have h2 : i < (xs.set i (rd l i)).length := by simp; omega
      have e := rd_nat l i h1
      rw [List.take_succ_eq_append_getElem h2, List.take_succ_eq_append_getElem h1, List.take_set, List.set_eq_of_length_le (by simp; omega), ht]
      simp [e]
theorem toIntS_ev (l : List Int) (hl : l.length ≤ 1048576) : Ev (fun k => laws_toIntS.f k l) l := by
  unfold laws_toIntS.f
  refine Ev.pos (by omega) (Ev.pos (by omega) ?_)
  have h := toIntS_l0 l hl l.length 0 (List.replicate l.length 0) (by omega) (by simp) (by simp)
  simpa using h
theorem eqIntS_l0 (l : List Int) (hl : l.length ≤ 1048576) : ∀ (d i : Nat), i + d = l.length → Ev (fun k => laws_eqIntS.l0 k l l (i : Int)) true
  | 0, i, hd => Ev.step (f := fun _ => some true) (fun k => by simp only [laws_eqIntS.l0]; rw [if_neg (by omega)]) (Ev.now _)
  | d + 1, i, hd => by
    refine Ev.step (f := fun k => laws_eqIntS.l0 k l l ((i + 1 : Nat) : Int)) (fun k => ?_) (eqIntS_l0 l hl d (i + 1) (by omega))
    simp only [laws_eqIntS.l0]; rw [if_pos (by omega), if_pos (by omega), if_pos (by omega), if_pos trivial, w1 (by omega) (by omega)]; simp
theorem eqIntS_ev (l : List Int) (hl : l.length ≤ 1048576) : Ev (fun k => laws_eqIntS.f k l l) true := by
  unfold laws_eqIntS.f
  exact Ev.pos rfl (by simpa using eqIntS_l0 l hl l.length 0 (by omega))

theorem spec_in (a b c : Int) : spec_l1In.f a b c = some (decide (b ≤ a ∧ a ≤ c)) := by
  unfold spec_l1In.f
  by_cases h : a ≥ b
  · rw [if_pos h]; simp [h]
  · rw [if_neg h]; simp; omega
theorem spec_all_l0 (a b : Int) (l : List Int) (hl : l.length ≤ 1048576) : ∀ (d i : Nat), i + d = l.length → Ev (fun k => spec_l1All.l0 k a b l (l.length : Int) (i : Int)) ((l.drop i).all fun x => decide (a ≤ x ∧ x ≤ b))
  | 0, i, hd => Ev.step (f := fun _ => some true) (fun k => by simp only [spec_l1All.l0]; rw [if_neg (by omega)]) (Ev.pure (by rw [List.drop_of_length_le (by omega)]; rfl))
  | d + 1, i, hd => by
    have h1 : i < l.length := by omega
    have ih := spec_all_l0 a b l hl d (i + 1) (by omega)
    rw [List.drop_eq_getElem_cons h1, List.all_cons]
    refine Ev.step (f := fun k => if (decide (a ≤ l[i] ∧ l[i] ≤ b)) = true then spec_l1All.l0 k a b l (l.length : Int) ((i + 1 : Nat) : Int) else some false) (fun k => ?_) ?_
    · simp only [spec_l1All.l0, spec_in]; rw [if_pos (by omega), if_pos (by omega), if_pos (by omega), w1 (by omega) (by omega), rd_nat l i h1]; simp
    · refine Ev.cases (fun h => ?_) (fun h => ?_)
      · rw [h, Bool.true_and]; exact ih
      · rw [Bool.eq_false_iff.mpr h, Bool.false_and]; exact Ev.now _
theorem spec_all (l : List Int) (a b : Int) (hl : l.length ≤ 1048576) : Ev (fun k => spec_l1All.f k l a b) (l.all fun x => decide (a ≤ x ∧ x ≤ b)) := by
  have h := spec_all_l0 a b l hl l.length 0 (by omega)
  simpa [spec_l1All.f] using h

theorem impl_in_eq (a b c : Int) : impl_in.f a b c = some (decide (b ≤ a ∧ a ≤ c)) := by
  unfold impl_in.f
  by_cases h : b ≤ a
  · rw [if_pos h]; simp [h]
  · rw [if_neg h]; simp [h]

theorem bt_nat (s : ByteArray) (i : Nat) (h : i < s.data.toList.length) : bt s (i : Int) = ((s.data.toList[i]).toNat : Int) := by
  have h' : i < s.size := by have e : s.size = s.data.toList.length := Array.length_toList.symm; omega
  unfold bt
  rw [dif_pos (show (i : Int).toNat < s.size by simpa using h')]
  simp [ByteArray.getElem_eq_getElem_data]
theorem size_data (s : ByteArray) : s.size = s.data.toList.length := Array.length_toList.symm
theorem letter_test (c : UInt8) : ((c.toNat : Int) < 97 ∨ ((c.toNat : Int) - 97) % 256 ≥ 3) ↔ isLetter c = false := by
  have := c.toNat_lt
  unfold isLetter
  rw [decide_eq_false_iff_not]
  omega
theorem wdIs_l0 (s : ByteArray) (hs : s.size < 4611686018427387904) : ∀ (d i : Nat), i + d = s.data.toList.length → Ev (fun k => spec_wdIs.l0 k s (i : Int)) ((s.data.toList.drop i).all isLetter)
  | 0, i, hd => by
    refine Ev.succ ?_
    simp only [spec_wdIs.l0]
    exact Ev.neg (by rw [size_data]; omega) (Ev.pure (by rw [List.drop_of_length_le (by omega)]; rfl))
  | d + 1, i, hd => by
    have h1 : i < s.data.toList.length := by omega
    have ih := wdIs_l0 s hs d (i + 1) (by omega)
    have ht := letter_test s.data.toList[i]
    have hsz := size_data s
    rw [List.drop_eq_getElem_cons h1, List.all_cons]
    refine Ev.succ ?_
    simp only [spec_wdIs.l0, bt_nat s i h1, w1 (show 0 ≤ (i : Int) by omega) (show (i : Int) < 9223372036854775807 by omega)]
    refine Ev.pos (by omega) (Ev.pos (by omega) (Ev.cases (fun h => ?_) (fun h => Ev.cases (fun h' => ?_) (fun h' => ?_))))
    · rw [ht.1 (Or.inl h)]; exact Ev.now _
    · rw [ht.1 (Or.inr h')]; exact Ev.now _
    · have : isLetter s.data.toList[i] = true := by
        cases hl : isLetter s.data.toList[i]
        · exact absurd (ht.2 hl) (by omega)
        · rfl
      rw [this, Bool.true_and]; exact ih
theorem wdIs_ev (s : ByteArray) (hs : s.size < 4611686018427387904) : Ev (fun k => spec_wdIs.f k s) (s.data.toList.all isLetter) := by
  have h := wdIs_l0 s hs s.data.toList.length 0 (by omega)
  simpa [spec_wdIs.f] using h

theorem wdGood_ev (s : ByteArray) : Ev (fun k => spec_wdGood.f k s) (decide (s.size ≤ 60) && s.data.toList.all isLetter) := by
  unfold spec_wdGood.f
  refine Ev.cases (fun h => ?_) (fun h => ?_)
  · rw [decide_eq_true (show s.size ≤ 60 by omega), Bool.true_and]
    exact Ev.bind (wdIs_ev s (by omega)) (Ev.now _)
  · rw [decide_eq_false (show ¬ s.size ≤ 60 by omega), Bool.false_and]
    exact Ev.now _

theorem min3 (a b c : Int) : Ev (fun k => slices_Min_int_int.f k [a, b, c]) (mn (mn a b) c) := by
  refine ⟨3, fun k hk => ?_⟩
  obtain ⟨k, rfl⟩ : ∃ m, k = m + 3 := ⟨k - 3, by omega⟩
  simp [slices_Min_int_int.f, slices_Min_int_int.l0, rd, wrap64]
theorem max3 (a b c : Int) : Ev (fun k => slices_Max_int_int.f k [a, b, c]) (mx (mx a b) c) := by
  refine ⟨3, fun k hk => ?_⟩
  obtain ⟨k, rfl⟩ : ∃ m, k = m + 3 := ⟨k - 3, by omega⟩
  simp [slices_Max_int_int.f, slices_Max_int_int.l0, rd, wrap64]
theorem sum3 (a b c : Int) : Ev (fun k => impl_sumWeights.f k [a, b, c]) (wrap64 (wrap64 (wrap64 (0 + a) + b) + c)) := by
  refine ⟨4, fun k hk => ?_⟩
  obtain ⟨k, rfl⟩ : ∃ m, k = m + 4 := ⟨k - 4, by omega⟩
  have e1 : wrap64 (0 + 1) = 1 := by unfold wrap64; omega
  have e2 : wrap64 (1 + 1) = 2 := by unfold wrap64; omega
  have e3 : wrap64 (2 + 1) = 3 := by unfold wrap64; omega
  simp only [impl_sumWeights.f, impl_sumWeights.l0, List.length_cons, List.length_nil, e1, e2, e3]
  simp [rd]

/-- weights of letters, as natural numbers -/
def Wts (l : List Int) (a b c : Nat) : Prop := l = [(a : Int), (b : Int), (c : Int)] ∧ 1 ≤ a + b + c ∧ a + b + c ≤ 10
theorem letterWeights_same (l : List Int) (hl : l.length ≤ 1048576) : ∃ t, Ev (fun k => spec_leWeights.f k l) t ∧ Ev (fun k => impl_areLetterWeights.f k l) t ∧ (t = true → ∃ a b c, Wts l a b c) := by
  unfold spec_leWeights.f impl_areLetterWeights.f
  by_cases h3 : l.length = 3
  · match l, h3 with
    | [a, b, c], h3 =>
      have hs := spec_all [a, b, c] 0 10 (by simp)
      by_cases hb : (0 ≤ a ∧ a ≤ 10) ∧ (0 ≤ b ∧ b ≤ 10) ∧ (0 ≤ c ∧ c ≤ 10)
      · have hs' : ([a, b, c].all fun x => decide (0 ≤ x ∧ x ≤ 10)) = true := by simp; omega
        rw [hs'] at hs
        have e1 : wrap64 (wrap64 (rd [a, b, c] 0 + rd [a, b, c] 1) + rd [a, b, c] 2) = a + b + c := by
          simp only [rd, Int.toNat_zero, List.getD_cons_zero, Int.toNat_one, List.getD_cons_succ, show (2 : Int).toNat = 2 from rfl]
          rw [w64 (i := a + b) (by omega) (by omega), w64 (by omega) (by omega)]
        have e2 : wrap64 (wrap64 (wrap64 (0 + a) + b) + c) = a + b + c := by
          rw [w64 (i := 0 + a) (by omega) (by omega), w64 (i := 0 + a + b) (by omega) (by omega), w64 (by omega) (by omega), Int.zero_add]
        have E1 := Aside0.mk e1
        have E2 := Aside0.mk e2
        clear e1 e2
        refine ⟨decide (1 ≤ a + b + c ∧ a + b + c ≤ 10), Ev.pos (by simp) (Ev.bind hs (Ev.pos rfl (Ev.pos (by simp) (Ev.pos (by simp) (Ev.pos (by simp) ?_))))), Ev.pos (by simp) (Ev.bind (min3 a b c) (Ev.pos ?_ (Ev.bind (max3 a b c) (Ev.pos ?_ (Ev.bind (sum3 a b c) ?_))))), fun h => ⟨a.toNat, b.toNat, c.toNat, ?_⟩⟩
        · exact Ev.known (fun _ => spec_in _ _ _) (Ev.pure (by rw [E1.out]))
        · unfold mn; split <;> split <;> omega
        · unfold mx; split <;> split <;> omega
        · exact Ev.known (fun _ => impl_in_eq _ _ _) (Ev.pure (by rw [E2.out]))
        · have h' := of_decide_eq_true h
          refine ⟨?_, by omega, by omega⟩
          rw [show ((a.toNat : Nat) : Int) = a by omega, show ((b.toNat : Nat) : Int) = b by omega, show ((c.toNat : Nat) : Int) = c by omega]
      · have hs' : ([a, b, c].all fun x => decide (0 ≤ x ∧ x ≤ 10)) = false := by
          rw [Bool.eq_false_iff]; intro h; simp at h; omega
        rw [hs'] at hs
        refine ⟨false, Ev.pos (by simp) (Ev.bind hs (Ev.neg (by simp) (Ev.now _))), Ev.pos (by simp) (Ev.bind (min3 a b c) (Ev.cases (fun hm => Ev.bind (max3 a b c) (Ev.neg ?_ (Ev.now _))) (fun _ => Ev.now _))), fun h => by cases h⟩
        revert hm; unfold mn mx; split <;> split <;> split <;> split <;> omega
  · exact ⟨false, Ev.neg (by omega) (Ev.now _), Ev.neg (by omega) (Ev.now _), fun h => by cases h⟩

theorem power_l0 (b m : Nat) (hb : 1 ≤ b) (hp : b ^ m < 4611686018427387904) (hm : m ≤ 1048576) : ∀ (d i : Nat), i + d = m → Ev (fun k => impl_power.l0 k (b : Int) ((b ^ i : Nat) : Int) (m : Int) (i : Int)) ((b ^ m : Nat) : Int)
  | 0, i, hd => by
    refine Ev.succ ?_
    simp only [impl_power.l0]
    exact Ev.neg (by omega) (Ev.pure (by rw [show i = m by omega]))
  | d + 1, i, hd => by
    have ih := power_l0 b m hb hp hm d (i + 1) (by omega)
    have h1 : b ^ (i + 1) ≤ b ^ m := Nat.pow_le_pow_right hb (by omega)
    have e : Aside0 (wrap64 (((b ^ i : Nat) : Int) * (b : Int)) = ((b ^ (i + 1) : Nat) : Int)) := ⟨by
      rw [← Int.natCast_mul, show b ^ i * b = b ^ (i + 1) from rfl]; exact w64 (by omega) (by omega)⟩
    refine Ev.succ ?_
    simp only [impl_power.l0, e.out, w1 (show 0 ≤ (i : Int) by omega) (show (i : Int) < 9223372036854775807 by omega)]
    exact Ev.pos (by omega) ih
theorem power_ev (b m : Nat) (hb : 1 ≤ b) (hp : b ^ m < 4611686018427387904) (hm : m ≤ 1048576) : Ev (fun k => impl_power.f k (b : Int) (m : Int)) ((b ^ m : Nat) : Int) := by
  have h := power_l0 b m hb hp hm m 0 (by omega)
  simpa [impl_power.f] using h

theorem krPower_l0 (b m : Nat) (hb : 1 ≤ b) (hp : b ^ m < 4611686018427387904) (hm : m ≤ 1048576) : ∀ (d i : Nat), i + d = m → Ev (fun k => spec_krPower.l0 k (b : Int) (d : Int) ((b ^ i : Nat) : Int)) ((b ^ m : Nat) : Int)
  | 0, i, hd => by
    refine Ev.succ ?_
    simp only [spec_krPower.l0]
    exact Ev.neg (by omega) (Ev.pure (by rw [show i = m by omega]))
  | d + 1, i, hd => by
    have ih := krPower_l0 b m hb hp hm d (i + 1) (by omega)
    have h1 : b ^ (i + 1) ≤ b ^ m := Nat.pow_le_pow_right hb (by omega)
    have e : Aside0 (wrap64 (((b ^ i : Nat) : Int) * (b : Int)) = ((b ^ (i + 1) : Nat) : Int)) := ⟨by
      rw [← Int.natCast_mul, show b ^ i * b = b ^ (i + 1) from rfl]; exact w64 (by omega) (by omega)⟩
    have e2 : Aside0 (wrap64 (((d + 1 : Nat) : Int) - 1) = (d : Int)) := ⟨by rw [w64 (by omega) (by omega)]; omega⟩
    refine Ev.succ ?_
    simp only [spec_krPower.l0, e.out, e2.out]
    exact Ev.pos (by omega) ih
theorem krPower_ev (b m : Nat) (hb : 1 ≤ b) (hp : b ^ m < 4611686018427387904) (hm : m ≤ 1048576) : Ev (fun k => spec_krPower.f k (b : Int) (m : Int)) ((b ^ m : Nat) : Int) := by
  have h := krPower_l0 b m hb hp hm m 0 (by omega)
  simpa [spec_krPower.f] using h

theorem krGcd_ev : ∀ (b a : Nat), a < 4611686018427387904 → Ev (fun k => spec_krGcd.l0 k (a : Int) (b : Int)) ((Nat.gcd a b : Nat) : Int) := by
  intro b
  induction b using Nat.strongRecOn with
  | _ b ih =>
    intro a ha
    refine Ev.succ ?_
    simp only [spec_krGcd.l0]
    by_cases h : b = 0
    · subst h
      exact Ev.pos rfl (Ev.pure (by rw [Nat.gcd_zero_right]))
    · have h1 := ih (a % b) (Nat.mod_lt _ (by omega))
      refine Ev.neg (by omega) ?_
      by_cases hb : b < 4611686018427387904
      · have h2 := h1 b hb
        rw [← Int.ofNat_tmod, show Nat.gcd a b = Nat.gcd b (a % b) from by rw [Nat.gcd_comm a b, Nat.gcd_rec b a, Nat.gcd_comm]]
        exact h2
      · have e : a % b = a := Nat.mod_eq_of_lt (by omega)
        rw [← Int.ofNat_tmod, e]
        refine Ev.succ ?_
        simp only [spec_krGcd.l0]
        by_cases h0 : a = 0
        · subst h0
          exact Ev.pos rfl (Ev.pure (by rw [Nat.gcd_zero_left]))
        · have h3 := ih a (by omega)
          refine Ev.neg (by omega) ?_
          have h4 := ih (b % a) (Nat.lt_of_lt_of_le (Nat.mod_lt _ (by omega)) (by omega)) a ha
          rw [← Int.ofNat_tmod, Nat.gcd_comm a b, Nat.gcd_comm b a, Nat.gcd_rec a b, Nat.gcd_comm]
          exact h4
/-- a ratio in lowest terms -/
def lowest (a b : Nat) : Int × Int := (((a / Nat.gcd a b : Nat) : Int), ((b / Nat.gcd a b : Nat) : Int))
theorem krRatio_ev (a b : Nat) (ha : a < 4611686018427387904) (hb : b < 4611686018427387904) (hb0 : 0 < b) : Ev (fun k => spec_krRatio.f k (a : Int) (b : Int)) (lowest a b) := by
  have hg : 0 < Nat.gcd a b := Nat.gcd_pos_of_pos_right _ hb0
  have h1 : a / Nat.gcd a b ≤ a := Nat.div_le_self _ _
  have h2 : b / Nat.gcd a b ≤ b := Nat.div_le_self _ _
  unfold spec_krRatio.f spec_krGcd.f
  refine Ev.bind (krGcd_ev b a ha) (Ev.neg (by omega) (Ev.pure ?_))
  unfold lowest
  rw [← Int.ofNat_tdiv, ← Int.ofNat_tdiv]
  generalize a / Nat.gcd a b = x at *
  generalize b / Nat.gcd a b = y at *
  rw [w64 (by omega) (by omega), w64 (by omega) (by omega)]
theorem lowest_mul (a b c : Nat) (hc : 0 < c) : lowest (a * c) (b * c) = lowest a b := by
  unfold lowest
  rw [Nat.gcd_mul_right, Nat.mul_div_mul_right _ _ hc, Nat.mul_div_mul_right _ _ hc]

theorem ratio_l0 (a b : Nat) (ha : a < 4611686018427387904) (hb : b < 4611686018427387904) : ∀ (y x : Nat), 0 < Nat.gcd x y → Nat.gcd x y = Nat.gcd a b → Ev (fun k => impl_ratio.l0 k (a : Int) (b : Int) (x : Int) (y : Int)) (lowest a b) := by
  intro y
  induction y using Nat.strongRecOn with
  | _ y ih =>
    intro x hg he
    refine Ev.succ ?_
    simp only [impl_ratio.l0]
    by_cases h : y = 0
    · subst h
      rw [Nat.gcd_zero_right] at hg he
      refine Ev.pos rfl (Ev.neg (by omega) (Ev.pure ?_))
      subst he
      have h1 : a / Nat.gcd a b ≤ a := Nat.div_le_self _ _
      have h2 : b / Nat.gcd a b ≤ b := Nat.div_le_self _ _
      unfold lowest
      rw [← Int.ofNat_tdiv, ← Int.ofNat_tdiv]
      generalize a / Nat.gcd a b = x at *
      generalize b / Nat.gcd a b = y at *
      rw [w64 (by omega) (by omega), w64 (by omega) (by omega)]
    · have e : Nat.gcd y (x % y) = Nat.gcd x y := by rw [Nat.gcd_comm x y, Nat.gcd_rec y x, Nat.gcd_comm]
      rw [← Int.ofNat_tmod]
      exact Ev.neg (by omega) (ih (x % y) (Nat.mod_lt _ (by omega)) y (by rw [e]; exact hg) (by rw [e]; exact he))
theorem ratio_ev (a b : Nat) (ha : a < 4611686018427387904) (hb : b < 4611686018427387904) (hb0 : 0 < b) : Ev (fun k => impl_ratio.f k (a : Int) (b : Int)) (lowest a b) := by
  unfold impl_ratio.f
  exact ratio_l0 a b ha hb b a (Nat.gcd_pos_of_pos_right _ hb0) rfl

/-- the weight of a letter -/
def wt (a b c : Nat) (x : UInt8) : Nat := if x.toNat = 97 then a else if x.toNat = 98 then b else c
/-- the weights of a word's letters, multiplied -/
def wprod (a b c : Nat) (l : List UInt8) : Nat := (l.map (wt a b c)).prod
theorem wprod_le (a b c : Nat) : ∀ (l : List UInt8), wprod a b c l ≤ (a + b + c) ^ l.length
  | [] => by simp [wprod]
  | x :: l => by
    have ih := wprod_le a b c l
    have h : wt a b c x ≤ a + b + c := by
      unfold wt
      repeat' split
      all_goals omega
    simp only [wprod, List.map_cons, List.prod_cons, List.length_cons, Nat.pow_succ] at ih ⊢
    rw [Nat.mul_comm]
    exact Nat.mul_le_mul ih h
theorem wprod_take (a b c : Nat) (l : List UInt8) (i : Nat) (h : i < l.length) : wprod a b c (l.take (i + 1)) = wprod a b c (l.take i) * wt a b c l[i] := by
  unfold wprod
  rw [List.take_succ_eq_append_getElem h, List.map_append, List.prod_append]
  simp
theorem letter_cases (x : UInt8) (h : isLetter x = true) : x.toNat = 97 ∨ x.toNat = 98 ∨ x.toNat = 99 := by
  unfold isLetter at h
  have := of_decide_eq_true h
  omega
theorem wt_rd (a b c : Nat) (x : UInt8) (h : isLetter x = true) : 0 ≤ ((x.toNat : Int) - 97) % 256 ∧ ((x.toNat : Int) - 97) % 256 < 3 ∧ rd [(a : Int), (b : Int), (c : Int)] (((x.toNat : Int) - 97) % 256) = (wt a b c x : Int) := by
  rcases letter_cases x h with e | e | e <;> rw [e] <;> simp [rd, wt, e]

theorem leProduct_l0 (s : ByteArray) (a b c : Nat) (hs : s.size ≤ 8) (hp : (a + b + c) ^ 8 < 4611686018427387904) (h1 : 1 ≤ a + b + c) (hl : s.data.toList.all isLetter = true) : ∀ (d i : Nat), i + d = s.data.toList.length → Ev (fun k => spec_leProduct.l0 k s [(a : Int), (b : Int), (c : Int)] ((wprod a b c (s.data.toList.take i) : Nat) : Int) (i : Int)) ((wprod a b c s.data.toList : Nat) : Int)
  | 0, i, hd => by
    refine Ev.succ ?_
    simp only [spec_leProduct.l0]
    exact Ev.neg (by rw [size_data]; omega) (Ev.pure (by rw [List.take_of_length_le (by omega)]))
  | d + 1, i, hd => by
    have hi : i < s.data.toList.length := by omega
    have ih := leProduct_l0 s a b c hs hp h1 hl d (i + 1) (by omega)
    have hw := wt_rd a b c s.data.toList[i] (List.all_eq_true.1 hl _ (List.getElem_mem hi))
    have hsz := size_data s
    have hle := wprod_le a b c (s.data.toList.take (i + 1))
    have hpw : (a + b + c) ^ (s.data.toList.take (i + 1)).length ≤ (a + b + c) ^ 8 := Nat.pow_le_pow_right h1 (by simp; omega)
    have e : Aside0 (wrap64 (((wprod a b c (s.data.toList.take i) : Nat) : Int) * (wt a b c s.data.toList[i] : Int)) = ((wprod a b c (s.data.toList.take (i + 1)) : Nat) : Int)) := ⟨by
      rw [← Int.natCast_mul, ← wprod_take]; exact w64 (by omega) (by omega)⟩
    refine Ev.succ ?_
    simp only [spec_leProduct.l0, bt_nat s i hi, w1 (show 0 ≤ (i : Int) by omega) (show (i : Int) < 9223372036854775807 by omega), hw.2.2, e.out]
    exact Ev.pos (by omega) (Ev.pos (by omega) (Ev.pos hw.1 (Ev.pos (by simpa using hw.2.1) ih)))
theorem heavy_l0 (s : ByteArray) (a b c m : Nat) (hs : s.size ≤ 8) (hm : m = (a + b + c) ^ (8 - s.size)) (hp : (a + b + c) ^ 8 < 4611686018427387904) (h1 : 1 ≤ a + b + c) (hl : s.data.toList.all isLetter = true) : ∀ (d i : Nat), i + d = s.data.toList.length → Ev (fun k => impl_heavy.l0 k s [(a : Int), (b : Int), (c : Int)] ((m * wprod a b c (s.data.toList.take i) : Nat) : Int) (s.size : Int) (i : Int)) ((m * wprod a b c s.data.toList : Nat) : Int)
  | 0, i, hd => by
    refine Ev.succ ?_
    simp only [impl_heavy.l0]
    exact Ev.neg (by rw [size_data]; omega) (Ev.pure (by rw [List.take_of_length_le (by omega)]))
  | d + 1, i, hd => by
    have hi : i < s.data.toList.length := by omega
    have ih := heavy_l0 s a b c m hs hm hp h1 hl d (i + 1) (by omega)
    have hw := wt_rd a b c s.data.toList[i] (List.all_eq_true.1 hl _ (List.getElem_mem hi))
    have hsz := size_data s
    have hle := wprod_le a b c (s.data.toList.take (i + 1))
    have hpw : (a + b + c) ^ (8 - s.size) * (a + b + c) ^ (s.data.toList.take (i + 1)).length ≤ (a + b + c) ^ 8 := by
      rw [← Nat.pow_add]; exact Nat.pow_le_pow_right h1 (by simp; omega)
    have hle2 : m * wprod a b c (s.data.toList.take (i + 1)) < 4611686018427387904 := by
      rw [hm]
      exact Nat.lt_of_le_of_lt (Nat.le_trans (Nat.mul_le_mul_left _ hle) hpw) hp
    have e : Aside0 (wrap64 (((m * wprod a b c (s.data.toList.take i) : Nat) : Int) * (wt a b c s.data.toList[i] : Int)) = ((m * wprod a b c (s.data.toList.take (i + 1)) : Nat) : Int)) := ⟨by
      rw [← Int.natCast_mul, Nat.mul_assoc, ← wprod_take]; exact w64 (by omega) (by omega)⟩
    refine Ev.succ ?_
    simp only [impl_heavy.l0, bt_nat s i hi, w1 (show 0 ≤ (i : Int) by omega) (show (i : Int) < 9223372036854775807 by omega), hw.2.2, e.out]
    exact Ev.pos (by omega) (Ev.pos (by omega) (Ev.pos (by omega) (Ev.pos hw.1 (Ev.pos (by simpa using hw.2.1) ih))))
theorem pow8 (t : Nat) (h : t ≤ 10) : t ^ 8 < 4611686018427387904 := Nat.lt_of_le_of_lt (Nat.pow_le_pow_left h 8) (by decide)
theorem sum3' (a b c : Nat) (h : a + b + c ≤ 10) : Ev (fun k => impl_sumWeights.f k [(a : Int), (b : Int), (c : Int)]) ((a + b + c : Nat) : Int) := by
  have h' := sum3 (a : Int) (b : Int) (c : Int)
  have e : Aside0 (wrap64 (wrap64 (wrap64 (0 + (a : Int)) + (b : Int)) + (c : Int)) = ((a + b + c : Nat) : Int)) := ⟨by
    rw [w64 (i := 0 + (a : Int)) (by omega) (by omega), w64 (i := 0 + (a : Int) + (b : Int)) (by omega) (by omega), w64 (by omega) (by omega)]; omega⟩
  rw [e.out] at h'; exact h'
theorem heavy_ev (s : ByteArray) (a b c : Nat) (hs : s.size ≤ 8) (hb : 1 ≤ a + b + c ∧ a + b + c ≤ 10) (hl : s.data.toList.all isLetter = true) : Ev (fun k => impl_heavy.f k s [(a : Int), (b : Int), (c : Int)]) (((a + b + c) ^ (8 - s.size) * wprod a b c s.data.toList : Nat) : Int) := by
  have hp := pow8 _ hb.2
  have h8 : (a + b + c) ^ (8 - s.size) ≤ (a + b + c) ^ 8 := Nat.pow_le_pow_right hb.1 (by omega)
  have h := heavy_l0 s a b c _ hs rfl hp hb.1 hl s.data.toList.length 0 (by omega)
  have e : Aside0 (wrap64 (8 - (s.size : Int)) = ((8 - s.size : Nat) : Int)) := ⟨by rw [w64 (by omega) (by omega)]; omega⟩
  unfold impl_heavy.f
  refine Ev.bind (sum3' a b c hb.2) ?_
  rw [e.out]
  refine Ev.bind (power_ev (a + b + c) (8 - s.size) hb.1 (by omega) (by omega)) ?_
  simpa [wprod] using h
theorem weightOf_same (s : ByteArray) (l : List Int) (hs : s.size ≤ 1048576) (hl : l.length ≤ 1048576) : ∃ r, Ev (fun k => spec_WeightOf.f k s l) r ∧ Ev (fun k => impl_WeightOf.f k s l) r := by
  unfold spec_WeightOf.f impl_WeightOf.f
  have g1 := wdGood_ev s
  have g2 : impl_isWord.f s = some (decide (s.size ≤ 60) && s.data.toList.all isLetter) := rfl
  have fe : ∀ (x : Bool), x = true → Ev (fun k => spec_WeightOf.j0 k s l x) (0, 0, false) := fun x hx => Ev.succ (by simp only [spec_WeightOf.j0]; exact Ev.pos hx (Ev.now _))
  obtain ⟨t, l1, l2, hw⟩ := letterWeights_same l hl
  generalize hG : (decide (s.size ≤ 60) && s.data.toList.all isLetter) = G at g1 g2
  cases G with
  | false => exact ⟨(0, 0, false), Ev.bind g1 (Ev.neg (by simp) (fe _ rfl)), Ev.known (fun _ => g2) (Ev.neg (by simp) (Ev.now _))⟩
  | true =>
    by_cases h8 : s.size > 8
    · exact ⟨(0, 0, false), Ev.bind g1 (Ev.pos rfl (Ev.pos (by omega) (fe _ rfl))), Ev.known (fun _ => g2) (Ev.pos rfl (Ev.pos (by omega) (Ev.now _)))⟩
    · cases t with
      | false => exact ⟨(0, 0, false), Ev.bind g1 (Ev.pos rfl (Ev.neg (by omega) (Ev.bind l1 (fe _ rfl)))), Ev.known (fun _ => g2) (Ev.pos rfl (Ev.neg (by omega) (Ev.bind l2 (Ev.neg (by simp) (Ev.now _)))))⟩
      | true =>
        obtain ⟨a, b, c, hl3, hb1, hb2⟩ := hw rfl
        have hall : s.data.toList.all isLetter = true := by simp only [Bool.and_eq_true] at hG; exact hG.2
        have hp := pow8 _ hb2
        have hpn : (a + b + c) ^ s.size ≤ (a + b + c) ^ 8 := Nat.pow_le_pow_right hb1 (by omega)
        have hpos : 0 < (a + b + c) ^ s.size := Nat.pow_pos (by omega)
        have hpos8 : 0 < (a + b + c) ^ (8 - s.size) := Nat.pow_pos (by omega)
        have hle := wprod_le a b c s.data.toList
        rw [← size_data] at hle
        have h1 := leProduct_l0 s a b c (by omega) hp hb1 hall s.data.toList.length 0 (by omega)
        have h1' : Ev (fun k => spec_leProduct.f k s l) ((wprod a b c s.data.toList : Nat) : Int) := by
          rw [hl3]; simpa [spec_leProduct.f, wprod] using h1
        have ht : spec_leTotal.f l = some ((a + b + c : Nat) : Int) := by
          have e : Aside0 (wrap64 (wrap64 ((a : Int) + (b : Int)) + (c : Int)) = ((a + b + c : Nat) : Int)) := ⟨by rw [w64 (i := (a : Int) + (b : Int)) (by omega) (by omega), w64 (by omega) (by omega)]; omega⟩
          rw [hl3]; simp [spec_leTotal.f, rd, e.out]
        have hr := krRatio_ev (wprod a b c s.data.toList) ((a + b + c) ^ s.size) (by omega) (by omega) hpos
        have hsplit : (a + b + c) ^ s.size * (a + b + c) ^ (8 - s.size) = (a + b + c) ^ 8 := by rw [← Nat.pow_add]; congr 1; omega
        have hbig : wprod a b c s.data.toList * (a + b + c) ^ (8 - s.size) ≤ (a + b + c) ^ 8 := by
          rw [← hsplit]; exact Nat.mul_le_mul_right _ hle
        have hr2 := ratio_ev (wprod a b c s.data.toList * (a + b + c) ^ (8 - s.size)) ((a + b + c) ^ 8) (by omega) (by omega) (Nat.pow_pos (by omega))
        rw [← hsplit, lowest_mul _ _ _ hpos8, hsplit] at hr2
        have hh := heavy_ev s a b c (by omega) ⟨hb1, hb2⟩ hall
        generalize hX : lowest (wprod a b c s.data.toList) ((a + b + c) ^ s.size) = X at hr hr2
        have hweigh : Ev (fun k => impl_weigh_at_impl_once.f k [s] l) X := by
          unfold impl_weigh_at_impl_once.f
          refine Ev.succ ?_
          simp only [impl_weigh_at_impl_once.l0]
          refine Ev.pos (by simp) (Ev.pos (by simp) (Ev.pos (by simp) ?_))
          rw [hl3]
          refine Ev.bind (show Ev (fun k => impl_heavy.f k (rdOf ByteArray.empty [s] 0) [(a : Int), (b : Int), (c : Int)]) _ from hh) (Ev.known (fun _ => rfl) ?_)
          have e : Aside0 (wrap64 (0 + wrap64 ((((a + b + c) ^ (8 - s.size) * wprod a b c s.data.toList : Nat) : Int) * 1)) = ((wprod a b c s.data.toList * (a + b + c) ^ (8 - s.size) : Nat) : Int)) := ⟨by
            rw [Nat.mul_comm] at hbig
            rw [Nat.mul_comm (wprod a b c s.data.toList)]
            generalize (a + b + c) ^ (8 - s.size) * wprod a b c s.data.toList = z at *
            rw [Int.mul_one, Int.zero_add, w64 (i := (z : Int)) (by omega) (by omega), w64 (by omega) (by omega)]⟩
          rw [e.out, show wrap64 (0 + 1) = 1 from by unfold wrap64; omega]
          refine Ev.succ ?_
          simp only [impl_weigh_at_impl_once.l0]
          refine Ev.neg (by simp) (Ev.bind (sum3' a b c hb2) (Ev.bind (power_ev (a + b + c) 8 hb1 (by omega) (by omega)) (Ev.bind hr2 (Ev.now _))))
        refine ⟨(X.1, X.2, true), Ev.bind g1 (Ev.pos rfl (Ev.neg (by omega) (Ev.bind l1 ?_))), Ev.known (fun _ => g2) (Ev.pos rfl (Ev.neg (by omega) (Ev.bind l2 (Ev.pos rfl (Ev.bind hweigh (Ev.now _))))))⟩
        refine Ev.succ ?_
        simp only [spec_WeightOf.j0]
        exact Ev.neg (by simp) (Ev.bind h1' (Ev.known (fun _ => ht) (Ev.bind (krPower_ev (a + b + c) s.size hb1 (by omega) (by omega)) (Ev.bind hr (Ev.now _)))))
theorem FnExactWeightOf : laws_FnExactWeightOf.Pure := by
  intro s l _ _ _ _
  refine Ev.rounds ?_
  unfold laws_FnExactWeightOf.f
  refine Ev.cases (fun _ => Ev.now _) (fun hw => Ev.cases (fun _ => Ev.now _) (fun hl => ?_))
  have hs' : s.size ≤ 1048576 := by omega
  have hl' : l.length ≤ 1048576 := by omega
  obtain ⟨r, h1, h2⟩ := weightOf_same s l hs' hl'
  have he : laws_eqRatio.f r.1 r.2.1 r.1 r.2.1 = some true := by simp [laws_eqRatio.f]
  refine Ev.bind (toIntS_ev l hl') (Ev.bind h1 (Ev.bind (toIntS_ev l hl') (Ev.bind h2 (Ev.known (fun _ => he) (Ev.pos rfl ?_)))))
  refine Ev.succ ?_
  simp only [laws_FnExactWeightOf.j0]
  refine Ev.neg (by simp) ?_
  exact Ev.bind (toIntS_ev l hl') (Ev.bind (eqIntS_ev l hl') (Ev.pos rfl (Ev.now _)))
end Go.Proofs.YtoemhhfkbclbiaaDoor.Pure
