/- OrderedWords of the program and of the reference answer alike for all arguments, and leave them as they were: no condition. -/
import Derived.Test.YtejngeeafagbpaaXFnExactOrderedWordsx4
namespace Go.Proofs.Ytejngeeafagbpaa.Pure
set_option linter.unusedSimpArgs false
set_option linter.unusedVariables false
open Go.RowKit Go.Proofs.Ytejngeeafagbpaa.XFnExactOrderedWords Go.Proofs.YtejngeeafagbpaaW.PrintWords Go.Proofs.YtejngeeafagbpaaW.PrintLast Go.Proofs.YtejngeeafagbpaaW.PrintMore

theorem w1 {i : Int} (h0 : 0 ≤ i) (h : i < 9223372036854775807) : wrap64 (i + 1) = i + 1 := by unfold wrap64; omega
theorem w64 {i : Int} (h0 : -9223372036854775808 ≤ i) (h : i < 9223372036854775808) : wrap64 i = i := by unfold wrap64; omega
theorem rd_nat (l : List Int) (i : Nat) (h : i < l.length) : rd l (i : Int) = l[i] := by
  unfold rd; simp [List.getD_eq_getElem?_getD, h]
theorem Ev.pos {α : Type} {c : Prop} [Decidable c] {g g' : Nat → Option α} {r : α} (h : c) (k : Ev g r) : Ev (fun n => if c then g n else g' n) r :=
  Ev.congr (fun n => if_pos h) k
theorem Ev.neg {α : Type} {c : Prop} [Decidable c] {g g' : Nat → Option α} {r : α} (h : ¬ c) (k : Ev g' r) : Ev (fun n => if c then g n else g' n) r :=
  Ev.congr (fun n => if_neg h) k
theorem Ev.cases {α : Type} {c : Prop} [Decidable c] {g g' : Nat → Option α} {r : α} (h : c → Ev g r) (k : ¬ c → Ev g' r) : Ev (fun n => if c then g n else g' n) r := by
  by_cases e : c
  · exact Ev.pos e (h e)
  · exact Ev.neg e (k e)
/-- a call whose answer is known at every number of rounds -/
theorem Ev.known {α β : Type} {g : Nat → Option α} {f : Nat → α → Option β} {a : α} {r : β} (h : ∀ n, g n = some a) (k : Ev (fun n => f n a) r) : Ev (fun n => (g n).bind (f n)) r :=
  Ev.bind ⟨0, fun n _ => h n⟩ k
/-- one bind of two, joined with what follows -/
theorem Ev.pure {α : Type} {r q : α} (h : r = q) : Ev (fun _ => some r) q := h ▸ Ev.now r
theorem Ev.succ {α : Type} {g : Nat → Option α} {r : α} (h : Ev (fun k => g (k + 1)) r) : Ev g r := Ev.step (f := fun k => g (k + 1)) (fun _ => rfl) h

theorem toIntS_l0 (l : List Int) (hl : l.length ≤ 1048576) : ∀ (d i : Nat) (xs : List Int), i + d = l.length → xs.length = l.length → xs.take i = l.take i → Ev (fun k => laws_toIntS.l0 k l xs (i : Int)) l
  | 0, i, xs, hd, hx, ht => by
    refine Ev.step (f := fun _ => some xs) (fun k => ?_) (Ev.pure ?_)
    · simp only [laws_toIntS.l0]; rw [if_neg (by omega)]
    · rw [List.take_of_length_le (by omega), List.take_of_length_le (by omega)] at ht; exact ht
  | d + 1, i, xs, hd, hx, ht => by
    refine Ev.step (f := fun k => laws_toIntS.l0 k l (xs.set i (rd l i)) ((i + 1 : Nat) : Int)) (fun k => ?_) (toIntS_l0 l hl d (i + 1) _ (by omega) (by simp [hx]) ?_)
    · simp only [laws_toIntS.l0]; rw [if_pos (by omega), if_pos (by omega), if_pos (by omega), w1 (by omega) (by omega)]; simp
    · have h1 : i < l.length := by omega
      have h2 : i < (xs.set i (rd l i)).length := by simp; omega
      have e := rd_nat l i h1
      rw [List.take_succ_eq_append_getElem h2, List.take_succ_eq_append_getElem h1, List.take_set, List.set_eq_of_length_le (by simp; omega), ht]
      simp [e]
theorem toIntS_ev (l : List Int) (hl : l.length ≤ 1048576) : Ev (fun k => laws_toIntS.f k l) l := by
  unfold laws_toIntS.f
  refine Ev.pos (by omega) (Ev.pos (by omega) ?_)
  have h := toIntS_l0 l hl l.length 0 (List.replicate l.length 0) (by omega) (by simp) (by simp)
  simpa using h
theorem eqIntS_l0 (l : List Int) (hl : l.length ≤ 1048576) : ∀ (d i : Nat), i + d = l.length → Ev (fun k => laws_eqIntS.l0 k l l (i : Int)) true
  | 0, i, hd => Ev.step (f := fun _ => some true) (fun k => by simp only [laws_eqIntS.l0]; rw [if_neg (by omega)]) (Ev.now _)
  | d + 1, i, hd => by
    refine Ev.step (f := fun k => laws_eqIntS.l0 k l l ((i + 1 : Nat) : Int)) (fun k => ?_) (eqIntS_l0 l hl d (i + 1) (by omega))
    simp only [laws_eqIntS.l0]; rw [if_pos (by omega), if_pos (by omega), if_pos (by omega), if_pos trivial, w1 (by omega) (by omega)]; simp
theorem eqIntS_ev (l : List Int) (hl : l.length ≤ 1048576) : Ev (fun k => laws_eqIntS.f k l l) true := by
  unfold laws_eqIntS.f
  exact Ev.pos rfl (by simpa using eqIntS_l0 l hl l.length 0 (by omega))

theorem rdOf_nat (l : List ByteArray) (i : Nat) (h : i < l.length) : rdOf ByteArray.empty l (i : Int) = l[i] := by
  unfold rdOf; simp [List.getD_eq_getElem?_getD, h]

theorem eqS_l0 (l : List ByteArray) (hl : l.length ≤ 1048576) : ∀ (d i : Nat), i + d = l.length → Ev (fun k => laws_eqStringS.l0 k l l (i : Int)) true
  | 0, i, hd => Ev.step (f := fun _ => some true) (fun k => by simp only [laws_eqStringS.l0]; rw [if_neg (by omega)]) (Ev.now _)
  | d + 1, i, hd => by
    refine Ev.step (f := fun k => laws_eqStringS.l0 k l l ((i + 1 : Nat) : Int)) (fun k => ?_) (eqS_l0 l hl d (i + 1) (by omega))
    simp only [laws_eqStringS.l0]; rw [if_pos (by omega), if_pos (by omega), if_pos (by omega), if_pos trivial, w1 (by omega) (by omega)]; simp
theorem eqS_ev (l : List ByteArray) (hl : l.length ≤ 1048576) : Ev (fun k => laws_eqStringS.f k l l) true := by
  unfold laws_eqStringS.f
  exact Ev.pos rfl (by simpa using eqS_l0 l hl l.length 0 (by omega))


theorem strOfNums_one (x : Int) : (strOfNums [x]).size = 1 := by simp [strOfNums, ByteArray.size]
theorem markText_l0 : ∀ (d n : Nat) (s : ByteArray), n < 10 ^ d → n < 4611686018427387904 → s.size + d ≤ 1000 → ∃ t, Ev (fun k => laws_markText.l0 k (n : Int) s) t
  | 0, n, s, hn, _, hs => by
    refine ⟨(⟨#[109]⟩ : ByteArray) ++ s, Ev.succ ?_⟩
    simp only [laws_markText.l0]
    exact Ev.neg (by omega) (Ev.pos (by omega) (Ev.now _))
  | d + 1, n, s, hn, hb, hs => by
    by_cases h0 : n = 0
    · refine ⟨(⟨#[109]⟩ : ByteArray) ++ s, Ev.succ ?_⟩
      simp only [laws_markText.l0]
      exact Ev.neg (by omega) (Ev.pos (by omega) (Ev.now _))
    · have e0 : (strOfNums [(wrap64 (48 + (Int.tmod (n : Int) 10))) % 256]).size = 1 := strOfNums_one _
      have hq : n / 10 < 10 ^ d := by rw [Nat.pow_succ] at hn; omega
      obtain ⟨t, ht⟩ := markText_l0 d (n / 10) (strOfNums [(wrap64 (48 + (Int.tmod (n : Int) 10))) % 256] ++ s) hq (by omega) (by rw [ByteArray.size_append, e0]; omega)
      have e2 : Aside0 (wrap64 (Int.tdiv (n : Int) 10) = ((n / 10 : Nat) : Int)) := ⟨by
        rw [show (10 : Int) = ((10 : Nat) : Int) from rfl, ← Int.ofNat_tdiv]; exact w64 (by omega) (by omega)⟩
      refine ⟨t, Ev.succ ?_⟩
      simp only [laws_markText.l0, e2.out]
      exact Ev.pos (by omega) (Ev.known (fun _ => rfl) (Ev.pos (by rw [e0]; omega) ht))
theorem marks : ∃ mt : Nat → ByteArray, ∀ n : Nat, n ≤ 1048577 → Ev (fun k => laws_markText.f k (n : Int)) (mt n) := by
  have h : ∀ n : Nat, ∃ t, n ≤ 1048577 → Ev (fun k => laws_markText.f k (n : Int)) t := by
    intro n
    by_cases hn : n ≤ 1048577
    · by_cases h0 : n = 0
      · exact ⟨_, fun _ => Ev.pos (by omega) (Ev.now _)⟩
      · obtain ⟨t, ht⟩ := markText_l0 7 n ⟨#[]⟩ (by omega) (by omega) (by decide)
        exact ⟨t, fun _ => Ev.neg (by omega) ht⟩
    · exact ⟨ByteArray.empty, fun h => absurd h hn⟩
  exact ⟨fun n => (h n).choose, fun n hn => (h n).choose_spec hn⟩
/-- n texts, all different -/
def marked (mt : Nat → ByteArray) (n : Nat) : List ByteArray := (List.range n).map fun j => mt (j + 1)
theorem marked_length (mt : Nat → ByteArray) (n : Nat) : (marked mt n).length = n := by simp [marked]
theorem markS_l0 (mt : Nat → ByteArray) (hmt : ∀ n : Nat, n ≤ 1048577 → Ev (fun k => laws_markText.f k (n : Int)) (mt n)) (n : Nat) (hn : n ≤ 1048576) : ∀ (d i : Nat) (xs : List ByteArray), i + d = n → xs.length = n → xs.take i = (marked mt n).take i → Ev (fun k => laws_markStringS.l0 k xs ((i + 1 : Nat) : Int) (i : Int)) (((n + 1 : Nat) : Int), marked mt n)
  | 0, i, xs, hd, hx, ht => by
    refine Ev.succ ?_
    simp only [laws_markStringS.l0]
    refine Ev.neg (by omega) (Ev.pure ?_)
    have := marked_length mt n
    rw [List.take_of_length_le (by omega), List.take_of_length_le (by omega)] at ht
    rw [ht, show i = n by omega]
  | d + 1, i, xs, hd, hx, ht => by
    have hlen := marked_length mt n
    have h1 : i < (marked mt n).length := by omega
    have ih := markS_l0 mt hmt n hn d (i + 1) (xs.set i (mt (i + 1))) (by omega) (by simp [hx]) (by
      have h2 : i < (xs.set i (mt (i + 1))).length := by simp; omega
      rw [List.take_succ_eq_append_getElem h2, List.take_succ_eq_append_getElem h1, List.take_set, List.set_eq_of_length_le (by simp; omega), ht]
      simp [marked])
    refine Ev.succ ?_
    simp only [laws_markStringS.l0, w1 (show 0 ≤ (i : Int) by omega) (show (i : Int) < 9223372036854775807 by omega), w1 (show 0 ≤ ((i + 1 : Nat) : Int) by omega) (show ((i + 1 : Nat) : Int) < 9223372036854775807 by omega)]
    exact Ev.pos (by omega) (Ev.bind (hmt (i + 1) (by omega)) (Ev.pos (by omega) ih))
theorem markS_ev {mt : Nat → ByteArray} (hmt : ∀ n : Nat, n ≤ 1048577 → Ev (fun k => laws_markText.f k (n : Int)) (mt n)) (xs : List ByteArray) (hn : xs.length ≤ 1048576) : Ev (fun k => laws_markStringS.f k xs 1) (((xs.length + 1 : Nat) : Int), marked mt xs.length) :=
  markS_l0 mt hmt xs.length hn xs.length 0 xs (by omega) rfl rfl
theorem heldS_l0 (mt : Nat → ByteArray) (hmt : ∀ n : Nat, n ≤ 1048577 → Ev (fun k => laws_markText.f k (n : Int)) (mt n)) (n : Nat) (hn : n ≤ 1048576) : ∀ (d i : Nat), i + d = n → Ev (fun k => laws_heldStringS.l0 k (marked mt n) ((i + 1 : Nat) : Int) (i : Int)) ((n + 1 : Nat) : Int)
  | 0, i, hd => by
    have hlen := marked_length mt n
    refine Ev.succ ?_
    simp only [laws_heldStringS.l0]
    exact Ev.neg (by omega) (Ev.pure (by rw [show i = n by omega]))
  | d + 1, i, hd => by
    have hlen := marked_length mt n
    have h1 : i < (marked mt n).length := by omega
    have ih := heldS_l0 mt hmt n hn d (i + 1) (by omega)
    refine Ev.succ ?_
    simp only [laws_heldStringS.l0, rdOf_nat _ i h1, w1 (show 0 ≤ (i : Int) by omega) (show (i : Int) < 9223372036854775807 by omega), w1 (show 0 ≤ ((i + 1 : Nat) : Int) by omega) (show ((i + 1 : Nat) : Int) < 9223372036854775807 by omega)]
    exact Ev.pos (by omega) (Ev.pos (by omega) (Ev.bind (hmt (i + 1) (by omega)) (Ev.pos (by simp [marked]) ih)))
theorem heldS_ev {mt : Nat → ByteArray} (hmt : ∀ n : Nat, n ≤ 1048577 → Ev (fun k => laws_markText.f k (n : Int)) (mt n)) (n : Nat) (hn : n ≤ 1048576) : Ev (fun k => laws_heldStringS.f k (marked mt n) 1) ((n + 1 : Nat) : Int) :=
  heldS_l0 mt hmt n hn n 0 (by omega)

theorem markI_ev (l : List Int) (hl : l.length ≤ 1048576) : ∃ r : Int × List Int, Ev (fun k => laws_markIntS.f k l 1) r ∧ 0 ≤ r.1 := by
  have h : ∀ (d i : Nat) (xs : List Int), i + d = l.length → xs.length = l.length → ∃ r : Int × List Int, Ev (fun k => laws_markIntS.l0 k xs ((i + 1 : Nat) : Int) (i : Int)) r ∧ 0 ≤ r.1 := by
    intro d
    induction d with
    | zero =>
      intro i xs hd hx
      exact ⟨(((i + 1 : Nat) : Int), xs), Ev.succ (by simp only [laws_markIntS.l0]; exact Ev.neg (by omega) (Ev.now _)), by simp; omega⟩
    | succ d ih =>
      intro i xs hd hx
      obtain ⟨r, hr, h0⟩ := ih (i + 1) (xs.set i ((i + 1 : Nat) : Int)) (by omega) (by simp [hx])
      refine ⟨r, Ev.succ ?_, h0⟩
      simp only [laws_markIntS.l0, Int.toNat_natCast, w1 (show 0 ≤ (i : Int) by omega) (show (i : Int) < 9223372036854775807 by omega), w1 (show 0 ≤ ((i + 1 : Nat) : Int) by omega) (show ((i + 1 : Nat) : Int) < 9223372036854775807 by omega)]
      exact Ev.pos (by omega) (Ev.pos (by omega) hr)
  exact h l.length 0 l (by omega) rfl

theorem spec_in (a b c : Int) : spec_l1In.f a b c = some (decide (b ≤ a ∧ a ≤ c)) := by
  unfold spec_l1In.f
  by_cases h : a ≥ b
  · rw [if_pos h]; simp [h]
  · rw [if_neg h]; simp; omega

theorem spec_all_l0 (a b : Int) (l : List Int) (hl : l.length ≤ 1048576) : ∀ (d i : Nat), i + d = l.length → Ev (fun k => spec_l1All.l0 k a b l (l.length : Int) (i : Int)) ((l.drop i).all fun x => decide (a ≤ x ∧ x ≤ b))
  | 0, i, hd => Ev.step (f := fun _ => some true) (fun k => by simp only [spec_l1All.l0]; rw [if_neg (by omega)]) (Ev.pure (by rw [List.drop_of_length_le (by omega)]; rfl))
  | d + 1, i, hd => by
    have h1 : i < l.length := by omega
    have ih := spec_all_l0 a b l hl d (i + 1) (by omega)
    rw [List.drop_eq_getElem_cons h1, List.all_cons]
    refine Ev.step (f := fun k => if (decide (a ≤ l[i] ∧ l[i] ≤ b)) = true then spec_l1All.l0 k a b l (l.length : Int) ((i + 1 : Nat) : Int) else some false) (fun k => ?_) ?_
    · simp only [spec_l1All.l0, spec_in]; rw [if_pos (by omega), if_pos (by omega), if_pos (by omega), w1 (by omega) (by omega), rd_nat l i h1]; simp
    · refine Ev.cases (fun h => ?_) (fun h => ?_)
      · rw [h, Bool.true_and]; exact ih
      · rw [Bool.eq_false_iff.mpr h, Bool.false_and]; exact Ev.now _
theorem spec_all (l : List Int) (a b : Int) (hl : l.length ≤ 1048576) : Ev (fun k => spec_l1All.f k l a b) (l.all fun x => decide (a ≤ x ∧ x ≤ b)) := by
  have h := spec_all_l0 a b l hl l.length 0 (by omega)
  simpa [spec_l1All.f] using h

theorem impl_in_eq (a b c : Int) : impl_in.f a b c = some (decide (b ≤ a ∧ a ≤ c)) := by
  unfold impl_in.f
  by_cases h : b ≤ a
  · rw [if_pos h]; simp [h]
  · rw [if_neg h]; simp [h]

theorem impl_areDeep__1_l0 (l : List Int) (hl : l.length ≤ 1048576) : ∀ (d i : Nat), i + d = l.length → ∃ r, Ev (fun k => slices_IndexFunc_int_int__at_impl_areDeep__1.l0 k l (l.length : Int) (i : Int)) r ∧ decide (r ≥ 0) = (l.drop i).any fun x => !decide (1 ≤ x ∧ x ≤ 11)
  | 0, i, hd => ⟨-1, Ev.step (f := fun _ => some (-1)) (fun k => by simp only [slices_IndexFunc_int_int__at_impl_areDeep__1.l0]; rw [if_neg (by omega)]) (Ev.now _), by rw [List.drop_of_length_le (by omega)]; rfl⟩
  | d + 1, i, hd => by
    have h1 : i < l.length := by omega
    obtain ⟨r, ih, hr⟩ := impl_areDeep__1_l0 l hl d (i + 1) (by omega)
    have hs : ∀ k, slices_IndexFunc_int_int__at_impl_areDeep__1.l0 (k + 1) l (l.length : Int) (i : Int) = if (!decide (1 ≤ l[i] ∧ l[i] ≤ 11)) = true then some (i : Int) else slices_IndexFunc_int_int__at_impl_areDeep__1.l0 k l (l.length : Int) ((i + 1 : Nat) : Int) := by
      intro k
      simp only [slices_IndexFunc_int_int__at_impl_areDeep__1.l0, impl_areDeep__1.f, impl_in_eq]; rw [if_pos (by omega), if_pos (by omega), if_pos (by omega), w1 (by omega) (by omega), rd_nat l i h1]; simp
    rw [List.drop_eq_getElem_cons h1, List.any_cons]
    by_cases h : (!decide (1 ≤ l[i] ∧ l[i] ≤ 11)) = true
    · exact ⟨i, Ev.step hs (Ev.pos h (Ev.now _)), by rw [h]; simp⟩
    · exact ⟨r, Ev.step hs (Ev.neg h ih), by rw [hr, Bool.eq_false_iff.mpr h, Bool.false_or]⟩
theorem impl_areDeep__1_contains (l : List Int) (hl : l.length ≤ 1048576) : Ev (fun k => slices_ContainsFunc_int_int__at_impl_areDeep__1.f k l) (l.any fun x => !decide (1 ≤ x ∧ x ≤ 11)) := by
  obtain ⟨r, h, hr⟩ := impl_areDeep__1_l0 l hl l.length 0 (by omega)
  unfold slices_ContainsFunc_int_int__at_impl_areDeep__1.f slices_IndexFunc_int_int__at_impl_areDeep__1.f
  refine Ev.bind (by simpa using h) (Ev.pure ?_)
  simpa using hr
theorem impl_areDeep_ev (l : List Int) (hl : l.length ≤ 1048576) : Ev (fun k => impl_areDeep.f k l) (decide (1 ≤ (l.length : Int) ∧ (l.length : Int) ≤ 12) && l.all fun x => decide (1 ≤ x ∧ x ≤ 11)) := by
  unfold impl_areDeep.f
  refine Ev.known (fun n => impl_in_eq _ _ _) (Ev.cases (fun h => ?_) (fun h => ?_))
  · refine Ev.bind (impl_areDeep__1_contains l hl) (Ev.pure ?_)
    rw [h, Bool.true_and, List.any_eq_not_all_not, Bool.not_not]; simp
  · refine Ev.pure ?_
    rw [Bool.eq_false_iff.mpr h, Bool.false_and]

theorem beLengths_ev (l : List Int) (hl : l.length ≤ 1048576) : Ev (fun k => spec_beLengths.f k l) (decide (1 ≤ (l.length : Int) ∧ (l.length : Int) ≤ 12) && l.all fun x => decide (1 ≤ x ∧ x ≤ 11)) := by
  unfold spec_beLengths.f
  refine Ev.known (fun n => spec_in _ _ _) (Ev.cases (fun h => ?_) (fun h => ?_))
  · exact Ev.bind (spec_all l _ _ hl) (Ev.pure (by rw [h, Bool.true_and]))
  · exact Ev.pure (by rw [Bool.eq_false_iff.mpr h, Bool.false_and])

theorem krPower_l0 (b m : Nat) (hb : 1 ≤ b) (hp : b ^ m < 4611686018427387904) (hm : m ≤ 1048576) : ∀ (d i : Nat), i + d = m → Ev (fun k => spec_krPower.l0 k (b : Int) (d : Int) ((b ^ i : Nat) : Int)) ((b ^ m : Nat) : Int)
  | 0, i, hd => by
    refine Ev.succ ?_
    simp only [spec_krPower.l0]
    exact Ev.neg (by omega) (Ev.pure (by rw [show i = m by omega]))
  | d + 1, i, hd => by
    have ih := krPower_l0 b m hb hp hm d (i + 1) (by omega)
    have h1 : b ^ (i + 1) ≤ b ^ m := Nat.pow_le_pow_right hb (by omega)
    have e : Aside0 (wrap64 (((b ^ i : Nat) : Int) * (b : Int)) = ((b ^ (i + 1) : Nat) : Int)) := ⟨by
      rw [← Int.natCast_mul, show b ^ i * b = b ^ (i + 1) from rfl]; exact w64 (by omega) (by omega)⟩
    have e2 : Aside0 (wrap64 (((d + 1 : Nat) : Int) - 1) = (d : Int)) := ⟨by rw [w64 (by omega) (by omega)]; omega⟩
    refine Ev.succ ?_
    simp only [spec_krPower.l0, e.out, e2.out]
    exact Ev.pos (by omega) ih
theorem krPower_ev (b m : Nat) (hb : 1 ≤ b) (hp : b ^ m < 4611686018427387904) (hm : m ≤ 1048576) : Ev (fun k => spec_krPower.f k (b : Int) (m : Int)) ((b ^ m : Nat) : Int) := by
  have h := krPower_l0 b m hb hp hm m 0 (by omega)
  simpa [spec_krPower.f] using h

/-- the letters of a number with base m, l of them, the last one the least -/
def digs (m : Nat) : Nat → Nat → List UInt8
  | 0, _ => []
  | l + 1, n => digs m l (n / m) ++ [UInt8.ofNat (97 + n % m)]
theorem digs_length (m : Nat) : ∀ l n, (digs m l n).length = l
  | 0, _ => rfl
  | l + 1, n => by rw [digs, List.length_append, digs_length m l]; rfl
theorem ba_append (a b : Array UInt8) : (⟨a⟩ : ByteArray) ++ (⟨b⟩ : ByteArray) = ⟨a ++ b⟩ := by
  apply ByteArray.ext
  rw [ByteArray.data_append]
theorem letter_cut (r : Nat) (h : r < 3) : (⟨#[97, 98, 99]⟩ : ByteArray).extract r (r + 1) = ⟨#[UInt8.ofNat (97 + r)]⟩ := by
  match r, h with
  | 0, _ => decide
  | 1, _ => decide
  | 2, _ => decide

theorem krText_l0 (m : Nat) (hm : 2 ≤ m) (hm3 : m ≤ 3) (l : Nat) (hl : l ≤ 60) : ∀ (d i n : Nat) (acc : List UInt8), i + d = l → acc.length = i → n < 4611686018427387904 → Ev (fun k => spec_krText.l0 k (n : Int) (l : Int) (m : Int) (⟨acc.toArray⟩ : ByteArray) (i : Int)) ((⟨(digs m d n ++ acc).toArray⟩ : ByteArray))
  | 0, i, n, acc, hd, ha, hn => by
    refine Ev.succ ?_
    simp only [spec_krText.l0]
    exact Ev.neg (by omega) (Ev.pure (by simp [digs]))
  | d + 1, i, n, acc, hd, ha, hn => by
    have h2 : n / m ≤ n := Nat.div_le_self _ _
    have hr : n % m < m := Nat.mod_lt _ (by omega)
    have ih := krText_l0 m hm hm3 l hl d (i + 1) (n / m) (UInt8.ofNat (97 + n % m) :: acc) (by omega) (by simp; omega) (by omega)
    have e1 : Int.tmod (n : Int) (m : Int) = ((n % m : Nat) : Int) := (Int.ofNat_tmod n m).symm
    have e2 : Aside0 (wrap64 (Int.tdiv (n : Int) (m : Int)) = ((n / m : Nat) : Int)) := ⟨by
      rw [← Int.ofNat_tdiv]; generalize n / m = q at h2 ⊢; exact w64 (by omega) (by omega)⟩
    have e3 : Aside0 (wrap64 (((n % m : Nat) : Int) + 1) = ((n % m + 1 : Nat) : Int)) := ⟨by rw [w64 (by omega) (by omega)]; omega⟩
    have e4 : (⟨#[97, 98, 99]⟩ : ByteArray).extract (n % m) (n % m + 1) = ⟨#[UInt8.ofNat (97 + n % m)]⟩ := letter_cut _ (by omega)
    have e5 : (⟨#[UInt8.ofNat (97 + n % m)]⟩ : ByteArray) ++ (⟨acc.toArray⟩ : ByteArray) = ⟨(UInt8.ofNat (97 + n % m) :: acc).toArray⟩ := by rw [ba_append]; simp
    refine Ev.succ ?_
    simp only [spec_krText.l0, e1, e2.out, e3.out, Int.toNat_natCast, e4, e5, w1 (show 0 ≤ (i : Int) by omega) (show (i : Int) < 9223372036854775807 by omega)]
    refine Ev.pos (by omega) (Ev.neg (by omega) (Ev.pos (by omega) (Ev.pos (by omega) (Ev.pos (by omega) (Ev.pos ?_ ?_)))))
    · simp [ByteArray.size]; omega
    · rw [digs, List.append_assoc]; exact ih
theorem krText_ev (n l m : Nat) (hm : 2 ≤ m) (hm3 : m ≤ 3) (hl : l ≤ 60) (hn : n < 4611686018427387904) : Ev (fun k => spec_krText.f k (n : Int) (l : Int) (m : Int)) (⟨(digs m l n).toArray⟩ : ByteArray) := by
  have h := krText_l0 m hm hm3 l hl l 0 n [] (by omega) rfl hn
  simpa [spec_krText.f] using h

/-- where the next word of each length stands among those of its length, if all can be -/
def place (b n l : Nat) : Nat := if b ≤ l then n * 2 ^ (l - b) else (n + 2 ^ (b - l) - 1) / 2 ^ (b - l)
def go : Nat → Nat → List Int → Option (List Nat)
  | _, _, [] => some []
  | b, n, x :: xs => if place b n x.toNat ≥ 2 ^ x.toNat then none else (go x.toNat (place b n x.toNat + 1) xs).map (place b n x.toNat :: ·)
theorem go_length : ∀ (xs : List Int) (b n : Nat) (ats : List Nat), go b n xs = some ats → ats.length = xs.length
  | [], _, _, ats, h => by simp only [go, Option.some.injEq] at h; rw [← h]; rfl
  | x :: xs, b, n, ats, h => by
    simp only [go] at h
    split at h
    · cases h
    · obtain ⟨z, hz, rfl⟩ := Option.map_eq_some_iff.mp h
      simp [go_length xs _ _ z hz]
theorem pow2_le {l : Nat} (h : l ≤ 11) : 1 ≤ 2 ^ l ∧ 2 ^ l ≤ 2048 :=
  ⟨Nat.one_le_two_pow, by have := Nat.pow_le_pow_right (show 1 ≤ 2 by omega) h; simpa using this⟩
theorem place_le (b n l : Nat) (hb : b ≤ 11) (hl : l ≤ 11) (hn : n ≤ 2 ^ b) : place b n l ≤ 2048 ∧ n ≤ 2048 := by
  have h1 := pow2_le hb
  have h2 := pow2_le hl
  unfold place
  split
  · rename_i h
    have : n * 2 ^ (l - b) ≤ 2 ^ b * 2 ^ (l - b) := Nat.mul_le_mul_right _ hn
    rw [← Nat.pow_add, show b + (l - b) = l by omega] at this
    omega
  · have h3 := pow2_le (show b - l ≤ 11 by omega)
    have h4 : (n + 2 ^ (b - l) - 1) / 2 ^ (b - l) ≤ n := by
      rw [Nat.div_le_iff_le_mul_add_pred (by omega)]
      have : n * 1 ≤ 2 ^ (b - l) * n := by rw [Nat.mul_comm]; exact Nat.mul_le_mul_right _ h3.1
      omega
    omega
/-- the program's way to reckon the place: by words of the greatest length -/
theorem place_impl (b n l : Nat) (hb : b ≤ 11) (hl : l ≤ 11) : (n * 2 ^ (11 - b) + 2 ^ (11 - l) - 1) / 2 ^ (11 - l) = place b n l := by
  have hp : 0 < 2 ^ (11 - l) := Nat.two_pow_pos _
  unfold place
  split
  · rename_i h
    have e : 2 ^ (11 - b) = 2 ^ (l - b) * 2 ^ (11 - l) := by rw [← Nat.pow_add]; congr 1; omega
    rw [e, ← Nat.mul_assoc, Nat.add_sub_assoc (by omega), Nat.mul_comm _ (2 ^ (11 - l)), Nat.mul_add_div hp, Nat.div_eq_of_lt (by omega), Nat.add_zero]
  · rename_i h
    have e : 2 ^ (11 - l) = 2 ^ (11 - b) * 2 ^ (b - l) := by rw [← Nat.pow_add]; congr 1; omega
    have hc : 0 < 2 ^ (11 - b) := Nat.two_pow_pos _
    have hs : 0 < 2 ^ (b - l) := Nat.two_pow_pos _
    rw [e, ← Nat.div_div_eq_div_mul]
    congr 1
    have : n * 2 ^ (11 - b) + 2 ^ (11 - b) * 2 ^ (b - l) - 1 = 2 ^ (11 - b) * (n + 2 ^ (b - l) - 1) + (2 ^ (11 - b) - 1) := by
      generalize 2 ^ (11 - b) = c at *
      generalize 2 ^ (b - l) = s at *
      obtain ⟨s, rfl⟩ : ∃ m, s = m + 1 := ⟨s - 1, by omega⟩
      rw [show n + (s + 1) - 1 = n + s by omega, Nat.mul_add, Nat.mul_add, Nat.mul_one, Nat.mul_comm n c]
      omega
    rw [this, Nat.mul_add_div hc, Nat.div_eq_of_lt (by omega), Nat.add_zero]
theorem place_fits (b n l : Nat) (hl : l ≤ 11) : (place b n l + 1) * 2 ^ (11 - l) > 2 ^ 11 ↔ place b n l ≥ 2 ^ l := by
  have e : 2 ^ 11 = 2 ^ l * 2 ^ (11 - l) := by rw [← Nat.pow_add]; congr 1; omega
  rw [e]
  constructor
  · intro h; have := Nat.lt_of_mul_lt_mul_right h; omega
  · intro h; exact Nat.mul_lt_mul_of_pos_right (by omega) (Nat.two_pow_pos _)

/-- the words of places and lengths -/
def wordsOf : List Nat → List Int → List ByteArray
  | p :: ps, x :: xs => (⟨(digs 2 x.toNat p).toArray⟩ : ByteArray) :: wordsOf ps xs
  | _, _ => []
theorem wordsOf_length : ∀ (ps : List Nat) (xs : List Int), ps.length = xs.length → (wordsOf ps xs).length = xs.length
  | [], [], _ => rfl
  | p :: ps, x :: xs, h => by simp only [wordsOf, List.length_cons]; rw [wordsOf_length ps xs (by simpa using h)]
def textsOf (acc : List ByteArray) (b n : Nat) (xs : List Int) : List ByteArray := match go b n xs with
  | none => []
  | some ps => acc ++ wordsOf ps xs
theorem beTexts_j1 (L : List Int) (i : Nat) (x : Nat) (hx : x ≤ 11) (acc : List ByteArray) (at_ : Nat) (ha : acc.length ≤ 12) (hat : at_ ≤ 2048) (r : List ByteArray)
    (h : at_ < 2 ^ x → Ev (fun k => spec_beTexts.l0 k (acc ++ [(⟨(digs 2 x at_).toArray⟩ : ByteArray)]) ((at_ + 1 : Nat) : Int) (x : Int) L (L.length : Int) (wrap64 ((i : Int) + 1))) r) (h' : ¬ at_ < 2 ^ x → r = []) :
    Ev (fun k => spec_beTexts.j1 k acc (at_ : Int) (x : Int) L (L.length : Int) (i : Int)) r := by
  have hp := pow2_le hx
  have e : Aside0 (wrap64 ((at_ : Int) + 1) = ((at_ + 1 : Nat) : Int)) := ⟨by rw [w64 (by omega) (by omega)]; omega⟩
  refine Ev.succ ?_
  simp only [spec_beTexts.j1, e.out]
  refine Ev.bind (krPower_ev 2 x (by omega) (by omega) (by omega)) ?_
  by_cases hlt : at_ < 2 ^ x
  · exact Ev.neg (by omega) (Ev.bind (krText_ev at_ x 2 (by omega) (by omega) (by omega) (by omega)) (Ev.pos (by omega) (h hlt)))
  · exact Ev.pos (by omega) (Ev.pure (h' hlt).symm)
theorem beTexts_l0 (L : List Int) (hL : L.length ≤ 12) (hb : ∀ x ∈ L, 1 ≤ x ∧ x ≤ 11) : ∀ (d i : Nat) (acc : List ByteArray) (b n : Nat), i + d = L.length → acc.length ≤ i → b ≤ 11 → n ≤ 2 ^ b →
    Ev (fun k => spec_beTexts.l0 k acc (n : Int) (b : Int) L (L.length : Int) (i : Int)) (textsOf acc b n (L.drop i))
  | 0, i, acc, b, n, hd, ha, hbb, hn => by
    refine Ev.succ ?_
    simp only [spec_beTexts.l0]
    exact Ev.neg (by omega) (Ev.pure (by rw [List.drop_of_length_le (by omega)]; simp [textsOf, go, wordsOf]))
  | d + 1, i, acc, b, n, hd, ha, hbb, hn => by
    have h1 : i < L.length := by omega
    have hm := hb L[i] (List.getElem_mem h1)
    obtain ⟨x, hx⟩ : ∃ x : Nat, L[i] = (x : Int) := ⟨L[i].toNat, by omega⟩
    have hx11 : x ≤ 11 := by omega
    have hpl := place_le b n x hbb hx11 hn
    have hj := beTexts_j1 L i x hx11 acc (place b n x) (by omega) hpl.1 (textsOf acc b n (L.drop i)) (fun hlt => by
      have ih := beTexts_l0 L hL hb d (i + 1) (acc ++ [(⟨(digs 2 x (place b n x)).toArray⟩ : ByteArray)]) x (place b n x + 1) (by omega) (by simp; omega) hx11 (by omega)
      rw [w1 (by omega) (by omega)]
      have e : textsOf acc b n (L.drop i) = textsOf (acc ++ [(⟨(digs 2 x (place b n x)).toArray⟩ : ByteArray)]) x (place b n x + 1) (L.drop (i + 1)) := by
        rw [List.drop_eq_getElem_cons h1, hx]
        simp only [textsOf, go, Int.toNat_natCast]
        rw [if_neg (by omega)]
        cases go x (place b n x + 1) (List.drop (i + 1) L) <;> simp [wordsOf]
      rw [e]; exact ih) (fun hge => by
        rw [List.drop_eq_getElem_cons h1, hx]
        simp only [textsOf, go, Int.toNat_natCast]
        rw [if_pos (by omega)])
    refine Ev.succ ?_
    simp only [spec_beTexts.l0, rd_nat L i h1, hx]
    refine Ev.pos (by omega) (Ev.pos (by omega) (Ev.pos (by omega) (Ev.cases (fun hge => ?_) (fun hlt => ?_))))
    · have e1 : wrap64 ((x : Int) - (b : Int)) = ((x - b : Nat) : Int) := by rw [w64 (by omega) (by omega)]; omega
      have hp := pow2_le (show x - b ≤ 11 by omega)
      rw [e1]
      refine Ev.bind (krPower_ev 2 (x - b) (by omega) (by omega) (by omega)) ?_
      have e2 : Aside0 (wrap64 ((n : Int) * ((2 ^ (x - b) : Nat) : Int)) = (place b n x : Int)) := ⟨by
        have : place b n x = n * 2 ^ (x - b) := by unfold place; rw [if_pos (by omega)]
        rw [← Int.natCast_mul, ← this]; exact w64 (by omega) (by omega)⟩
      rw [e2.out]; exact hj
    · have e1 : wrap64 ((b : Int) - (x : Int)) = ((b - x : Nat) : Int) := by rw [w64 (by omega) (by omega)]; omega
      have hp := pow2_le (show b - x ≤ 11 by omega)
      rw [e1]
      refine Ev.bind (krPower_ev 2 (b - x) (by omega) (by omega) (by omega)) ?_
      have e2 : Aside0 (wrap64 (Int.tdiv (wrap64 ((wrap64 ((n : Int) + ((2 ^ (b - x) : Nat) : Int))) - 1)) ((2 ^ (b - x) : Nat) : Int)) = (place b n x : Int)) := ⟨by
        have : place b n x = (n + 2 ^ (b - x) - 1) / 2 ^ (b - x) := by unfold place; rw [if_neg (by omega)]
        generalize 2 ^ (b - x) = s at *
        rw [w64 (i := (n : Int) + (s : Int)) (by omega) (by omega), w64 (i := (n : Int) + (s : Int) - 1) (by omega) (by omega), show (n : Int) + (s : Int) - 1 = ((n + s - 1 : Nat) : Int) by omega, ← Int.ofNat_tdiv, ← this]
        exact w64 (by omega) (by omega)⟩
      rw [e2.out]; exact Ev.neg (by omega) hj
theorem beTexts_ev (L : List Int) (hL : L.length ≤ 12) (hb : ∀ x ∈ L, 1 ≤ x ∧ x ≤ 11) : Ev (fun k => spec_beTexts.f k L) (textsOf [] 0 0 L) := by
  have h := beTexts_l0 L hL hb L.length 0 [] 0 0 (by omega) (by simp) (by omega) (by omega)
  simpa [spec_beTexts.f] using h

theorem power_l0 (b m : Nat) (hb : 1 ≤ b) (hp : b ^ m < 4611686018427387904) (hm : m ≤ 1048576) : ∀ (d i : Nat), i + d = m → Ev (fun k => impl_power.l0 k (b : Int) ((b ^ i : Nat) : Int) (m : Int) (i : Int)) ((b ^ m : Nat) : Int)
  | 0, i, hd => by
    refine Ev.succ ?_
    simp only [impl_power.l0]
    exact Ev.neg (by omega) (Ev.pure (by rw [show i = m by omega]))
  | d + 1, i, hd => by
    have ih := power_l0 b m hb hp hm d (i + 1) (by omega)
    have h1 : b ^ (i + 1) ≤ b ^ m := Nat.pow_le_pow_right hb (by omega)
    have e : Aside0 (wrap64 (((b ^ i : Nat) : Int) * (b : Int)) = ((b ^ (i + 1) : Nat) : Int)) := ⟨by
      rw [← Int.natCast_mul, show b ^ i * b = b ^ (i + 1) from rfl]; exact w64 (by omega) (by omega)⟩
    refine Ev.succ ?_
    simp only [impl_power.l0, e.out, w1 (show 0 ≤ (i : Int) by omega) (show (i : Int) < 9223372036854775807 by omega)]
    exact Ev.pos (by omega) ih
theorem power_ev (b m : Nat) (hb : 1 ≤ b) (hp : b ^ m < 4611686018427387904) (hm : m ≤ 1048576) : Ev (fun k => impl_power.f k (b : Int) (m : Int)) ((b ^ m : Nat) : Int) := by
  have h := power_l0 b m hb hp hm m 0 (by omega)
  simpa [impl_power.f] using h

def placesOf (acc : List Int) (b n : Nat) (xs : List Int) : List Int × Bool := match go b n xs with
  | none => ([], false)
  | some ps => (acc ++ ps.map (fun p : Nat => (p : Int)), true)
theorem orderedWords_l0 (L : List Int) (hL : L.length ≤ 12) (hb : ∀ x ∈ L, 1 ≤ x ∧ x ≤ 11) : ∀ (d i : Nat) (acc : List Int) (b n : Nat), i + d = L.length → acc.length ≤ i → b ≤ 11 → n ≤ 2 ^ b →
    Ev (fun k => impl_orderedWords.l0 k acc ((n * 2 ^ (11 - b) : Nat) : Int) L (L.length : Int) (i : Int)) (placesOf acc b n (L.drop i))
  | 0, i, acc, b, n, hd, ha, hbb, hn => by
    refine Ev.succ ?_
    simp only [impl_orderedWords.l0]
    exact Ev.neg (by omega) (Ev.pure (by rw [List.drop_of_length_le (by omega)]; simp [placesOf, go]))
  | d + 1, i, acc, b, n, hd, ha, hbb, hn => by
    have h1 : i < L.length := by omega
    have hm := hb L[i] (List.getElem_mem h1)
    obtain ⟨x, hx⟩ : ∃ x : Nat, L[i] = (x : Int) := ⟨L[i].toNat, by omega⟩
    have hx11 : x ≤ 11 := by omega
    have hpl := place_le b n x hbb hx11 hn
    have hpi := place_impl b n x hbb hx11
    have hpf := place_fits b n x hx11
    have hp := pow2_le (show 11 - x ≤ 11 by omega)
    have hq := pow2_le (show 11 - b ≤ 11 by omega)
    have hnq : n * 2 ^ (11 - b) ≤ 2048 := by
      have := Nat.mul_le_mul_right (2 ^ (11 - b)) hn
      rw [← Nat.pow_add, show b + (11 - b) = 11 by omega] at this
      exact this
    have e1 : Aside0 (wrap64 (11 - (x : Int)) = ((11 - x : Nat) : Int)) := ⟨by rw [w64 (by omega) (by omega)]; omega⟩
    have e2 : Aside0 (wrap64 (Int.tdiv (wrap64 ((wrap64 (((n * 2 ^ (11 - b) : Nat) : Int) + ((2 ^ (11 - x) : Nat) : Int))) - 1)) ((2 ^ (11 - x) : Nat) : Int)) = (place b n x : Int)) := ⟨by
      rw [w64 (i := ((n * 2 ^ (11 - b) : Nat) : Int) + ((2 ^ (11 - x) : Nat) : Int)) (by omega) (by omega), w64 (i := ((n * 2 ^ (11 - b) : Nat) : Int) + ((2 ^ (11 - x) : Nat) : Int) - 1) (by omega) (by omega),
        show ((n * 2 ^ (11 - b) : Nat) : Int) + ((2 ^ (11 - x) : Nat) : Int) - 1 = ((n * 2 ^ (11 - b) + 2 ^ (11 - x) - 1 : Nat) : Int) by omega, ← Int.ofNat_tdiv, hpi]
      exact w64 (by omega) (by omega)⟩
    have e3 : Aside0 (wrap64 ((wrap64 ((place b n x : Int) + 1)) * ((2 ^ (11 - x) : Nat) : Int)) = (((place b n x + 1) * 2 ^ (11 - x) : Nat) : Int)) := ⟨by
      have hle : (place b n x + 1) * 2 ^ (11 - x) ≤ 2049 * 2048 := Nat.mul_le_mul (by omega) hp.2
      rw [w64 (i := (place b n x : Int) + 1) (by omega) (by omega), show (place b n x : Int) + 1 = ((place b n x + 1 : Nat) : Int) by omega, ← Int.natCast_mul]
      exact w64 (by omega) (by omega)⟩
    refine Ev.succ ?_
    simp only [impl_orderedWords.l0, rd_nat L i h1, hx, e1.out]
    refine Ev.pos (by omega) (Ev.pos (by omega) (Ev.pos (by omega) (Ev.bind (power_ev 2 (11 - x) (by omega) (by omega) (by omega)) (Ev.neg (by omega) (Ev.bind (power_ev 2 11 (by omega) (by omega) (by omega)) ?_)))))
    simp only [e2.out, e3.out, w1 (show 0 ≤ (i : Int) by omega) (show (i : Int) < 9223372036854775807 by omega)]
    rw [List.drop_eq_getElem_cons h1, hx]
    simp only [placesOf, go, Int.toNat_natCast]
    by_cases hge : place b n x ≥ 2 ^ x
    · rw [if_pos hge]
      exact Ev.pos (by have := hpf.mpr hge; omega) (Ev.now _)
    · rw [if_neg hge]
      refine Ev.neg (by intro h; exact hge (hpf.mp (by omega))) (Ev.pos (by omega) ?_)
      have ih := orderedWords_l0 L hL hb d (i + 1) (acc ++ [(place b n x : Int)]) x (place b n x + 1) (by omega) (by simp; omega) hx11 (by omega)
      have e : (match Option.map (fun z => place b n x :: z) (go x (place b n x + 1) (List.drop (i + 1) L)) with | none => ([], false) | some ps => (acc ++ ps.map (fun p : Nat => (p : Int)), true)) = placesOf (acc ++ [(place b n x : Int)]) x (place b n x + 1) (List.drop (i + 1) L) := by
        unfold placesOf
        cases go x (place b n x + 1) (List.drop (i + 1) L) <;> simp
      rw [e]; exact ih
theorem orderedWords_ev (L : List Int) (hL : L.length ≤ 12) (hb : ∀ x ∈ L, 1 ≤ x ∧ x ≤ 11) : Ev (fun k => impl_orderedWords.f k L) (placesOf [] 0 0 L) := by
  have h := orderedWords_l0 L hL hb L.length 0 [] 0 0 (by omega) (by simp) (by omega) (by omega)
  simpa [impl_orderedWords.f] using h

/-- letters as whole numbers -/
def numsOf (l : List UInt8) : List Int := l.map fun c => (c.toNat : Int)
theorem strOfNums_nums (l : List UInt8) : strOfNums (numsOf l) = ⟨l.toArray⟩ := by
  apply ByteArray.ext
  simp [strOfNums, numsOf, Function.comp_def]
theorem abc_at (r : Nat) (h : r < 3) : bt (⟨#[97, 98, 99]⟩ : ByteArray) (r : Int) = ((UInt8.ofNat (97 + r)).toNat : Int) := by
  match r, h with
  | 0, _ => decide
  | 1, _ => decide
  | 2, _ => decide
theorem wordAt_l0 (m : Nat) (hm : 2 ≤ m) (hm3 : m ≤ 3) : ∀ (d n : Nat) (acc : List UInt8), d ≤ 1048576 → n < 4611686018427387904 → Ev (fun k => impl_wordAt.l0 k (n : Int) (m : Int) (List.replicate d 0 ++ numsOf acc) ((d : Int) - 1)) (⟨(digs m d n ++ acc).toArray⟩ : ByteArray)
  | 0, n, acc, hd, hn => by
    refine Ev.succ ?_
    simp only [impl_wordAt.l0]
    exact Ev.neg (by omega) (Ev.pure (by simp [strOfNums_nums, digs]))
  | d + 1, n, acc, hd, hn => by
    have h2 : n / m ≤ n := Nat.div_le_self _ _
    have hr : n % m < m := Nat.mod_lt _ (by omega)
    have ih := wordAt_l0 m hm hm3 d (n / m) (UInt8.ofNat (97 + n % m) :: acc) (by omega) (by omega)
    have e1 : Int.tmod (n : Int) (m : Int) = ((n % m : Nat) : Int) := (Int.ofNat_tmod n m).symm
    have e2 : Aside0 (wrap64 (Int.tdiv (n : Int) (m : Int)) = ((n / m : Nat) : Int)) := ⟨by
      rw [← Int.ofNat_tdiv]; generalize n / m = q at h2 ⊢; exact w64 (by omega) (by omega)⟩
    have e3 : Aside0 (wrap64 (((d + 1 : Nat) : Int) - 1 - 1) = (d : Int) - 1) := ⟨by rw [w64 (by omega) (by omega)]; omega⟩
    have e4 : (((d + 1 : Nat) : Int) - 1).toNat = d := by omega
    have e5 : (List.replicate (d + 1) (0 : Int) ++ numsOf acc).set d (((UInt8.ofNat (97 + n % m)).toNat : Int)) = List.replicate d 0 ++ numsOf (UInt8.ofNat (97 + n % m) :: acc) := by
      rw [List.set_append_left _ _ (by simp), List.replicate_succ', List.set_append_right _ _ (by simp)]
      simp [numsOf]
    refine Ev.succ ?_
    simp only [impl_wordAt.l0, e1, e2.out, e3.out, e4, abc_at _ (show n % m < 3 by omega), e5]
    refine Ev.pos (by omega) (Ev.neg (by omega) (Ev.pos (by omega) (Ev.pos (by omega) (Ev.pos (by omega) (Ev.pos (by simp; omega) ?_)))))
    rw [digs, List.append_assoc]; exact ih
theorem wordAt_ev (m : Nat) (hm : 2 ≤ m) (hm3 : m ≤ 3) (d n : Nat) (hd : d ≤ 1048576) (hn : n < 4611686018427387904) : Ev (fun k => impl_wordAt.f k (n : Int) (d : Int) (m : Int)) (⟨(digs m d n).toArray⟩ : ByteArray) := by
  have h := wordAt_l0 m hm hm3 d n [] hd hn
  have e : Aside0 (wrap64 ((d : Int) - 1) = (d : Int) - 1) := ⟨w64 (by omega) (by omega)⟩
  unfold impl_wordAt.f
  rw [e.out]
  refine Ev.pos (by omega) (Ev.pos (by omega) ?_)
  simpa [numsOf] using h

theorem go_small : ∀ (xs : List Int) (b n : Nat) (ps : List Nat), b ≤ 11 → n ≤ 2 ^ b → (∀ x ∈ xs, 1 ≤ x ∧ x ≤ 11) → go b n xs = some ps → ∀ p ∈ ps, p ≤ 2048
  | [], b, n, ps, hb, hn, hx, h, p, hp => by simp only [go, Option.some.injEq] at h; subst h; cases hp
  | x :: xs, b, n, ps, hb, hn, hx, h, p, hp => by
    have hxx := hx x (by simp)
    have hpl := place_le b n x.toNat hb (by omega) hn
    simp only [go] at h
    split at h
    · cases h
    · rename_i hge
      obtain ⟨z, hz, rfl⟩ := Option.map_eq_some_iff.mp h
      rcases List.mem_cons.1 hp with rfl | hp
      · exact hpl.1
      · exact go_small xs x.toNat _ z (by omega) (by omega) (fun y hy => hx y (by simp [hy])) hz p hp
theorem OW_l0 (L : List Int) (ps : List Nat) (hb : ∀ x ∈ L, 1 ≤ x ∧ x ≤ 11) (hp : ∀ p ∈ ps, p ≤ 2048) (hl : ps.length = L.length) (hL : L.length ≤ 12) : ∀ (d i : Nat) (acc : List ByteArray), i + d = L.length → acc.length ≤ i → Ev (fun k => impl_OrderedWords.l0 k L acc (ps.map fun p : Nat => (p : Int)) (L.length : Int) (i : Int)) (acc ++ wordsOf (ps.drop i) (L.drop i), true)
  | 0, i, acc, hd, ha => by
    refine Ev.succ ?_
    simp only [impl_OrderedWords.l0]
    exact Ev.neg (by omega) (Ev.pure (by rw [List.drop_of_length_le (by omega), List.drop_of_length_le (by omega)]; simp [wordsOf]))
  | d + 1, i, acc, hd, ha => by
    have h1 : i < L.length := by omega
    have h2 : i < ps.length := by omega
    have h3 : i < (ps.map fun p : Nat => (p : Int)).length := by simp; omega
    have hm := hb L[i] (List.getElem_mem h1)
    have hpp := hp ps[i] (List.getElem_mem h2)
    obtain ⟨x, hx⟩ : ∃ x : Nat, L[i] = (x : Int) := ⟨L[i].toNat, by omega⟩
    have ih := OW_l0 L ps hb hp hl hL d (i + 1) (acc ++ [(⟨(digs 2 x ps[i]).toArray⟩ : ByteArray)]) (by omega) (by simp; omega)
    rw [List.drop_eq_getElem_cons h1, List.drop_eq_getElem_cons h2, hx]
    refine Ev.succ ?_
    simp only [impl_OrderedWords.l0, rd_nat L i h1, rd_nat _ i h3, List.getElem_map, hx, w1 (show 0 ≤ (i : Int) by omega) (show (i : Int) < 9223372036854775807 by omega)]
    refine Ev.pos (by omega) (Ev.pos (by omega) (Ev.pos (by simp; omega) (Ev.pos (by omega) (Ev.bind (wordAt_ev 2 (by omega) (by omega) x ps[i] (by omega) (by omega)) (Ev.pos (by omega) ?_)))))
    simpa [wordsOf] using ih
theorem ow_same (l : List Int) (hl : l.length ≤ 1048576) : ∃ r, Ev (fun k => spec_OrderedWords.f k l) r ∧ Ev (fun k => impl_OrderedWords.f k l) r ∧ r.1.length ≤ 12 := by
  unfold spec_OrderedWords.f impl_OrderedWords.f spec_beCan.f
  have a1 := beLengths_ev l hl
  have a2 := impl_areDeep_ev l hl
  generalize hA : (decide (1 ≤ (l.length : Int) ∧ (l.length : Int) ≤ 12) && l.all fun x => decide (1 ≤ x ∧ x ≤ 11)) = A at a1 a2
  cases A with
  | false => exact ⟨([], false), Ev.bind a1 (Ev.neg (by simp) (Ev.now _)), Ev.bind a2 (Ev.neg (by simp) (Ev.now _)), by simp⟩
  | true =>
    simp only [Bool.and_eq_true, decide_eq_true_eq, List.all_eq_true] at hA
    have h12 : l.length ≤ 12 := by omega
    have t := beTexts_ev l h12 hA.2
    have o := orderedWords_ev l h12 hA.2
    cases hg : go 0 0 l with
    | none =>
      have t' : textsOf [] 0 0 l = [] := by unfold textsOf; rw [hg]
      have o' : placesOf [] 0 0 l = ([], false) := by unfold placesOf; rw [hg]
      rw [t'] at t; rw [o'] at o
      refine ⟨([], false), Ev.bind a1 (Ev.pos rfl (Ev.bind (Ev.bind t (Ev.now _)) (Ev.neg ?_ (Ev.now _)))), Ev.bind a2 (Ev.pos rfl (Ev.bind o (Ev.neg (by simp) (Ev.now _)))), by simp⟩
      simp; omega
    | some ps =>
      have hpl := go_length l 0 0 ps hg
      have hwl := wordsOf_length ps l hpl
      have t' : textsOf [] 0 0 l = wordsOf ps l := by unfold textsOf; rw [hg]; simp
      have o' : placesOf [] 0 0 l = (ps.map (fun p : Nat => (p : Int)), true) := by unfold placesOf; rw [hg]; simp
      rw [t'] at t; rw [o'] at o
      have w := OW_l0 l ps hA.2 (go_small l 0 0 ps (by omega) (by omega) hA.2 hg) hpl h12 l.length 0 [] (by omega) (by simp)
      refine ⟨(wordsOf ps l, true), Ev.bind a1 (Ev.pos rfl (Ev.bind (Ev.bind t (Ev.now _)) (Ev.pos (by simp [hwl]) (Ev.bind t (Ev.now _))))), Ev.bind a2 (Ev.pos rfl (Ev.bind o (Ev.pos rfl ?_))), by simp [hwl, h12]⟩
      simpa [hpl] using w
theorem FnExactOrderedWords : laws_FnExactOrderedWords.Pure := by
  intro l hl _ _
  refine Ev.rounds ?_
  unfold laws_FnExactOrderedWords.f
  refine Ev.cases (fun _ => Ev.now _) (fun hl => ?_)
  have hl' : l.length ≤ 1048576 := by omega
  obtain ⟨mt, hmt⟩ := marks
  obtain ⟨r, h1, h2, h3⟩ := ow_same l hl'
  obtain ⟨q, hq, hq0⟩ := markI_ev l hl'
  refine Ev.bind (toIntS_ev l hl') (Ev.bind h1 (Ev.bind (toIntS_ev l hl') (Ev.bind h2 (Ev.bind (eqS_ev r.1 (by omega)) (Ev.pos rfl ?_)))))
  refine Ev.succ ?_
  simp only [laws_FnExactOrderedWords.j0]
  refine Ev.neg (by simp) (Ev.bind (toIntS_ev l hl') (Ev.bind (eqIntS_ev l hl') (Ev.pos rfl (Ev.bind hq (Ev.neg (by omega) (Ev.bind (eqS_ev r.1 (by omega)) (Ev.pos rfl ?_)))))))
  refine Ev.succ ?_
  simp only [laws_FnExactOrderedWords.j1]
  refine Ev.neg (by simp) (Ev.bind (markS_ev hmt r.1 (by omega)) (Ev.bind (heldS_ev hmt r.1.length (by omega)) (Ev.neg (by omega) (Ev.pos rfl (Ev.bind (toIntS_ev l hl') (Ev.bind h2 (Ev.bind (eqS_ev r.1 (by omega)) (Ev.pos rfl ?_))))))))
  refine Ev.succ ?_
  simp only [laws_FnExactOrderedWords.j2]
  exact Ev.neg (by simp) (Ev.bind (heldS_ev hmt r.1.length (by omega)) (Ev.neg (by omega) (Ev.pos rfl (Ev.now _))))
end Go.Proofs.Ytejngeeafagbpaa.Pure
