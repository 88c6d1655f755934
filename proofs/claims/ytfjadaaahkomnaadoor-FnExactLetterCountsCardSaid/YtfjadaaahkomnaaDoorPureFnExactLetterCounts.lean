/- LetterCounts of the program and of the reference answer alike for all arguments, and leave them as they were: no condition. -/
import Derived.Test.YtfjadaaahkomnaaDoorXFnExactLetterCountsxp
namespace Go.Proofs.YtfjadaaahkomnaaDoor.Pure
set_option linter.unusedSimpArgs false
set_option linter.unusedVariables false
open Go.RowKit Go.Proofs.YtfjadaaahkomnaaDoor.Hand Go.Proofs.YtfjadaaahkomnaaDoor.XFnExactLetterCounts Go.Proofs.YtfjadaaahkomnaaDoorW.PrintWords Go.Proofs.YtfjadaaahkomnaaDoorW.PrintLast Go.Proofs.YtfjadaaahkomnaaDoorW.PrintMore

theorem w1 {i : Int} (h0 : 0 ≤ i) (h : i < 9223372036854775807) : wrap64 (i + 1) = i + 1 := by unfold wrap64; omega
theorem w64 {i : Int} (h0 : -9223372036854775808 ≤ i) (h : i < 9223372036854775808) : wrap64 i = i := by unfold wrap64; omega
theorem rd_nat (l : List Int) (i : Nat) (h : i < l.length) : rd l (i : Int) = l[i] := by
  unfold rd; simp [List.getD_eq_getElem?_getD, h]
theorem Ev.pos {α : Type} {c : Prop} [Decidable c] {g g' : Nat → Option α} {r : α} (h : c) (k : Ev g r) : Ev (fun n => if c then g n else g' n) r :=
  Ev.congr (fun n => if_pos h) k
theorem Ev.neg {α : Type} {c : Prop} [Decidable c] {g g' : Nat → Option α} {r : α} (h : ¬ c) (k : Ev g' r) : Ev (fun n => if c then g n else g' n) r :=
  Ev.congr (fun n => if_neg h) k
theorem Ev.cases {α : Type} {c : Prop} [Decidable c] {g g' : Nat → Option α} {r : α} (h : c → Ev g r) (k : ¬ c → Ev g' r) : Ev (fun n => if c then g n else g' n) r := by
  by_cases e : c
  · exact Ev.pos e (h e)
  · exact Ev.neg e (k e)
/-- a call whose answer is known at every number of rounds -/
theorem Ev.known {α β : Type} {g : Nat → Option α} {f : Nat → α → Option β} {a : α} {r : β} (h : ∀ n, g n = some a) (k : Ev (fun n => f n a) r) : Ev (fun n => (g n).bind (f n)) r :=
  Ev.bind ⟨0, fun n _ => h n⟩ k
/-- one bind of two, joined with what follows -/
theorem Ev.pure {α : Type} {r q : α} (h : r = q) : Ev (fun _ => some r) q := h ▸ Ev.now r
theorem Ev.succ {α : Type} {g : Nat → Option α} {r : α} (h : Ev (fun k => g (k + 1)) r) : Ev g r := Ev.step (f := fun k => g (k + 1)) (fun _ => rfl) h

theorem rdOf_nat (l : List ByteArray) (i : Nat) (h : i < l.length) : rdOf ByteArray.empty l (i : Int) = l[i] := by
  unfold rdOf; simp [List.getD_eq_getElem?_getD, h]

theorem maxLen_le : maxLen ≤ 9223372036854775807 := by unfold maxLen; omega
theorem szS_l0 (l : List ByteArray) (hl : l.length ≤ 9223372036854775807) (hs : ∀ s ∈ l, s.size ≤ 9223372036854775807) : ∀ (d i : Nat) (b : Int), i + d = l.length → 0 ≤ b → b ≤ 1048576 → ∃ r, Ev (fun k => laws_szStringS.l0 k l b (i : Int)) r ∧ (0 ≤ r → r ≤ 1048576 ∧ ∀ s ∈ l.drop i, s.size ≤ 1048576)
  | 0, i, b, hd, h0, hb => by
    refine ⟨b, Ev.succ ?_, fun _ => ⟨hb, fun s h => ?_⟩⟩
    · simp only [laws_szStringS.l0]; exact Ev.neg (by omega) (Ev.now _)
    · rw [List.drop_of_length_le (by omega)] at h; cases h
  | d + 1, i, b, hd, h0, hb => by
    have h1 : i < l.length := by omega
    have h2 := hs _ (List.getElem_mem h1)
    have e : Aside0 (wrap64 (b - (l[i].size : Int)) = b - (l[i].size : Int)) := ⟨w64 (by omega) (by omega)⟩
    by_cases hc : b - (l[i].size : Int) < 0
    · refine ⟨-1, Ev.succ ?_, fun h => by omega⟩
      simp only [laws_szStringS.l0, rdOf_nat l i h1, e.out]
      exact Ev.pos (by omega) (Ev.pos (by omega) (Ev.pos hc (Ev.now _)))
    · obtain ⟨r, hr, hh⟩ := szS_l0 l hl hs d (i + 1) (b - (l[i].size : Int)) (by omega) (by omega) (by omega)
      refine ⟨r, Ev.succ ?_, fun h => ⟨(hh h).1, fun s hm => ?_⟩⟩
      · simp only [laws_szStringS.l0, rdOf_nat l i h1, e.out, w1 (show 0 ≤ (i : Int) by omega) (show (i : Int) < 9223372036854775807 by omega)]
        exact Ev.pos (by omega) (Ev.pos (by omega) (Ev.neg hc hr))
      · rw [List.drop_eq_getElem_cons h1] at hm
        rcases List.mem_cons.1 hm with rfl | hm
        · omega
        · exact (hh h).2 s hm
theorem szS_ev (l : List ByteArray) (hl : l.length ≤ maxLen) (hs : ∀ s ∈ l, s.size ≤ maxLen) : ∃ r, Ev (fun k => laws_szStringS.f k l 1048576) r ∧ (0 ≤ r → l.length ≤ 1048576 ∧ r ≤ 1048576 ∧ ∀ s ∈ l, s.size ≤ 1048576) := by
  have hm := maxLen_le
  have e : Aside0 (wrap64 (1048576 - (l.length : Int)) = 1048576 - (l.length : Int)) := ⟨w64 (by omega) (by omega)⟩
  unfold laws_szStringS.f
  rw [e.out]
  by_cases hc : 1048576 - (l.length : Int) < 0
  · exact ⟨-1, Ev.pos hc (Ev.now _), fun h => by omega⟩
  · obtain ⟨r, hr, hh⟩ := szS_l0 l (by omega) (fun s h => Nat.le_trans (hs s h) hm) l.length 0 (1048576 - (l.length : Int)) (by omega) (by omega) (by omega)
    exact ⟨r, Ev.neg hc hr, fun h => ⟨by omega, (hh h).1, by simpa using (hh h).2⟩⟩
theorem toS_l0 (l : List ByteArray) (hl : l.length ≤ 1048576) : ∀ (d i : Nat) (xs : List ByteArray), i + d = l.length → xs.length = l.length → xs.take i = l.take i → Ev (fun k => laws_toStringS.l0 k l xs (i : Int)) l
  | 0, i, xs, hd, hx, ht => by
    refine Ev.step (f := fun _ => some xs) (fun k => ?_) (Ev.pure ?_)
    · simp only [laws_toStringS.l0]; rw [if_neg (by omega)]
    · rw [List.take_of_length_le (by omega), List.take_of_length_le (by omega)] at ht; exact ht
  | d + 1, i, xs, hd, hx, ht => by
    refine Ev.step (f := fun k => laws_toStringS.l0 k l (xs.set i (rdOf ByteArray.empty l i)) ((i + 1 : Nat) : Int)) (fun k => ?_) (toS_l0 l hl d (i + 1) _ (by omega) (by simp [hx]) ?_)
    · simp only [laws_toStringS.l0]; rw [if_pos (by omega), if_pos (by omega), if_pos (by omega), w1 (by omega) (by omega)]; simp
    · have h1 : i < l.length := by omega
      have h2 : i < (xs.set i (rdOf ByteArray.empty l i)).length := by simp; omega
      have e := rdOf_nat l i h1
      rw [List.take_succ_eq_append_getElem h2, List.take_succ_eq_append_getElem h1, List.take_set, List.set_eq_of_length_le (by simp; omega), ht]
      simp [e]
theorem toS_ev (l : List ByteArray) (hl : l.length ≤ 1048576) : Ev (fun k => laws_toStringS.f k l) l := by
  unfold laws_toStringS.f
  refine Ev.pos (by omega) (Ev.pos (by omega) ?_)
  have h := toS_l0 l hl l.length 0 (List.replicate l.length ⟨#[]⟩) (by omega) (by simp) (by simp)
  simpa using h
theorem eqS_l0 (l : List ByteArray) (hl : l.length ≤ 1048576) : ∀ (d i : Nat), i + d = l.length → Ev (fun k => laws_eqStringS.l0 k l l (i : Int)) true
  | 0, i, hd => Ev.step (f := fun _ => some true) (fun k => by simp only [laws_eqStringS.l0]; rw [if_neg (by omega)]) (Ev.now _)
  | d + 1, i, hd => by
    refine Ev.step (f := fun k => laws_eqStringS.l0 k l l ((i + 1 : Nat) : Int)) (fun k => ?_) (eqS_l0 l hl d (i + 1) (by omega))
    simp only [laws_eqStringS.l0]; rw [if_pos (by omega), if_pos (by omega), if_pos (by omega), if_pos trivial, w1 (by omega) (by omega)]; simp
theorem eqS_ev (l : List ByteArray) (hl : l.length ≤ 1048576) : Ev (fun k => laws_eqStringS.f k l l) true := by
  unfold laws_eqStringS.f
  exact Ev.pos rfl (by simpa using eqS_l0 l hl l.length 0 (by omega))


theorem strOfNums_one (x : Int) : (strOfNums [x]).size = 1 := by simp [strOfNums, ByteArray.size]
theorem markText_l0 : ∀ (d n : Nat) (s : ByteArray), n < 10 ^ d → n < 4611686018427387904 → s.size + d ≤ 1000 → ∃ t, Ev (fun k => laws_markText.l0 k (n : Int) s) t
  | 0, n, s, hn, _, hs => by
    refine ⟨(⟨#[109]⟩ : ByteArray) ++ s, Ev.succ ?_⟩
    simp only [laws_markText.l0]
    exact Ev.neg (by omega) (Ev.pos (by omega) (Ev.now _))
  | d + 1, n, s, hn, hb, hs => by
    by_cases h0 : n = 0
    · refine ⟨(⟨#[109]⟩ : ByteArray) ++ s, Ev.succ ?_⟩
      simp only [laws_markText.l0]
      exact Ev.neg (by omega) (Ev.pos (by omega) (Ev.now _))
    · have e0 : (strOfNums [(wrap64 (48 + (Int.tmod (n : Int) 10))) % 256]).size = 1 := strOfNums_one _
      have hq : n / 10 < 10 ^ d := by rw [Nat.pow_succ] at hn; omega
      obtain ⟨t, ht⟩ := markText_l0 d (n / 10) (strOfNums [(wrap64 (48 + (Int.tmod (n : Int) 10))) % 256] ++ s) hq (by omega) (by rw [ByteArray.size_append, e0]; omega)
      have e2 : Aside0 (wrap64 (Int.tdiv (n : Int) 10) = ((n / 10 : Nat) : Int)) := ⟨by
        rw [show (10 : Int) = ((10 : Nat) : Int) from rfl, ← Int.ofNat_tdiv]; exact w64 (by omega) (by omega)⟩
      refine ⟨t, Ev.succ ?_⟩
      simp only [laws_markText.l0, e2.out]
      exact Ev.pos (by omega) (Ev.known (fun _ => rfl) (Ev.pos (by rw [e0]; omega) ht))
theorem marks : ∃ mt : Nat → ByteArray, ∀ n : Nat, n ≤ 1048577 → Ev (fun k => laws_markText.f k (n : Int)) (mt n) := by
  have h : ∀ n : Nat, ∃ t, n ≤ 1048577 → Ev (fun k => laws_markText.f k (n : Int)) t := by
    intro n
    by_cases hn : n ≤ 1048577
    · by_cases h0 : n = 0
      · exact ⟨_, fun _ => Ev.pos (by omega) (Ev.now _)⟩
      · obtain ⟨t, ht⟩ := markText_l0 7 n ⟨#[]⟩ (by omega) (by omega) (by decide)
        exact ⟨t, fun _ => Ev.neg (by omega) ht⟩
    · exact ⟨ByteArray.empty, fun h => absurd h hn⟩
  exact ⟨fun n => (h n).choose, fun n hn => (h n).choose_spec hn⟩
/-- n texts, all different -/
def marked (mt : Nat → ByteArray) (n : Nat) : List ByteArray := (List.range n).map fun j => mt (j + 1)
theorem marked_length (mt : Nat → ByteArray) (n : Nat) : (marked mt n).length = n := by simp [marked]
theorem markS_l0 (mt : Nat → ByteArray) (hmt : ∀ n : Nat, n ≤ 1048577 → Ev (fun k => laws_markText.f k (n : Int)) (mt n)) (n : Nat) (hn : n ≤ 1048576) : ∀ (d i : Nat) (xs : List ByteArray), i + d = n → xs.length = n → xs.take i = (marked mt n).take i → Ev (fun k => laws_markStringS.l0 k xs ((i + 1 : Nat) : Int) (i : Int)) (((n + 1 : Nat) : Int), marked mt n)
  | 0, i, xs, hd, hx, ht => by
    refine Ev.succ ?_
    simp only [laws_markStringS.l0]
    refine Ev.neg (by omega) (Ev.pure ?_)
    have := marked_length mt n
    rw [List.take_of_length_le (by omega), List.take_of_length_le (by omega)] at ht
    rw [ht, show i = n by omega]
  | d + 1, i, xs, hd, hx, ht => by
    have hlen := marked_length mt n
    have h1 : i < (marked mt n).length := by omega
    have ih := markS_l0 mt hmt n hn d (i + 1) (xs.set i (mt (i + 1))) (by omega) (by simp [hx]) (by
      have h2 : i < (xs.set i (mt (i + 1))).length := by simp; omega
      rw [List.take_succ_eq_append_getElem h2, List.take_succ_eq_append_getElem h1, List.take_set, List.set_eq_of_length_le (by simp; omega), ht]
      simp [marked])
    refine Ev.succ ?_
    simp only [laws_markStringS.l0, w1 (show 0 ≤ (i : Int) by omega) (show (i : Int) < 9223372036854775807 by omega), w1 (show 0 ≤ ((i + 1 : Nat) : Int) by omega) (show ((i + 1 : Nat) : Int) < 9223372036854775807 by omega)]
    exact Ev.pos (by omega) (Ev.bind (hmt (i + 1) (by omega)) (Ev.pos (by omega) ih))
theorem markS_ev {mt : Nat → ByteArray} (hmt : ∀ n : Nat, n ≤ 1048577 → Ev (fun k => laws_markText.f k (n : Int)) (mt n)) (xs : List ByteArray) (hn : xs.length ≤ 1048576) : Ev (fun k => laws_markStringS.f k xs 1) (((xs.length + 1 : Nat) : Int), marked mt xs.length) :=
  markS_l0 mt hmt xs.length hn xs.length 0 xs (by omega) rfl rfl

theorem spec_in (a b c : Int) : spec_l1In.f a b c = some (decide (b ≤ a ∧ a ≤ c)) := by
  unfold spec_l1In.f
  by_cases h : a ≥ b
  · rw [if_pos h]; simp [h]
  · rw [if_neg h]; simp; omega

theorem impl_in_eq (a b c : Int) : impl_in.f a b c = some (decide (b ≤ a ∧ a ≤ c)) := by
  unfold impl_in.f
  by_cases h : b ≤ a
  · rw [if_pos h]; simp [h]
  · rw [if_neg h]; simp [h]

theorem bt_nat (s : ByteArray) (i : Nat) (h : i < s.data.toList.length) : bt s (i : Int) = ((s.data.toList[i]).toNat : Int) := by
  have h' : i < s.size := by have e : s.size = s.data.toList.length := Array.length_toList.symm; omega
  unfold bt
  rw [dif_pos (show (i : Int).toNat < s.size by simpa using h')]
  simp [ByteArray.getElem_eq_getElem_data]
theorem size_data (s : ByteArray) : s.size = s.data.toList.length := Array.length_toList.symm
theorem letter_test (c : UInt8) : ((c.toNat : Int) < 97 ∨ ((c.toNat : Int) - 97) % 256 ≥ 3) ↔ isLetter c = false := by
  have := c.toNat_lt
  unfold isLetter
  rw [decide_eq_false_iff_not]
  omega
theorem wdIs_l0 (s : ByteArray) (hs : s.size < 4611686018427387904) : ∀ (d i : Nat), i + d = s.data.toList.length → Ev (fun k => spec_wdIs.l0 k s (i : Int)) ((s.data.toList.drop i).all isLetter)
  | 0, i, hd => by
    refine Ev.succ ?_
    simp only [spec_wdIs.l0]
    exact Ev.neg (by rw [size_data]; omega) (Ev.pure (by rw [List.drop_of_length_le (by omega)]; rfl))
  | d + 1, i, hd => by
    have h1 : i < s.data.toList.length := by omega
    have ih := wdIs_l0 s hs d (i + 1) (by omega)
    have ht := letter_test s.data.toList[i]
    have hsz := size_data s
    rw [List.drop_eq_getElem_cons h1, List.all_cons]
    refine Ev.succ ?_
    simp only [spec_wdIs.l0, bt_nat s i h1, w1 (show 0 ≤ (i : Int) by omega) (show (i : Int) < 9223372036854775807 by omega)]
    refine Ev.pos (by omega) (Ev.pos (by omega) (Ev.cases (fun h => ?_) (fun h => Ev.cases (fun h' => ?_) (fun h' => ?_))))
    · rw [ht.1 (Or.inl h)]; exact Ev.now _
    · rw [ht.1 (Or.inr h')]; exact Ev.now _
    · have : isLetter s.data.toList[i] = true := by
        cases hl : isLetter s.data.toList[i]
        · exact absurd (ht.2 hl) (by omega)
        · rfl
      rw [this, Bool.true_and]; exact ih
theorem wdIs_ev (s : ByteArray) (hs : s.size < 4611686018427387904) : Ev (fun k => spec_wdIs.f k s) (s.data.toList.all isLetter) := by
  have h := wdIs_l0 s hs s.data.toList.length 0 (by omega)
  simpa [spec_wdIs.f] using h

/-- a word of a set -/
def short (s : ByteArray) : Bool := decide (1 ≤ s.size ∧ s.size ≤ 8) && s.data.toList.all isLetter
theorem wdShort_ev (s : ByteArray) : Ev (fun k => spec_wdShort.f k s) (short s) := by
  unfold spec_wdShort.f short
  refine Ev.known (fun _ => spec_in _ _ _) (Ev.cases (fun h => ?_) (fun h => ?_))
  · have h' := of_decide_eq_true h
    rw [decide_eq_true (show 1 ≤ s.size ∧ s.size ≤ 8 by omega), Bool.true_and]
    exact Ev.bind (wdIs_ev s (by omega)) (Ev.now _)
  · rw [decide_eq_false (show ¬ (1 ≤ s.size ∧ s.size ≤ 8) by intro hh; exact h (decide_eq_true (by omega))), Bool.false_and]
    exact Ev.now _
theorem isShort_eq (s : ByteArray) : impl_isShort.f s = some (short s) := by
  unfold impl_isShort.f impl_isWord.f short
  by_cases h : 1 ≤ s.size ∧ s.size ≤ 8
  · rw [decide_eq_true h, decide_eq_true (show s.size ≤ 60 by omega)]
    cases s.data.toList.all isLetter
    · rfl
    · simp [impl_in_eq]; omega
  · rw [decide_eq_false h]
    cases (decide (s.size ≤ 60) && s.data.toList.all isLetter)
    · rfl
    · simp [impl_in_eq]; omega
theorem bytesLess_cmp : ∀ (x y : List UInt8), Op.bytesLess x y = decide (Lib.compareBytes x y < 0)
  | [], [] => by simp [Op.bytesLess, Lib.compareBytes]
  | _ :: _, [] => by simp [Op.bytesLess, Lib.compareBytes]
  | [], _ :: _ => by simp [Op.bytesLess, Lib.compareBytes]
  | a :: x, b :: y => by
    rw [Op.bytesLess, bytesLess_cmp x y, Lib.compareBytes]
    by_cases h1 : a < b
    · simp [h1]
    · by_cases h2 : b < a
      · have : (a == b) = false := by
          rw [beq_eq_false_iff_ne]; rintro rfl; exact h1 h2
        simp [h1, h2, this]
      · have : a = b := by
          have h1' : ¬ a.toNat < b.toNat := h1
          have h2' : ¬ b.toNat < a.toNat := h2
          exact UInt8.toNat_inj.1 (by omega)
        subst this; simp [h1]
theorem bytesLess_irrefl : ∀ (x : List UInt8), Op.bytesLess x x = false
  | [] => rfl
  | a :: x => by rw [Op.bytesLess, bytesLess_irrefl x]; simp
theorem bytesLess_trans : ∀ (x y z : List UInt8), Op.bytesLess x y = true → Op.bytesLess y z = true → Op.bytesLess x z = true
  | _, [], _ => by simp [Op.bytesLess]
  | _, _ :: _, [] => by simp [Op.bytesLess]
  | [], _ :: _, _ :: _ => by simp [Op.bytesLess]
  | a :: x, b :: y, c :: z => by
    have ih := bytesLess_trans x y z
    simp only [Op.bytesLess, Bool.or_eq_true, decide_eq_true_eq, Bool.and_eq_true, beq_iff_eq]
    intro h1 h2
    rcases h1 with h1 | ⟨rfl, h1⟩
    · rcases h2 with h2 | ⟨rfl, h2⟩
      · exact Or.inl (UInt8.lt_trans h1 h2)
      · exact Or.inl h1
    · rcases h2 with h2 | ⟨rfl, h2⟩
      · exact Or.inl h2
      · exact Or.inr ⟨rfl, ih h1 h2⟩
/-- the order of words: by length, then by letters -/
def wless (a b : ByteArray) : Bool := decide (a.size < b.size) || (decide (a.size = b.size) && Op.bytesLess a.data.toList b.data.toList)
theorem wless_irrefl (a : ByteArray) : wless a a = false := by unfold wless; rw [bytesLess_irrefl]; simp
theorem wless_trans (a b c : ByteArray) (h1 : wless a b = true) (h2 : wless b c = true) : wless a c = true := by
  unfold wless at *
  simp only [Bool.or_eq_true, decide_eq_true_eq, Bool.and_eq_true] at *
  rcases h1 with h1 | ⟨h1, g1⟩ <;> rcases h2 with h2 | ⟨h2, g2⟩
  · left; omega
  · left; omega
  · left; omega
  · exact Or.inr ⟨by omega, bytesLess_trans _ _ _ g1 g2⟩
theorem wdLess_eq (a b : ByteArray) : spec_wdLess.f a b = some (wless a b) := by
  unfold spec_wdLess.f wless
  by_cases h : a.size < b.size
  · rw [if_pos (by omega)]; simp [h]
  · rw [if_neg (by omega)]
    by_cases h' : a.size = b.size
    · rw [if_pos (by omega)]; simp [h', ByteArray.toList_eq]
    · rw [if_neg (by omega)]; simp [h, h']
theorem or2 (a b : Int) : Ev (fun k => cmp_Or_int.f k [a, b]) (if a = 0 then b else a) := by
  refine ⟨3, fun k hk => ?_⟩
  obtain ⟨k, rfl⟩ : ∃ m, k = m + 3 := ⟨k - 3, by omega⟩
  by_cases ha : a = 0 <;> by_cases hb : b = 0 <;> simp [cmp_Or_int.f, cmp_Or_int.l0, rd, wrap64, ha, hb]
theorem compareWords_ev (a b : ByteArray) : ∃ c, Ev (fun k => impl_compareWords.f k a b) c ∧ wless a b = decide (c < 0) := by
  have hn : ∀ x : Int, cmp_isNaN_int.f x = some false := fun x => by simp [cmp_isNaN_int.f]
  have hc : cmp_Compare_int.f (a.size : Int) (b.size : Int) = some (if a.size < b.size then -1 else if b.size < a.size then 1 else 0) := by
    unfold cmp_Compare_int.f
    simp only [hn, Option.bind_some]
    rw [if_neg (by simp), if_neg (by simp)]
    by_cases h1 : a.size < b.size
    · rw [if_pos (by omega), if_pos h1]
    · rw [if_neg (by omega), if_neg h1]
      by_cases h2 : b.size < a.size
      · rw [if_pos (by omega), if_pos h2]
      · rw [if_neg (by omega), if_neg h2]
  refine ⟨_, Ev.known (fun _ => hc) (Ev.known (fun _ => rfl) (Ev.bind (or2 _ _) (Ev.now _))), ?_⟩
  unfold wless
  rw [bytesLess_cmp]
  by_cases h1 : a.size < b.size
  · simp [h1]
  · by_cases h2 : b.size < a.size
    · rw [if_neg h1, if_pos h2]; simp [h1, show ¬ a.size = b.size by omega]
    · rw [if_neg h1, if_neg h2]; simp [h1, show a.size = b.size by omega]
/-- a set: words of the right size, one by one in order -/
def SetUpto (l : List ByteArray) (i : Nat) : Prop := ∀ (j : Nat) (h : j < l.length), i ≤ j → short l[j] = true ∧ (0 < j → wless l[j - 1] l[j] = true)
theorem set_l0 (l : List ByteArray) (hl : l.length ≤ 1048576) : ∀ (d i : Nat), i + d = l.length → ∃ b, Ev (fun k => spec_wdSet.l0 k l l (l.length : Int) (i : Int)) b ∧ Ev (fun k => impl_isSet.l0 k l l (l.length : Int) (i : Int)) (b && decide (l.length ≤ 12)) ∧ (b = true → SetUpto l i)
  | 0, i, hd => by
    refine ⟨true, Ev.succ ?_, Ev.succ ?_, fun _ j h hj => by omega⟩
    · simp only [spec_wdSet.l0]; exact Ev.neg (by omega) (Ev.now _)
    · simp only [impl_isSet.l0]; refine Ev.neg (by omega) (Ev.pure ?_); rw [Bool.true_and]; exact decide_eq_decide.2 (by omega)
  | d + 1, i, hd => by
    have h1 : i < l.length := by omega
    obtain ⟨b, e1, e2, hb⟩ := set_l0 l hl d (i + 1) (by omega)
    have s1 := wdShort_ev l[i]
    have s2 := isShort_eq l[i]
    cases hs : short l[i]
    · rw [hs] at s1 s2
      refine ⟨false, Ev.succ ?_, Ev.succ ?_, fun h => by cases h⟩
      · simp only [spec_wdSet.l0, rdOf_nat l i h1]
        exact Ev.pos (by omega) (Ev.pos (by omega) (Ev.pos (by omega) (Ev.bind s1 (Ev.neg (by simp) (Ev.now _)))))
      · simp only [impl_isSet.l0, rdOf_nat l i h1]
        exact Ev.pos (by omega) (Ev.pos (by omega) (Ev.pos (by omega) (Ev.known (fun _ => s2) (Ev.neg (by simp) (Ev.now _)))))
    · rw [hs] at s1 s2
      by_cases h0 : i = 0
      · refine ⟨b, Ev.succ ?_, Ev.succ ?_, fun h j hj hij => ?_⟩
        · simp only [spec_wdSet.l0, rdOf_nat l i h1, w1 (show 0 ≤ (i : Int) by omega) (show (i : Int) < 9223372036854775807 by omega)]
          exact Ev.pos (by omega) (Ev.pos (by omega) (Ev.pos (by omega) (Ev.bind s1 (Ev.pos rfl (Ev.neg (by omega) e1)))))
        · simp only [impl_isSet.l0, rdOf_nat l i h1, w1 (show 0 ≤ (i : Int) by omega) (show (i : Int) < 9223372036854775807 by omega)]
          exact Ev.pos (by omega) (Ev.pos (by omega) (Ev.pos (by omega) (Ev.known (fun _ => s2) (Ev.pos rfl (Ev.neg (by omega) e2)))))
        · by_cases he : i = j
          · subst he; exact ⟨hs, fun h => by omega⟩
          · exact hb h j hj (by omega)
      · obtain ⟨c, hc, hw⟩ := compareWords_ev l[i - 1] l[i]
        have e3 : Aside0 (wrap64 ((i : Int) - 1) = ((i - 1 : Nat) : Int)) := ⟨by rw [w64 (by omega) (by omega)]; omega⟩
        have l1 := wdLess_eq l[i - 1] l[i]
        refine ⟨wless l[i - 1] l[i] && b, Ev.succ ?_, Ev.succ ?_, fun h j hj hij => ?_⟩
        · simp only [spec_wdSet.l0, rdOf_nat l i h1, e3.out, rdOf_nat l (i - 1) (by omega), w1 (show 0 ≤ (i : Int) by omega) (show (i : Int) < 9223372036854775807 by omega)]
          refine Ev.pos (by omega) (Ev.pos (by omega) (Ev.pos (by omega) (Ev.bind s1 (Ev.pos rfl (Ev.pos (by omega) (Ev.pos (by omega) (Ev.pos (by omega) (Ev.known (fun _ => l1) (Ev.cases (fun h => ?_) (fun h => ?_))))))))))
          · rw [h, Bool.true_and]; exact e1
          · rw [Bool.eq_false_iff.mpr h, Bool.false_and]; exact Ev.now _
        · simp only [impl_isSet.l0, rdOf_nat l i h1, e3.out, rdOf_nat l (i - 1) (by omega), w1 (show 0 ≤ (i : Int) by omega) (show (i : Int) < 9223372036854775807 by omega)]
          refine Ev.pos (by omega) (Ev.pos (by omega) (Ev.pos (by omega) (Ev.known (fun _ => s2) (Ev.pos rfl (Ev.pos (by omega) (Ev.pos (by omega) (Ev.pos (by omega) (Ev.bind hc (Ev.cases (fun h => ?_) (fun h => ?_))))))))))
          · rw [hw, decide_eq_false (by omega)]; exact Ev.now _
          · rw [hw, decide_eq_true (by omega)]; exact e2
        · simp only [Bool.and_eq_true] at h
          by_cases he : i = j
          · subst he; exact ⟨hs, fun _ => h.1⟩
          · exact hb h.2 j hj (by omega)
/-- what a set is -/
structure IsSet (l : List ByteArray) : Prop where
  few : l.length ≤ 12
  each : SetUpto l 0
theorem isSet_same (l : List ByteArray) (hl : l.length ≤ 1048576) : ∃ b, Ev (fun k => spec_wdSet.f k l) b ∧ Ev (fun k => impl_isSet.f k l) b ∧ (b = true → IsSet l) := by
  obtain ⟨b, h1, h2, hb⟩ := set_l0 l hl l.length 0 (by omega)
  unfold spec_wdSet.f impl_isSet.f
  by_cases h12 : l.length ≤ 12
  · rw [decide_eq_true h12, Bool.and_true] at h2
    exact ⟨b, Ev.neg (by omega) h1, h2, fun h => ⟨h12, hb h⟩⟩
  · rw [decide_eq_false h12, Bool.and_false] at h2
    exact ⟨false, Ev.pos (by omega) (Ev.now _), h2, fun h => by cases h⟩
theorem IsSet.lt {l : List ByteArray} (h : IsSet l) : ∀ (j i : Nat) (hj : j < l.length) (hi : i < j), wless l[i] l[j] = true
  | 0, i, hj, hi => by omega
  | j + 1, i, hj, hi => by
    have h1 := (h.each (j + 1) hj (by omega)).2 (by omega)
    by_cases e : i = j
    · subst e; exact h1
    · exact wless_trans _ _ _ (h.lt j i (by omega) (by omega)) h1
theorem IsSet.short {l : List ByteArray} (h : IsSet l) (w : ByteArray) (hw : w ∈ l) : Pure.short w = true := by
  obtain ⟨i, hi, rfl⟩ := List.getElem_of_mem hw
  exact (h.each i hi (by omega)).1
theorem IsSet.size {l : List ByteArray} (h : IsSet l) (w : ByteArray) (hw : w ∈ l) : 1 ≤ w.size ∧ w.size ≤ 8 := by
  have := h.short w hw
  unfold Pure.short at this
  simp only [Bool.and_eq_true, decide_eq_true_eq] at this
  exact this.1

theorem eqIntS_l0 (l : List Int) (hl : l.length ≤ 1048576) : ∀ (d i : Nat), i + d = l.length → Ev (fun k => laws_eqIntS.l0 k l l (i : Int)) true
  | 0, i, hd => Ev.step (f := fun _ => some true) (fun k => by simp only [laws_eqIntS.l0]; rw [if_neg (by omega)]) (Ev.now _)
  | d + 1, i, hd => by
    refine Ev.step (f := fun k => laws_eqIntS.l0 k l l ((i + 1 : Nat) : Int)) (fun k => ?_) (eqIntS_l0 l hl d (i + 1) (by omega))
    simp only [laws_eqIntS.l0]; rw [if_pos (by omega), if_pos (by omega), if_pos (by omega), if_pos trivial, w1 (by omega) (by omega)]; simp
theorem eqIntS_ev (l : List Int) (hl : l.length ≤ 1048576) : Ev (fun k => laws_eqIntS.f k l l) true := by
  unfold laws_eqIntS.f
  exact Ev.pos rfl (by simpa using eqIntS_l0 l hl l.length 0 (by omega))

theorem eqIntSS_l0 (l : List (List Int)) (hl : l.length ≤ 1048576) (hr : ∀ r ∈ l, r.length ≤ 1048576) : ∀ (d i : Nat), i + d = l.length → Ev (fun k => laws_eqIntSS.l0 k l l (i : Int)) true
  | 0, i, hd => Ev.succ (by simp only [laws_eqIntSS.l0]; exact Ev.neg (by omega) (Ev.now _))
  | d + 1, i, hd => by
    have h1 : i < l.length := by omega
    have ih := eqIntSS_l0 l hl hr d (i + 1) (by omega)
    have hg : rd_L2 l (i : Int) = l[i] := by unfold rd_L2; rw [Int.toNat_natCast, List.getD_eq_getElem?_getD, List.getElem?_eq_getElem h1, Option.getD_some]
    refine Ev.succ ?_
    simp only [laws_eqIntSS.l0, hg, w1 (show 0 ≤ (i : Int) by omega) (show (i : Int) < 9223372036854775807 by omega)]
    exact Ev.pos (by omega) (Ev.pos (by omega) (Ev.pos (by omega) (Ev.bind (eqIntS_ev l[i] (hr _ (List.getElem_mem h1))) (Ev.pos rfl ih))))
theorem eqIntSS_ev (l : List (List Int)) (hl : l.length ≤ 1048576) (hr : ∀ r ∈ l, r.length ≤ 1048576) : Ev (fun k => laws_eqIntSS.f k l l) true := by
  unfold laws_eqIntSS.f
  exact Ev.pos rfl (by simpa using eqIntSS_l0 l hl hr l.length 0 (by omega))

/-- n numbers from m on, all different -/
def imk (m n : Nat) : List Int := (List.range n).map fun j => ((m + j : Nat) : Int)
theorem imk_length (m n : Nat) : (imk m n).length = n := by simp [imk]
theorem imk_l0 (m n : Nat) (hn : m + n ≤ 1048577) : ∀ (d i : Nat) (xs : List Int), i + d = n → xs.length = n → xs.take i = (imk m n).take i → Ev (fun k => laws_markIntS.l0 k xs ((m + i : Nat) : Int) (i : Int)) (((m + n : Nat) : Int), imk m n)
  | 0, i, xs, hd, hx, ht => by
    refine Ev.succ ?_
    simp only [laws_markIntS.l0]
    refine Ev.neg (by omega) (Ev.pure ?_)
    have := imk_length m n
    rw [List.take_of_length_le (by omega), List.take_of_length_le (by omega)] at ht
    rw [ht, show i = n by omega]
  | d + 1, i, xs, hd, hx, ht => by
    have hlen := imk_length m n
    have h1 : i < (imk m n).length := by omega
    have ih := imk_l0 m n hn d (i + 1) (xs.set i ((m + i : Nat) : Int)) (by omega) (by simp [hx]) (by
      have h2 : i < (xs.set i ((m + i : Nat) : Int)).length := by simp; omega
      rw [List.take_succ_eq_append_getElem h2, List.take_succ_eq_append_getElem h1, List.take_set, List.set_eq_of_length_le (by simp; omega), ht]
      simp [imk])
    refine Ev.succ ?_
    simp only [laws_markIntS.l0, Int.toNat_natCast, w1 (show 0 ≤ (i : Int) by omega) (show (i : Int) < 9223372036854775807 by omega), w1 (show 0 ≤ ((m + i : Nat) : Int) by omega) (show ((m + i : Nat) : Int) < 9223372036854775807 by omega)]
    exact Ev.pos (by omega) (Ev.pos (by omega) ih)
theorem heldk_l0 (m n : Nat) (hn : m + n ≤ 1048577) : ∀ (d i : Nat), i + d = n → Ev (fun k => laws_heldIntS.l0 k (imk m n) ((m + i : Nat) : Int) (i : Int)) ((m + n : Nat) : Int)
  | 0, i, hd => by
    have hlen := imk_length m n
    refine Ev.succ ?_
    simp only [laws_heldIntS.l0]
    exact Ev.neg (by omega) (Ev.pure (by rw [show i = n by omega]))
  | d + 1, i, hd => by
    have hlen := imk_length m n
    have h1 : i < (imk m n).length := by omega
    have ih := heldk_l0 m n hn d (i + 1) (by omega)
    refine Ev.succ ?_
    simp only [laws_heldIntS.l0, rd_nat _ i h1, w1 (show 0 ≤ (i : Int) by omega) (show (i : Int) < 9223372036854775807 by omega), w1 (show 0 ≤ ((m + i : Nat) : Int) by omega) (show ((m + i : Nat) : Int) < 9223372036854775807 by omega)]
    exact Ev.pos (by omega) (Ev.pos (by omega) (Ev.pos (by simp [imk]) ih))
/-- rows of three, marked -/
def rmk (n : Nat) : List (List Int) := (List.range n).map fun j => imk (1 + 3 * j) 3
theorem rmk_length (n : Nat) : (rmk n).length = n := by simp [rmk]
theorem rmk_at (n i : Nat) (h : i < n) : (rmk n)[i]'(by rw [rmk_length]; exact h) = imk (1 + 3 * i) 3 := by simp [rmk]
theorem rmk_l0 (n : Nat) (hn : n ≤ 100000) : ∀ (d i : Nat) (xs : List (List Int)), i + d = n → xs.length = n → (∀ r ∈ xs, r.length = 3) → xs.take i = (rmk n).take i → Ev (fun k => laws_markIntSS.l0 k xs ((1 + 3 * i : Nat) : Int) (i : Int)) (((1 + 3 * n : Nat) : Int), rmk n)
  | 0, i, xs, hd, hx, h3, ht => by
    refine Ev.succ ?_
    simp only [laws_markIntSS.l0]
    refine Ev.neg (by omega) (Ev.pure ?_)
    have := rmk_length n
    rw [List.take_of_length_le (by omega), List.take_of_length_le (by omega)] at ht
    rw [ht, show i = n by omega]
  | d + 1, i, xs, hd, hx, h3, ht => by
    have hlen := rmk_length n
    have h1 : i < (rmk n).length := by omega
    have h2 : i < xs.length := by omega
    have ih := rmk_l0 n hn d (i + 1) (xs.set i (imk (1 + 3 * i) 3)) (by omega) (by simp [hx]) (fun r hr => by
      rcases List.mem_or_eq_of_mem_set hr with h | h
      · exact h3 r h
      · rw [h, imk_length]) (by
      have h2 : i < (xs.set i (imk (1 + 3 * i) 3)).length := by simp; omega
      rw [List.take_succ_eq_append_getElem h2, List.take_succ_eq_append_getElem h1, List.take_set, List.set_eq_of_length_le (by simp; omega), ht, rmk_at n i (by omega)]
      simp)
    have hg : xs.getD i [] = xs[i] := by rw [List.getD_eq_getElem?_getD, List.getElem?_eq_getElem h2]; rfl
    have hm := imk_l0 (1 + 3 * i) 3 (by omega) 3 0 xs[i] (by omega) (h3 _ (List.getElem_mem h2)) (by simp)
    have h9 : ((1 + 3 * i + 3 : Nat) : Int) = ((1 + 3 * (i + 1) : Nat) : Int) := by omega
    refine Ev.succ ?_
    simp only [laws_markIntSS.l0, Int.toNat_natCast, hg, w1 (show 0 ≤ (i : Int) by omega) (show (i : Int) < 9223372036854775807 by omega)]
    exact Ev.pos (by omega) (Ev.pos (by omega) (Ev.bind hm (by simp only [h9]; exact ih)))
theorem rheld_l0 (n : Nat) (hn : n ≤ 100000) : ∀ (d i : Nat), i + d = n → Ev (fun k => laws_heldIntSS.l0 k (rmk n) ((1 + 3 * i : Nat) : Int) (i : Int)) ((1 + 3 * n : Nat) : Int)
  | 0, i, hd => by
    have hlen := rmk_length n
    refine Ev.succ ?_
    simp only [laws_heldIntSS.l0]
    exact Ev.neg (by omega) (Ev.pure (by rw [show i = n by omega]))
  | d + 1, i, hd => by
    have hlen := rmk_length n
    have h1 : i < (rmk n).length := by omega
    have ih := rheld_l0 n hn d (i + 1) (by omega)
    have hg : rd_L2 (rmk n) (i : Int) = imk (1 + 3 * i) 3 := by unfold rd_L2; rw [Int.toNat_natCast, List.getD_eq_getElem?_getD, List.getElem?_eq_getElem h1, Option.getD_some, rmk_at n i (by omega)]
    have hm := heldk_l0 (1 + 3 * i) 3 (by omega) 3 0 (by omega)
    have h9 : ((1 + 3 * i + 3 : Nat) : Int) = ((1 + 3 * (i + 1) : Nat) : Int) := by omega
    refine Ev.succ ?_
    simp only [laws_heldIntSS.l0, hg, w1 (show 0 ≤ (i : Int) by omega) (show (i : Int) < 9223372036854775807 by omega)]
    exact Ev.pos (by omega) (Ev.pos (by omega) (Ev.bind hm (Ev.neg (by omega) (by simp only [h9]; exact ih))))

/-- how often each letter stands in a text -/
def lcOf (l : List UInt8) : List Int := [((l.count 97 : Nat) : Int), ((l.count 98 : Nat) : Int), ((l.count 99 : Nat) : Int)]
theorem letter_three (c : UInt8) (h : isLetter c = true) : c = 97 ∨ c = 98 ∨ c = 99 := by
  have h1 := letter_test c
  have h2 : ¬ ((c.toNat : Int) < 97 ∨ ((c.toNat : Int) - 97) % 256 ≥ 3) := fun q => by rw [h1.1 q] at h; cases h
  have := c.toNat_lt
  have h3 : c.toNat = 97 ∨ c.toNat = 98 ∨ c.toNat = 99 := by omega
  rcases h3 with e | e | e
  · exact Or.inl (UInt8.toNat_inj.1 e)
  · exact Or.inr (Or.inl (UInt8.toNat_inj.1 e))
  · exact Or.inr (Or.inr (UInt8.toNat_inj.1 e))
theorem wdLetters_l0 (s : ByteArray) (hs : s.size ≤ 8) (ha : s.data.toList.all isLetter = true) : ∀ (d i : Nat), i + d = s.data.toList.length → Ev (fun k => spec_wdLetters.l0 k s (lcOf (s.data.toList.take i)) (i : Int)) (lcOf s.data.toList)
  | 0, i, hd => by
    refine Ev.succ ?_
    simp only [spec_wdLetters.l0]
    exact Ev.neg (by rw [size_data]; omega) (Ev.pure (by rw [List.take_of_length_le (by omega)]))
  | d + 1, i, hd => by
    have h1 : i < s.data.toList.length := by omega
    have hsz := size_data s
    have ih := wdLetters_l0 s hs ha d (i + 1) (by omega)
    have hc : isLetter s.data.toList[i] = true := List.all_eq_true.1 ha _ (List.getElem_mem h1)
    have hb := bt_nat s i h1
    have ht : s.data.toList.take (i + 1) = s.data.toList.take i ++ [s.data.toList[i]] := List.take_succ_eq_append_getElem h1
    have hn : ∀ c : UInt8, (s.data.toList.take i).count c ≤ 8 := fun c => Nat.le_trans List.count_le_length (by rw [List.length_take]; omega)
    have n1 := hn 97
    have n2 := hn 98
    have n3 := hn 99
    rw [ht] at ih
    refine Ev.succ ?_
    simp only [spec_wdLetters.l0, w1 (show 0 ≤ (i : Int) by omega) (show (i : Int) < 9223372036854775807 by omega)]
    refine Ev.pos (by omega) (Ev.pos (by omega) ?_)
    rcases letter_three _ hc with e | e | e
    · rw [e] at hb ih
      have e1 : Aside0 ((bt s (i : Int) - 97) % 256 = 0) := ⟨by rw [hb]; rfl⟩
      rw [e1.out]
      have e2 : Aside0 (wrap64 (rd (lcOf (s.data.toList.take i)) 0 + 1) = (((s.data.toList.take i).count 97 + 1 : Nat) : Int)) := ⟨by
        show wrap64 ((((s.data.toList.take i).count 97 : Nat) : Int) + 1) = _
        rw [w64 (by omega) (by omega)]; omega⟩
      rw [e2.out]
      refine Ev.pos (by omega) (Ev.pos (by simp [lcOf]) ?_)
      simpa [lcOf, List.count_append, List.count_cons] using ih
    · rw [e] at hb ih
      have e1 : Aside0 ((bt s (i : Int) - 97) % 256 = 1) := ⟨by rw [hb]; rfl⟩
      rw [e1.out]
      have e2 : Aside0 (wrap64 (rd (lcOf (s.data.toList.take i)) 1 + 1) = (((s.data.toList.take i).count 98 + 1 : Nat) : Int)) := ⟨by
        show wrap64 ((((s.data.toList.take i).count 98 : Nat) : Int) + 1) = _
        rw [w64 (by omega) (by omega)]; omega⟩
      rw [e2.out]
      refine Ev.pos (by omega) (Ev.pos (by simp [lcOf]) ?_)
      simpa [lcOf, List.count_append, List.count_cons] using ih
    · rw [e] at hb ih
      have e1 : Aside0 ((bt s (i : Int) - 97) % 256 = 2) := ⟨by rw [hb]; rfl⟩
      rw [e1.out]
      have e2 : Aside0 (wrap64 (rd (lcOf (s.data.toList.take i)) 2 + 1) = (((s.data.toList.take i).count 99 + 1 : Nat) : Int)) := ⟨by
        show wrap64 ((((s.data.toList.take i).count 99 : Nat) : Int) + 1) = _
        rw [w64 (by omega) (by omega)]; omega⟩
      rw [e2.out]
      refine Ev.pos (by omega) (Ev.pos (by simp [lcOf]) ?_)
      simpa [lcOf, List.count_append, List.count_cons] using ih
theorem wdLetters_ev (s : ByteArray) (hs : s.size ≤ 8) (ha : s.data.toList.all isLetter = true) : Ev (fun k => spec_wdLetters.f k s) (lcOf s.data.toList) := by
  unfold spec_wdLetters.f
  exact Ev.pos (by omega) (wdLetters_l0 s hs ha s.data.toList.length 0 (by omega))
theorem lettersOf_ev (s : ByteArray) : Ev (fun k => impl_lettersOf.f k s) (lcOf s.data.toList) := by
  have e1 : wrap64 (0 + 1) = 1 := by rw [w64 (by omega) (by omega)]; rfl
  have e2 : wrap64 (1 + 1) = 2 := by rw [w64 (by omega) (by omega)]; rfl
  have e3 : wrap64 (2 + 1) = 3 := by rw [w64 (by omega) (by omega)]; rfl
  unfold impl_lettersOf.f
  refine Ev.succ ?_
  simp only [impl_lettersOf.l0, e1]
  refine Ev.pos (by decide) (Ev.pos (by decide) (Ev.pos (by decide) (Ev.pos (by decide) (Ev.known (a := ((s.data.toList.count 97 : Nat) : Int)) (fun _ => rfl) (Ev.pos (by simp) ?_)))))
  refine Ev.succ ?_
  simp only [impl_lettersOf.l0, e2]
  refine Ev.pos (by decide) (Ev.pos (by decide) (Ev.pos (by decide) (Ev.pos (by decide) (Ev.known (a := ((s.data.toList.count 98 : Nat) : Int)) (fun _ => rfl) (Ev.pos (by simp) ?_)))))
  refine Ev.succ ?_
  simp only [impl_lettersOf.l0, e3]
  refine Ev.pos (by decide) (Ev.pos (by decide) (Ev.pos (by decide) (Ev.pos (by decide) (Ev.known (a := ((s.data.toList.count 99 : Nat) : Int)) (fun _ => rfl) (Ev.pos (by simp) ?_)))))
  refine Ev.succ ?_
  simp only [impl_lettersOf.l0]
  exact Ev.neg (by decide) (Ev.now _)

theorem spec_lc_l0 (l : List ByteArray) (hl : IsSet l) : ∀ (d i : Nat), i + d = l.length → Ev (fun k => spec_LetterCounts.l0 k ((l.take i).map fun s => lcOf s.data.toList) l (l.length : Int) (i : Int)) (l.map fun s => lcOf s.data.toList, true)
  | 0, i, hd => Ev.succ (by simp only [spec_LetterCounts.l0]; exact Ev.neg (by omega) (Ev.pure (by rw [List.take_of_length_le (by omega)])))
  | d + 1, i, hd => by
    have h1 : i < l.length := by omega
    have h12 := hl.few
    have ih := spec_lc_l0 l hl d (i + 1) (by omega)
    have hs := hl.short _ (List.getElem_mem h1)
    unfold Pure.short at hs
    simp only [Bool.and_eq_true, decide_eq_true_eq] at hs
    rw [List.take_succ_eq_append_getElem h1, List.map_append] at ih
    refine Ev.succ ?_
    simp only [spec_LetterCounts.l0, rdOf_nat l i h1, w1 (show 0 ≤ (i : Int) by omega) (show (i : Int) < 9223372036854775807 by omega)]
    exact Ev.pos (by omega) (Ev.pos (by omega) (Ev.pos (by omega) (Ev.bind (wdLetters_ev _ hs.1.2 hs.2) (Ev.pos (by rw [List.length_map, List.length_take]; omega) ih))))
theorem impl_lc_l0 (l : List ByteArray) (hl : IsSet l) : ∀ (d i : Nat), i + d = l.length → Ev (fun k => impl_LetterCounts.l0 k ((l.take i).map fun s => lcOf s.data.toList) l (l.length : Int) (i : Int)) (l.map fun s => lcOf s.data.toList, true)
  | 0, i, hd => Ev.succ (by simp only [impl_LetterCounts.l0]; exact Ev.neg (by omega) (Ev.pure (by rw [List.take_of_length_le (by omega)])))
  | d + 1, i, hd => by
    have h1 : i < l.length := by omega
    have h12 := hl.few
    have ih := impl_lc_l0 l hl d (i + 1) (by omega)
    rw [List.take_succ_eq_append_getElem h1, List.map_append] at ih
    refine Ev.succ ?_
    simp only [impl_LetterCounts.l0, rdOf_nat l i h1, w1 (show 0 ≤ (i : Int) by omega) (show (i : Int) < 9223372036854775807 by omega)]
    exact Ev.pos (by omega) (Ev.pos (by omega) (Ev.pos (by omega) (Ev.bind (lettersOf_ev _) (Ev.pos (by rw [List.length_map, List.length_take]; omega) ih))))
theorem lc_same (l : List ByteArray) (hl : l.length ≤ 1048576) : ∃ r : List (List Int) × Bool, Ev (fun k => spec_LetterCounts.f k l) r ∧ Ev (fun k => impl_LetterCounts.f k l) r ∧ r.1.length ≤ 12 ∧ ∀ x ∈ r.1, x.length = 3 := by
  obtain ⟨b, h1, h2, hb⟩ := isSet_same l hl
  unfold spec_LetterCounts.f impl_LetterCounts.f
  cases b with
  | false => exact ⟨([], false), Ev.bind h1 (Ev.neg (by simp) (Ev.now _)), Ev.bind h2 (Ev.neg (by simp) (Ev.now _)), by simp, by simp⟩
  | true =>
    have hset := hb rfl
    have h12 := hset.few
    refine ⟨(l.map fun s => lcOf s.data.toList, true), Ev.bind h1 (Ev.pos rfl (by simpa using spec_lc_l0 l hset l.length 0 (by omega))), Ev.bind h2 (Ev.pos rfl (by simpa using impl_lc_l0 l hset l.length 0 (by omega))), by simpa using h12, fun x hx => ?_⟩
    obtain ⟨s, -, rfl⟩ := List.mem_map.1 hx
    rfl
theorem FnExactLetterCounts : laws_FnExactLetterCounts.Pure := by
  intro l hl hs
  refine Ev.rounds ?_
  unfold laws_FnExactLetterCounts.f
  obtain ⟨z, hz, hzz⟩ := szS_ev l hl hs
  refine Ev.bind hz (Ev.cases (fun _ => Ev.now _) (fun hzn => ?_))
  obtain ⟨hl', -⟩ := hzz (by omega)
  obtain ⟨mt, hmt⟩ := marks
  obtain ⟨r, h1, h2, h3, h4⟩ := lc_same l hl'
  have hm : Ev (fun k => laws_markIntSS.f k r.1 1) (((1 + 3 * r.1.length : Nat) : Int), rmk r.1.length) := rmk_l0 r.1.length (by omega) r.1.length 0 r.1 (by omega) rfl h4 (by simp)
  have hh : Ev (fun k => laws_heldIntSS.f k (rmk r.1.length) 1) ((1 + 3 * r.1.length : Nat) : Int) := rheld_l0 r.1.length (by omega) r.1.length 0 (by omega)
  exact Ev.bind (toS_ev l hl') (Ev.bind h1 (Ev.bind h2 (Ev.bind (eqIntSS_ev r.1 (by omega) (fun x hx => by rw [h4 x hx]; omega)) (Ev.bind (eqS_ev l hl') (Ev.bind (markS_ev hmt l hl') (Ev.bind hm (Ev.bind hh (Ev.pos ⟨rfl, rfl, rfl, by simp only; omega, by omega, rfl⟩ (Ev.now _)))))))))
end Go.Proofs.YtfjadaaahkomnaaDoor.Pure
