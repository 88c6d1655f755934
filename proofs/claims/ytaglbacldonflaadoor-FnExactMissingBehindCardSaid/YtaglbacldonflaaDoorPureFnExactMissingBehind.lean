/- MissingBehind of the program and of the reference answer alike for all arguments, and leave them as they were: no condition. -/
import Derived.Test.YtaglbacldonflaaDoorXFnExactMissingBehindxp
namespace Go.Proofs.YtaglbacldonflaaDoor.Pure
set_option linter.unusedSimpArgs false
set_option linter.unusedVariables false
open Go.RowKit Go.Proofs.YtaglbacldonflaaDoor.Hand Go.Proofs.YtaglbacldonflaaDoor.XFnExactMissingBehind Go.Proofs.YtaglbacldonflaaDoorW.PrintWords Go.Proofs.YtaglbacldonflaaDoorW.PrintLast Go.Proofs.YtaglbacldonflaaDoorW.PrintMore

theorem w1 {i : Int} (h0 : 0 ≤ i) (h : i < 9223372036854775807) : wrap64 (i + 1) = i + 1 := by unfold wrap64; omega
theorem w64 {i : Int} (h0 : -9223372036854775808 ≤ i) (h : i < 9223372036854775808) : wrap64 i = i := by unfold wrap64; omega
theorem rd_nat (l : List Int) (i : Nat) (h : i < l.length) : rd l (i : Int) = l[i] := by
  unfold rd; simp [List.getD_eq_getElem?_getD, h]
theorem Ev.pos {α : Type} {c : Prop} [Decidable c] {g g' : Nat → Option α} {r : α} (h : c) (k : Ev g r) : Ev (fun n => if c then g n else g' n) r :=
  Ev.congr (fun n => if_pos h) k
theorem Ev.neg {α : Type} {c : Prop} [Decidable c] {g g' : Nat → Option α} {r : α} (h : ¬ c) (k : Ev g' r) : Ev (fun n => if c then g n else g' n) r :=
  Ev.congr (fun n => if_neg h) k
theorem Ev.cases {α : Type} {c : Prop} [Decidable c] {g g' : Nat → Option α} {r : α} (h : c → Ev g r) (k : ¬ c → Ev g' r) : Ev (fun n => if c then g n else g' n) r := by
  by_cases e : c
  · exact Ev.pos e (h e)
  · exact Ev.neg e (k e)
/-- a call whose answer is known at every number of rounds -/
theorem Ev.known {α β : Type} {g : Nat → Option α} {f : Nat → α → Option β} {a : α} {r : β} (h : ∀ n, g n = some a) (k : Ev (fun n => f n a) r) : Ev (fun n => (g n).bind (f n)) r :=
  Ev.bind ⟨0, fun n _ => h n⟩ k
/-- one bind of two, joined with what follows -/
theorem Ev.pure {α : Type} {r q : α} (h : r = q) : Ev (fun _ => some r) q := h ▸ Ev.now r
theorem Ev.succ {α : Type} {g : Nat → Option α} {r : α} (h : Ev (fun k => g (k + 1)) r) : Ev g r := Ev.step (f := fun k => g (k + 1)) (fun _ => rfl) h

theorem rdOf_nat (l : List ByteArray) (i : Nat) (h : i < l.length) : rdOf ByteArray.empty l (i : Int) = l[i] := by
  unfold rdOf; simp [List.getD_eq_getElem?_getD, h]

theorem maxLen_le : maxLen ≤ 9223372036854775807 := by unfold maxLen; omega
theorem szS_l0 (l : List ByteArray) (hl : l.length ≤ 9223372036854775807) (hs : ∀ s ∈ l, s.size ≤ 9223372036854775807) : ∀ (d i : Nat) (b : Int), i + d = l.length → 0 ≤ b → b ≤ 1048576 → ∃ r, Ev (fun k => laws_szStringS.l0 k l b (i : Int)) r ∧ (0 ≤ r → r ≤ 1048576 ∧ ∀ s ∈ l.drop i, s.size ≤ 1048576)
  | 0, i, b, hd, h0, hb => by
    refine ⟨b, Ev.succ ?_, fun _ => ⟨hb, fun s h => ?_⟩⟩
    · simp only [laws_szStringS.l0]; exact Ev.neg (by omega) (Ev.now _)
    · rw [List.drop_of_length_le (by omega)] at h; cases h
  | d + 1, i, b, hd, h0, hb => by
    have h1 : i < l.length := by omega
    have h2 := hs _ (List.getElem_mem h1)
    have e : Aside0 (wrap64 (b - (l[i].size : Int)) = b - (l[i].size : Int)) := ⟨w64 (by omega) (by omega)⟩
    by_cases hc : b - (l[i].size : Int) < 0
    · refine ⟨-1, Ev.succ ?_, fun h => by omega⟩
      simp only [laws_szStringS.l0, rdOf_nat l i h1, e.out]
      exact Ev.pos (by omega) (Ev.pos (by omega) (Ev.pos hc (Ev.now _)))
    · obtain ⟨r, hr, hh⟩ := szS_l0 l hl hs d (i + 1) (b - (l[i].size : Int)) (by omega) (by omega) (by omega)
      refine ⟨r, Ev.succ ?_, fun h => ⟨(hh h).1, fun s hm => ?_⟩⟩
      · simp only [laws_szStringS.l0, rdOf_nat l i h1, e.out, w1 (show 0 ≤ (i : Int) by omega) (show (i : Int) < 9223372036854775807 by omega)]
        exact Ev.pos (by omega) (Ev.pos (by omega) (Ev.neg hc hr))
      · rw [List.drop_eq_getElem_cons h1] at hm
        rcases List.mem_cons.1 hm with rfl | hm
        · omega
        · exact (hh h).2 s hm
theorem szS_ev (l : List ByteArray) (hl : l.length ≤ maxLen) (hs : ∀ s ∈ l, s.size ≤ maxLen) : ∃ r, Ev (fun k => laws_szStringS.f k l 1048576) r ∧ (0 ≤ r → l.length ≤ 1048576 ∧ r ≤ 1048576 ∧ ∀ s ∈ l, s.size ≤ 1048576) := by
  have hm := maxLen_le
  have e : Aside0 (wrap64 (1048576 - (l.length : Int)) = 1048576 - (l.length : Int)) := ⟨w64 (by omega) (by omega)⟩
  unfold laws_szStringS.f
  rw [e.out]
  by_cases hc : 1048576 - (l.length : Int) < 0
  · exact ⟨-1, Ev.pos hc (Ev.now _), fun h => by omega⟩
  · obtain ⟨r, hr, hh⟩ := szS_l0 l (by omega) (fun s h => Nat.le_trans (hs s h) hm) l.length 0 (1048576 - (l.length : Int)) (by omega) (by omega) (by omega)
    exact ⟨r, Ev.neg hc hr, fun h => ⟨by omega, (hh h).1, by simpa using (hh h).2⟩⟩
theorem toS_l0 (l : List ByteArray) (hl : l.length ≤ 1048576) : ∀ (d i : Nat) (xs : List ByteArray), i + d = l.length → xs.length = l.length → xs.take i = l.take i → Ev (fun k => laws_toStringS.l0 k l xs (i : Int)) l
  | 0, i, xs, hd, hx, ht => by
    refine Ev.step (f := fun _ => some xs) (fun k => ?_) (Ev.pure ?_)
    · simp only [laws_toStringS.l0]; rw [if_neg (by omega)]
    · rw [List.take_of_length_le (by omega), List.take_of_length_le (by omega)] at ht; exact ht
  | d + 1, i, xs, hd, hx, ht => by
    refine Ev.step (f := fun k => laws_toStringS.l0 k l (xs.set i (rdOf ByteArray.empty l i)) ((i + 1 : Nat) : Int)) (fun k => ?_) (toS_l0 l hl d (i + 1) _ (by omega) (by simp [hx]) ?_)
    · simp only [laws_toStringS.l0]; rw [if_pos (by omega), if_pos (by omega), if_pos (by omega), w1 (by omega) (by omega)]; simp
    · have h1 : i < l.length := by omega
      have h2 : i < (xs.set i (rdOf ByteArray.empty l i)).length := by simp; omega
      have e := rdOf_nat l i h1
      rw [List.take_succ_eq_append_getElem h2, List.take_succ_eq_append_getElem h1, List.take_set, List.set_eq_of_length_le (by simp; omega), ht]
      simp [e]
theorem toS_ev (l : List ByteArray) (hl : l.length ≤ 1048576) : Ev (fun k => laws_toStringS.f k l) l := by
  unfold laws_toStringS.f
  refine Ev.pos (by omega) (Ev.pos (by omega) ?_)
  have h := toS_l0 l hl l.length 0 (List.replicate l.length ⟨#[]⟩) (by omega) (by simp) (by simp)
  simpa using h
theorem eqS_l0 (l : List ByteArray) (hl : l.length ≤ 1048576) : ∀ (d i : Nat), i + d = l.length → Ev (fun k => laws_eqStringS.l0 k l l (i : Int)) true
  | 0, i, hd => Ev.step (f := fun _ => some true) (fun k => by simp only [laws_eqStringS.l0]; rw [if_neg (by omega)]) (Ev.now _)
  | d + 1, i, hd => by
    refine Ev.step (f := fun k => laws_eqStringS.l0 k l l ((i + 1 : Nat) : Int)) (fun k => ?_) (eqS_l0 l hl d (i + 1) (by omega))
    simp only [laws_eqStringS.l0]; rw [if_pos (by omega), if_pos (by omega), if_pos (by omega), if_pos trivial, w1 (by omega) (by omega)]; simp
theorem eqS_ev (l : List ByteArray) (hl : l.length ≤ 1048576) : Ev (fun k => laws_eqStringS.f k l l) true := by
  unfold laws_eqStringS.f
  exact Ev.pos rfl (by simpa using eqS_l0 l hl l.length 0 (by omega))


theorem strOfNums_one (x : Int) : (strOfNums [x]).size = 1 := by simp [strOfNums, ByteArray.size]
theorem markText_l0 : ∀ (d n : Nat) (s : ByteArray), n < 10 ^ d → n < 4611686018427387904 → s.size + d ≤ 1000 → ∃ t, Ev (fun k => laws_markText.l0 k (n : Int) s) t
  | 0, n, s, hn, _, hs => by
    refine ⟨(⟨#[109]⟩ : ByteArray) ++ s, Ev.succ ?_⟩
    simp only [laws_markText.l0]
    exact Ev.neg (by omega) (Ev.pos (by omega) (Ev.now _))
  | d + 1, n, s, hn, hb, hs => by
    by_cases h0 : n = 0
    · refine ⟨(⟨#[109]⟩ : ByteArray) ++ s, Ev.succ ?_⟩
      simp only [laws_markText.l0]
      exact Ev.neg (by omega) (Ev.pos (by omega) (Ev.now _))
    · have e0 : (strOfNums [(wrap64 (48 + (Int.tmod (n : Int) 10))) % 256]).size = 1 := strOfNums_one _
      have hq : n / 10 < 10 ^ d := by rw [Nat.pow_succ] at hn; omega
      obtain ⟨t, ht⟩ := markText_l0 d (n / 10) (strOfNums [(wrap64 (48 + (Int.tmod (n : Int) 10))) % 256] ++ s) hq (by omega) (by rw [ByteArray.size_append, e0]; omega)
      have e2 : Aside0 (wrap64 (Int.tdiv (n : Int) 10) = ((n / 10 : Nat) : Int)) := ⟨by
        rw [show (10 : Int) = ((10 : Nat) : Int) from rfl, ← Int.ofNat_tdiv]; exact w64 (by omega) (by omega)⟩
      refine ⟨t, Ev.succ ?_⟩
      simp only [laws_markText.l0, e2.out]
      exact Ev.pos (by omega) (Ev.known (fun _ => rfl) (Ev.pos (by rw [e0]; omega) ht))
theorem marks : ∃ mt : Nat → ByteArray, ∀ n : Nat, n ≤ 1048577 → Ev (fun k => laws_markText.f k (n : Int)) (mt n) := by
  have h : ∀ n : Nat, ∃ t, n ≤ 1048577 → Ev (fun k => laws_markText.f k (n : Int)) t := by
    intro n
    by_cases hn : n ≤ 1048577
    · by_cases h0 : n = 0
      · exact ⟨_, fun _ => Ev.pos (by omega) (Ev.now _)⟩
      · obtain ⟨t, ht⟩ := markText_l0 7 n ⟨#[]⟩ (by omega) (by omega) (by decide)
        exact ⟨t, fun _ => Ev.neg (by omega) ht⟩
    · exact ⟨ByteArray.empty, fun h => absurd h hn⟩
  exact ⟨fun n => (h n).choose, fun n hn => (h n).choose_spec hn⟩
/-- n texts, all different -/
def marked (mt : Nat → ByteArray) (n : Nat) : List ByteArray := (List.range n).map fun j => mt (j + 1)
theorem marked_length (mt : Nat → ByteArray) (n : Nat) : (marked mt n).length = n := by simp [marked]
theorem markS_l0 (mt : Nat → ByteArray) (hmt : ∀ n : Nat, n ≤ 1048577 → Ev (fun k => laws_markText.f k (n : Int)) (mt n)) (n : Nat) (hn : n ≤ 1048576) : ∀ (d i : Nat) (xs : List ByteArray), i + d = n → xs.length = n → xs.take i = (marked mt n).take i → Ev (fun k => laws_markStringS.l0 k xs ((i + 1 : Nat) : Int) (i : Int)) (((n + 1 : Nat) : Int), marked mt n)
  | 0, i, xs, hd, hx, ht => by
    refine Ev.succ ?_
    simp only [laws_markStringS.l0]
    refine Ev.neg (by omega) (Ev.pure ?_)
    have := marked_length mt n
    rw [List.take_of_length_le (by omega), List.take_of_length_le (by omega)] at ht
    rw [ht, show i = n by omega]
  | d + 1, i, xs, hd, hx, ht => by
    have hlen := marked_length mt n
    have h1 : i < (marked mt n).length := by omega
    have ih := markS_l0 mt hmt n hn d (i + 1) (xs.set i (mt (i + 1))) (by omega) (by simp [hx]) (by
      have h2 : i < (xs.set i (mt (i + 1))).length := by simp; omega
      rw [List.take_succ_eq_append_getElem h2, List.take_succ_eq_append_getElem h1, List.take_set, List.set_eq_of_length_le (by simp; omega), ht]
      simp [marked])
    refine Ev.succ ?_
    simp only [laws_markStringS.l0, w1 (show 0 ≤ (i : Int) by omega) (show (i : Int) < 9223372036854775807 by omega), w1 (show 0 ≤ ((i + 1 : Nat) : Int) by omega) (show ((i + 1 : Nat) : Int) < 9223372036854775807 by omega)]
    exact Ev.pos (by omega) (Ev.bind (hmt (i + 1) (by omega)) (Ev.pos (by omega) ih))
theorem markS_ev {mt : Nat → ByteArray} (hmt : ∀ n : Nat, n ≤ 1048577 → Ev (fun k => laws_markText.f k (n : Int)) (mt n)) (xs : List ByteArray) (hn : xs.length ≤ 1048576) : Ev (fun k => laws_markStringS.f k xs 1) (((xs.length + 1 : Nat) : Int), marked mt xs.length) :=
  markS_l0 mt hmt xs.length hn xs.length 0 xs (by omega) rfl rfl

theorem heldS_l0 (mt : Nat → ByteArray) (hmt : ∀ n : Nat, n ≤ 1048577 → Ev (fun k => laws_markText.f k (n : Int)) (mt n)) (n : Nat) (hn : n ≤ 1048576) : ∀ (d i : Nat), i + d = n → Ev (fun k => laws_heldStringS.l0 k (marked mt n) ((i + 1 : Nat) : Int) (i : Int)) ((n + 1 : Nat) : Int)
  | 0, i, hd => by
    have hlen := marked_length mt n
    refine Ev.succ ?_
    simp only [laws_heldStringS.l0]
    exact Ev.neg (by omega) (Ev.pure (by rw [show i = n by omega]))
  | d + 1, i, hd => by
    have hlen := marked_length mt n
    have h1 : i < (marked mt n).length := by omega
    have ih := heldS_l0 mt hmt n hn d (i + 1) (by omega)
    refine Ev.succ ?_
    simp only [laws_heldStringS.l0, rdOf_nat _ i h1, w1 (show 0 ≤ (i : Int) by omega) (show (i : Int) < 9223372036854775807 by omega), w1 (show 0 ≤ ((i + 1 : Nat) : Int) by omega) (show ((i + 1 : Nat) : Int) < 9223372036854775807 by omega)]
    exact Ev.pos (by omega) (Ev.pos (by omega) (Ev.bind (hmt (i + 1) (by omega)) (Ev.pos (by simp [marked]) ih)))
theorem heldS_ev {mt : Nat → ByteArray} (hmt : ∀ n : Nat, n ≤ 1048577 → Ev (fun k => laws_markText.f k (n : Int)) (mt n)) (n : Nat) (hn : n ≤ 1048576) : Ev (fun k => laws_heldStringS.f k (marked mt n) 1) ((n + 1 : Nat) : Int) :=
  heldS_l0 mt hmt n hn n 0 (by omega)

theorem spec_in (a b c : Int) : spec_l1In.f a b c = some (decide (b ≤ a ∧ a ≤ c)) := by
  unfold spec_l1In.f
  by_cases h : a ≥ b
  · rw [if_pos h]; simp [h]
  · rw [if_neg h]; simp; omega

theorem impl_in_eq (a b c : Int) : impl_in.f a b c = some (decide (b ≤ a ∧ a ≤ c)) := by
  unfold impl_in.f
  by_cases h : b ≤ a
  · rw [if_pos h]; simp [h]
  · rw [if_neg h]; simp [h]

theorem bt_nat (s : ByteArray) (i : Nat) (h : i < s.data.toList.length) : bt s (i : Int) = ((s.data.toList[i]).toNat : Int) := by
  have h' : i < s.size := by have e : s.size = s.data.toList.length := Array.length_toList.symm; omega
  unfold bt
  rw [dif_pos (show (i : Int).toNat < s.size by simpa using h')]
  simp [ByteArray.getElem_eq_getElem_data]
theorem size_data (s : ByteArray) : s.size = s.data.toList.length := Array.length_toList.symm
theorem letter_test (c : UInt8) : ((c.toNat : Int) < 97 ∨ ((c.toNat : Int) - 97) % 256 ≥ 3) ↔ isLetter c = false := by
  have := c.toNat_lt
  unfold isLetter
  rw [decide_eq_false_iff_not]
  omega
theorem wdIs_l0 (s : ByteArray) (hs : s.size < 4611686018427387904) : ∀ (d i : Nat), i + d = s.data.toList.length → Ev (fun k => spec_wdIs.l0 k s (i : Int)) ((s.data.toList.drop i).all isLetter)
  | 0, i, hd => by
    refine Ev.succ ?_
    simp only [spec_wdIs.l0]
    exact Ev.neg (by rw [size_data]; omega) (Ev.pure (by rw [List.drop_of_length_le (by omega)]; rfl))
  | d + 1, i, hd => by
    have h1 : i < s.data.toList.length := by omega
    have ih := wdIs_l0 s hs d (i + 1) (by omega)
    have ht := letter_test s.data.toList[i]
    have hsz := size_data s
    rw [List.drop_eq_getElem_cons h1, List.all_cons]
    refine Ev.succ ?_
    simp only [spec_wdIs.l0, bt_nat s i h1, w1 (show 0 ≤ (i : Int) by omega) (show (i : Int) < 9223372036854775807 by omega)]
    refine Ev.pos (by omega) (Ev.pos (by omega) (Ev.cases (fun h => ?_) (fun h => Ev.cases (fun h' => ?_) (fun h' => ?_))))
    · rw [ht.1 (Or.inl h)]; exact Ev.now _
    · rw [ht.1 (Or.inr h')]; exact Ev.now _
    · have : isLetter s.data.toList[i] = true := by
        cases hl : isLetter s.data.toList[i]
        · exact absurd (ht.2 hl) (by omega)
        · rfl
      rw [this, Bool.true_and]; exact ih
theorem wdIs_ev (s : ByteArray) (hs : s.size < 4611686018427387904) : Ev (fun k => spec_wdIs.f k s) (s.data.toList.all isLetter) := by
  have h := wdIs_l0 s hs s.data.toList.length 0 (by omega)
  simpa [spec_wdIs.f] using h

theorem wdGood_ev (s : ByteArray) : Ev (fun k => spec_wdGood.f k s) (decide (s.size ≤ 60) && s.data.toList.all isLetter) := by
  unfold spec_wdGood.f
  refine Ev.cases (fun h => ?_) (fun h => ?_)
  · rw [decide_eq_true (show s.size ≤ 60 by omega), Bool.true_and]
    exact Ev.bind (wdIs_ev s (by omega)) (Ev.now _)
  · rw [decide_eq_false (show ¬ s.size ≤ 60 by omega), Bool.false_and]
    exact Ev.now _

/-- a word of a set -/
def short (s : ByteArray) : Bool := decide (1 ≤ s.size ∧ s.size ≤ 8) && s.data.toList.all isLetter
theorem wdShort_ev (s : ByteArray) : Ev (fun k => spec_wdShort.f k s) (short s) := by
  unfold spec_wdShort.f short
  refine Ev.known (fun _ => spec_in _ _ _) (Ev.cases (fun h => ?_) (fun h => ?_))
  · have h' := of_decide_eq_true h
    rw [decide_eq_true (show 1 ≤ s.size ∧ s.size ≤ 8 by omega), Bool.true_and]
    exact Ev.bind (wdIs_ev s (by omega)) (Ev.now _)
  · rw [decide_eq_false (show ¬ (1 ≤ s.size ∧ s.size ≤ 8) by intro hh; exact h (decide_eq_true (by omega))), Bool.false_and]
    exact Ev.now _
theorem isShort_eq (s : ByteArray) : impl_isShort.f s = some (short s) := by
  unfold impl_isShort.f impl_isWord.f short
  by_cases h : 1 ≤ s.size ∧ s.size ≤ 8
  · rw [decide_eq_true h, decide_eq_true (show s.size ≤ 60 by omega)]
    cases s.data.toList.all isLetter
    · rfl
    · simp [impl_in_eq]; omega
  · rw [decide_eq_false h]
    cases (decide (s.size ≤ 60) && s.data.toList.all isLetter)
    · rfl
    · simp [impl_in_eq]; omega
theorem bytesLess_cmp : ∀ (x y : List UInt8), Op.bytesLess x y = decide (Lib.compareBytes x y < 0)
  | [], [] => by simp [Op.bytesLess, Lib.compareBytes]
  | _ :: _, [] => by simp [Op.bytesLess, Lib.compareBytes]
  | [], _ :: _ => by simp [Op.bytesLess, Lib.compareBytes]
  | a :: x, b :: y => by
    rw [Op.bytesLess, bytesLess_cmp x y, Lib.compareBytes]
    by_cases h1 : a < b
    · simp [h1]
    · by_cases h2 : b < a
      · have : (a == b) = false := by
          rw [beq_eq_false_iff_ne]; rintro rfl; exact h1 h2
        simp [h1, h2, this]
      · have : a = b := by
          have h1' : ¬ a.toNat < b.toNat := h1
          have h2' : ¬ b.toNat < a.toNat := h2
          exact UInt8.toNat_inj.1 (by omega)
        subst this; simp [h1]
theorem bytesLess_irrefl : ∀ (x : List UInt8), Op.bytesLess x x = false
  | [] => rfl
  | a :: x => by rw [Op.bytesLess, bytesLess_irrefl x]; simp
theorem bytesLess_trans : ∀ (x y z : List UInt8), Op.bytesLess x y = true → Op.bytesLess y z = true → Op.bytesLess x z = true
  | _, [], _ => by simp [Op.bytesLess]
  | _, _ :: _, [] => by simp [Op.bytesLess]
  | [], _ :: _, _ :: _ => by simp [Op.bytesLess]
  | a :: x, b :: y, c :: z => by
    have ih := bytesLess_trans x y z
    simp only [Op.bytesLess, Bool.or_eq_true, decide_eq_true_eq, Bool.and_eq_true, beq_iff_eq]
    intro h1 h2
    rcases h1 with h1 | ⟨rfl, h1⟩
    · rcases h2 with h2 | ⟨rfl, h2⟩
      · exact Or.inl (UInt8.lt_trans h1 h2)
      · exact Or.inl h1
    · rcases h2 with h2 | ⟨rfl, h2⟩
      · exact Or.inl h2
      · exact Or.inr ⟨rfl, ih h1 h2⟩
/-- the order of words: by length, then by letters -/
def wless (a b : ByteArray) : Bool := decide (a.size < b.size) || (decide (a.size = b.size) && Op.bytesLess a.data.toList b.data.toList)
theorem wless_irrefl (a : ByteArray) : wless a a = false := by unfold wless; rw [bytesLess_irrefl]; simp
theorem wless_trans (a b c : ByteArray) (h1 : wless a b = true) (h2 : wless b c = true) : wless a c = true := by
  unfold wless at *
  simp only [Bool.or_eq_true, decide_eq_true_eq, Bool.and_eq_true] at *
  rcases h1 with h1 | ⟨h1, g1⟩ <;> rcases h2 with h2 | ⟨h2, g2⟩
  · left; omega
  · left; omega
  · left; omega
  · exact Or.inr ⟨by omega, bytesLess_trans _ _ _ g1 g2⟩
theorem wdLess_eq (a b : ByteArray) : spec_wdLess.f a b = some (wless a b) := by
  unfold spec_wdLess.f wless
  by_cases h : a.size < b.size
  · rw [if_pos (by omega)]; simp [h]
  · rw [if_neg (by omega)]
    by_cases h' : a.size = b.size
    · rw [if_pos (by omega)]; simp [h', ByteArray.toList_eq]
    · rw [if_neg (by omega)]; simp [h, h']
theorem or2 (a b : Int) : Ev (fun k => cmp_Or_int.f k [a, b]) (if a = 0 then b else a) := by
  refine ⟨3, fun k hk => ?_⟩
  obtain ⟨k, rfl⟩ : ∃ m, k = m + 3 := ⟨k - 3, by omega⟩
  by_cases ha : a = 0 <;> by_cases hb : b = 0 <;> simp [cmp_Or_int.f, cmp_Or_int.l0, rd, wrap64, ha, hb]
theorem compareWords_ev (a b : ByteArray) : ∃ c, Ev (fun k => impl_compareWords.f k a b) c ∧ wless a b = decide (c < 0) := by
  have hn : ∀ x : Int, cmp_isNaN_int.f x = some false := fun x => by simp [cmp_isNaN_int.f]
  have hc : cmp_Compare_int.f (a.size : Int) (b.size : Int) = some (if a.size < b.size then -1 else if b.size < a.size then 1 else 0) := by
    unfold cmp_Compare_int.f
    simp only [hn, Option.bind_some]
    rw [if_neg (by simp), if_neg (by simp)]
    by_cases h1 : a.size < b.size
    · rw [if_pos (by omega), if_pos h1]
    · rw [if_neg (by omega), if_neg h1]
      by_cases h2 : b.size < a.size
      · rw [if_pos (by omega), if_pos h2]
      · rw [if_neg (by omega), if_neg h2]
  refine ⟨_, Ev.known (fun _ => hc) (Ev.known (fun _ => rfl) (Ev.bind (or2 _ _) (Ev.now _))), ?_⟩
  unfold wless
  rw [bytesLess_cmp]
  by_cases h1 : a.size < b.size
  · simp [h1]
  · by_cases h2 : b.size < a.size
    · rw [if_neg h1, if_pos h2]; simp [h1, show ¬ a.size = b.size by omega]
    · rw [if_neg h1, if_neg h2]; simp [h1, show a.size = b.size by omega]
/-- a set: words of the right size, one by one in order -/
def SetUpto (l : List ByteArray) (i : Nat) : Prop := ∀ (j : Nat) (h : j < l.length), i ≤ j → short l[j] = true ∧ (0 < j → wless l[j - 1] l[j] = true)
theorem set_l0 (l : List ByteArray) (hl : l.length ≤ 1048576) : ∀ (d i : Nat), i + d = l.length → ∃ b, Ev (fun k => spec_wdSet.l0 k l l (l.length : Int) (i : Int)) b ∧ Ev (fun k => impl_isSet.l0 k l l (l.length : Int) (i : Int)) (b && decide (l.length ≤ 12)) ∧ (b = true → SetUpto l i)
  | 0, i, hd => by
    refine ⟨true, Ev.succ ?_, Ev.succ ?_, fun _ j h hj => by omega⟩
    · simp only [spec_wdSet.l0]; exact Ev.neg (by omega) (Ev.now _)
    · simp only [impl_isSet.l0]; refine Ev.neg (by omega) (Ev.pure ?_); rw [Bool.true_and]; exact decide_eq_decide.2 (by omega)
  | d + 1, i, hd => by
    have h1 : i < l.length := by omega
    obtain ⟨b, e1, e2, hb⟩ := set_l0 l hl d (i + 1) (by omega)
    have s1 := wdShort_ev l[i]
    have s2 := isShort_eq l[i]
    cases hs : short l[i]
    · rw [hs] at s1 s2
      refine ⟨false, Ev.succ ?_, Ev.succ ?_, fun h => by cases h⟩
      · simp only [spec_wdSet.l0, rdOf_nat l i h1]
        exact Ev.pos (by omega) (Ev.pos (by omega) (Ev.pos (by omega) (Ev.bind s1 (Ev.neg (by simp) (Ev.now _)))))
      · simp only [impl_isSet.l0, rdOf_nat l i h1]
        exact Ev.pos (by omega) (Ev.pos (by omega) (Ev.pos (by omega) (Ev.known (fun _ => s2) (Ev.neg (by simp) (Ev.now _)))))
    · rw [hs] at s1 s2
      by_cases h0 : i = 0
      · refine ⟨b, Ev.succ ?_, Ev.succ ?_, fun h j hj hij => ?_⟩
        · simp only [spec_wdSet.l0, rdOf_nat l i h1, w1 (show 0 ≤ (i : Int) by omega) (show (i : Int) < 9223372036854775807 by omega)]
          exact Ev.pos (by omega) (Ev.pos (by omega) (Ev.pos (by omega) (Ev.bind s1 (Ev.pos rfl (Ev.neg (by omega) e1)))))
        · simp only [impl_isSet.l0, rdOf_nat l i h1, w1 (show 0 ≤ (i : Int) by omega) (show (i : Int) < 9223372036854775807 by omega)]
          exact Ev.pos (by omega) (Ev.pos (by omega) (Ev.pos (by omega) (Ev.known (fun _ => s2) (Ev.pos rfl (Ev.neg (by omega) e2)))))
        · by_cases he : i = j
          · subst he; exact ⟨hs, fun h => by omega⟩
          · exact hb h j hj (by omega)
      · obtain ⟨c, hc, hw⟩ := compareWords_ev l[i - 1] l[i]
        have e3 : Aside0 (wrap64 ((i : Int) - 1) = ((i - 1 : Nat) : Int)) := ⟨by rw [w64 (by omega) (by omega)]; omega⟩
        have l1 := wdLess_eq l[i - 1] l[i]
        refine ⟨wless l[i - 1] l[i] && b, Ev.succ ?_, Ev.succ ?_, fun h j hj hij => ?_⟩
        · simp only [spec_wdSet.l0, rdOf_nat l i h1, e3.out, rdOf_nat l (i - 1) (by omega), w1 (show 0 ≤ (i : Int) by omega) (show (i : Int) < 9223372036854775807 by omega)]
          refine Ev.pos (by omega) (Ev.pos (by omega) (Ev.pos (by omega) (Ev.bind s1 (Ev.pos rfl (Ev.pos (by omega) (Ev.pos (by omega) (Ev.pos (by omega) (Ev.known (fun _ => l1) (Ev.cases (fun h => ?_) (fun h => ?_))))))))))
          · rw [h, Bool.true_and]; exact e1
          · rw [Bool.eq_false_iff.mpr h, Bool.false_and]; exact Ev.now _
        · simp only [impl_isSet.l0, rdOf_nat l i h1, e3.out, rdOf_nat l (i - 1) (by omega), w1 (show 0 ≤ (i : Int) by omega) (show (i : Int) < 9223372036854775807 by omega)]
          refine Ev.pos (by omega) (Ev.pos (by omega) (Ev.pos (by omega) (Ev.known (fun _ => s2) (Ev.pos rfl (Ev.pos (by omega) (Ev.pos (by omega) (Ev.pos (by omega) (Ev.bind hc (Ev.cases (fun h => ?_) (fun h => ?_))))))))))
          · rw [hw, decide_eq_false (by omega)]; exact Ev.now _
          · rw [hw, decide_eq_true (by omega)]; exact e2
        · simp only [Bool.and_eq_true] at h
          by_cases he : i = j
          · subst he; exact ⟨hs, fun _ => h.1⟩
          · exact hb h.2 j hj (by omega)
/-- what a set is -/
structure IsSet (l : List ByteArray) : Prop where
  few : l.length ≤ 12
  each : SetUpto l 0
theorem isSet_same (l : List ByteArray) (hl : l.length ≤ 1048576) : ∃ b, Ev (fun k => spec_wdSet.f k l) b ∧ Ev (fun k => impl_isSet.f k l) b ∧ (b = true → IsSet l) := by
  obtain ⟨b, h1, h2, hb⟩ := set_l0 l hl l.length 0 (by omega)
  unfold spec_wdSet.f impl_isSet.f
  by_cases h12 : l.length ≤ 12
  · rw [decide_eq_true h12, Bool.and_true] at h2
    exact ⟨b, Ev.neg (by omega) h1, h2, fun h => ⟨h12, hb h⟩⟩
  · rw [decide_eq_false h12, Bool.and_false] at h2
    exact ⟨false, Ev.pos (by omega) (Ev.now _), h2, fun h => by cases h⟩
theorem IsSet.lt {l : List ByteArray} (h : IsSet l) : ∀ (j i : Nat) (hj : j < l.length) (hi : i < j), wless l[i] l[j] = true
  | 0, i, hj, hi => by omega
  | j + 1, i, hj, hi => by
    have h1 := (h.each (j + 1) hj (by omega)).2 (by omega)
    by_cases e : i = j
    · subst e; exact h1
    · exact wless_trans _ _ _ (h.lt j i (by omega) (by omega)) h1
theorem IsSet.short {l : List ByteArray} (h : IsSet l) (w : ByteArray) (hw : w ∈ l) : Pure.short w = true := by
  obtain ⟨i, hi, rfl⟩ := List.getElem_of_mem hw
  exact (h.each i hi (by omega)).1
theorem IsSet.size {l : List ByteArray} (h : IsSet l) (w : ByteArray) (hw : w ∈ l) : 1 ≤ w.size ∧ w.size ≤ 8 := by
  have := h.short w hw
  unfold Pure.short at this
  simp only [Bool.and_eq_true, decide_eq_true_eq] at this
  exact this.1

/-- a text's letters -/
abbrev ch (s : ByteArray) : List UInt8 := s.data.toList
theorem ch_length (s : ByteArray) : (ch s).length = s.size := Array.length_toList
theorem ch_extract (s : ByteArray) (a b : Nat) : ch (s.extract a b) = ((ch s).drop a).take (b - a) := by
  simp [ch, ByteArray.data_extract, Array.toList_extract, List.extract_eq_take_drop]
theorem ch_drop (s : ByteArray) (a : Nat) : ch (s.extract a s.size) = (ch s).drop a := by
  rw [ch_extract, List.take_of_length_le]; simp only [List.length_drop, ch_length]; omega
theorem begins_test (a w : ByteArray) (h : w.size ≤ a.size) : ((a.extract 0 w.size).toList == w.toList) = (ch w).isPrefixOf (ch a) := by
  rw [ByteArray.toList_eq, ByteArray.toList_eq]
  change (ch (a.extract 0 w.size) == ch w) = _
  rw [ch_extract, List.drop_zero, Nat.sub_zero, ← ch_length w, Bool.eq_iff_iff, beq_iff_eq, List.isPrefixOf_iff_prefix, List.prefix_iff_eq_take]
  exact eq_comm
theorem prefix_long (a w : ByteArray) (h : ¬ w.size ≤ a.size) : (ch w).isPrefixOf (ch a) = false := by
  rw [Bool.eq_false_iff]
  intro hp
  have := (List.isPrefixOf_iff_prefix.1 hp).length_le
  rw [ch_length, ch_length] at this
  exact h this
theorem toList_ch (s : ByteArray) : s.toList = ch s := ByteArray.toList_eq s
theorem chNe (l : List ByteArray) (hne : ∀ w ∈ l, 1 ≤ w.size) : ∀ t ∈ l.map ch, t ≠ [] := fun t ht => by
  obtain ⟨w, hw, rfl⟩ := List.mem_map.1 ht
  intro e; have := hne w hw; have := ch_length w; rw [e] at this; simp at this; omega

theorem wdBegins_eq (a w : ByteArray) : spec_wdBegins.f a w = some ((ch w).isPrefixOf (ch a)) := by
  unfold spec_wdBegins.f
  by_cases h : w.size ≤ a.size
  · rw [if_pos (by omega), if_pos (by omega), begins_test a w h]
  · rw [if_neg (by omega), prefix_long a w h]

theorem hasPrefix_eq (a w : ByteArray) : strings_HasPrefix.f a w = some ((ch w).isPrefixOf (ch a)) := by
  unfold strings_HasPrefix.f stringslite_HasPrefix.f
  by_cases h : w.size ≤ a.size
  · rw [if_pos (by omega), if_pos (by omega), if_pos (by omega), begins_test a w h]; rfl
  · rw [if_neg (by omega), prefix_long a w h]; rfl

/-- whether a text is the beginning of words put behind each other, with so many steps -/
def begN (W : List (List UInt8)) : Nat → List UInt8 → Bool
  | _, [] => true
  | 0, _ :: _ => false
  | n + 1, c :: s => W.any fun t => (c :: s).isPrefixOf t || (t.isPrefixOf (c :: s) && begN W n ((c :: s).drop t.length))
theorem begN_more (W : List (List UInt8)) (hW : ∀ t ∈ W, t ≠ []) : ∀ (n m : Nat) (s : List UInt8), s.length ≤ n → s.length ≤ m → begN W n s = begN W m s
  | n, m, [], _, _ => by cases n <;> cases m <;> rfl
  | 0, _, c :: s, h, _ => by simp at h
  | _ + 1, 0, c :: s, _, h => by simp at h
  | n + 1, m + 1, c :: s, h1, h2 => by
    simp only [begN]
    have hany : ∀ V : List (List UInt8), (∀ t ∈ V, t ≠ []) → (V.any fun t => (c :: s).isPrefixOf t || (t.isPrefixOf (c :: s) && begN W n ((c :: s).drop t.length))) = (V.any fun t => (c :: s).isPrefixOf t || (t.isPrefixOf (c :: s) && begN W m ((c :: s).drop t.length))) := by
      intro V hV
      induction V with
      | nil => rfl
      | cons t V ih =>
        have ht := hV t (by simp)
        have hl : 0 < t.length := List.length_pos_iff.2 ht
        rw [List.any_cons, List.any_cons, ih (fun u hu => hV u (by simp [hu]))]
        rw [begN_more W hW n m ((c :: s).drop t.length) (by simp only [List.length_drop, List.length_cons] at *; omega) (by simp only [List.length_drop, List.length_cons] at *; omega)]
    exact hany W hW
/-- whether a text is the beginning of words put behind each other -/
def bg (W : List (List UInt8)) (s : List UInt8) : Bool := begN W s.length s
theorem bg_nil (W : List (List UInt8)) : bg W [] = true := rfl
theorem bg_ne (W : List (List UInt8)) (hW : ∀ t ∈ W, t ≠ []) (s : List UInt8) (hs : s ≠ []) : bg W s = W.any fun t => s.isPrefixOf t || (t.isPrefixOf s && bg W (s.drop t.length)) := by
  cases s with
  | nil => exact absurd rfl hs
  | cons c s =>
    unfold bg
    simp only [begN, List.length_cons]
    rw [Bool.eq_iff_iff, List.any_eq_true, List.any_eq_true]
    refine exists_congr fun t => and_congr_right fun ht => ?_
    have hl : 0 < t.length := List.length_pos_iff.2 (hW t ht)
    rw [begN_more W hW s.length ((c :: s).drop t.length).length ((c :: s).drop t.length) (by simp only [List.length_drop, List.length_cons]; omega) (Nat.le_refl _)]
theorem bg_true (W : List (List UInt8)) (hW : ∀ t ∈ W, t ≠ []) (s : List UInt8) : bg W s = true ↔ s = [] ∨ ∃ t ∈ W, s <+: t ∨ (t <+: s ∧ bg W (s.drop t.length) = true) := by
  by_cases hs : s = []
  · subst hs; simp [bg_nil]
  · rw [bg_ne W hW s hs, List.any_eq_true]
    simp only [hs, false_or, Bool.or_eq_true, Bool.and_eq_true, List.isPrefixOf_iff_prefix]
/-- the table of beginnings, place by place -/
theorem begRun_eq (l : List ByteArray) (hne : ∀ w ∈ l, 1 ≤ w.size) (s : ByteArray) : ∀ (k : Nat) (t : List Bool), k ≤ s.size → t.length = s.size + 1 → (∀ j, k ≤ j → j ≤ s.size → t.getD j false = bg (l.map ch) ((ch s).drop j)) → begRun l s k t = (List.range (s.size + 1)).map fun j => bg (l.map ch) ((ch s).drop j)
  | 0, t, _, hl, ht => by
    unfold begRun
    apply List.ext_getElem
    · simp [hl]
    · intro i h1 h2
      have := ht i (Nat.zero_le _) (by omega)
      rw [List.getD_eq_getElem?_getD, List.getElem?_eq_getElem h1] at this
      simpa using this
  | k + 1, t, hk, hl, ht => by
    have hW : ∀ t ∈ l.map ch, t ≠ [] := fun t ht => by
      obtain ⟨w, hw, rfl⟩ := List.mem_map.1 ht
      intro e; have := hne w hw; have := ch_length w; rw [e] at this; simp at this; omega
    have hcs := ch_length s
    rw [begRun]
    refine begRun_eq l hne s k _ (by omega) (by simpa using hl) (fun j h1 h2 => ?_)
    by_cases e : k = j
    · subst e
      rw [List.getD_eq_getElem?_getD, List.getElem?_set_self (by omega), Option.getD_some]
      rw [bg_ne _ hW _ (by intro e; have : ((ch s).drop k).length = 0 := by rw [e]; rfl
                           simp only [List.length_drop] at this; omega)]
      rw [List.any_map]
      rw [Bool.eq_iff_iff, List.any_eq_true, List.any_eq_true]
      refine exists_congr fun w => and_congr_right fun hw => ?_
      unfold begStep
      simp only [Function.comp, Bool.or_eq_true, Bool.and_eq_true]
      refine or_congr_right (and_congr_right fun hp => ?_)
      have hle : (ch w).length ≤ (ch s).length - k := by have := (List.isPrefixOf_iff_prefix.1 hp).length_le; rwa [List.length_drop] at this
      have hcw := ch_length w
      have hw1 := hne w hw
      rw [List.drop_drop, ch_length w, ht (k + w.size) (by omega) (by omega)]
    · rw [List.getD_eq_getElem?_getD, List.getElem?_set_ne e, ← List.getD_eq_getElem?_getD]
      exact ht j (by omega) h2
theorem beginnings_eq (l : List ByteArray) (hne : ∀ w ∈ l, 1 ≤ w.size) (s : ByteArray) (hs : s.size ≤ 1048576) : impl_beginnings.f l s = some ((List.range (s.size + 1)).map fun j => bg (l.map ch) ((ch s).drop j)) := by
  unfold impl_beginnings.f
  rw [if_pos hs, begRun_eq l hne s s.size _ (Nat.le_refl _) (by simp)]
  intro j h1 h2
  obtain rfl : j = s.size := by omega
  rw [List.drop_of_length_le (by rw [ch_length]; exact Nat.le_refl _), bg_nil]
  simp [List.getD_eq_getElem?_getD]
theorem tabB_at (W : List (List UInt8)) (s : ByteArray) (j : Nat) (h : j ≤ s.size) : rdOf false ((List.range (s.size + 1)).map fun j => bg W ((ch s).drop j)) (j : Int) = bg W ((ch s).drop j) := by
  unfold rdOf
  simp [List.getD_eq_getElem?_getD, show j < s.size + 1 by omega]

theorem wdHas_l0 (l : List ByteArray) (s : ByteArray) (hl : l.length ≤ 1048576) : ∀ (d i : Nat), i + d = l.length → Ev (fun k => spec_wdHas.l0 k s l (l.length : Int) (i : Int)) (((l.drop i).map ch).contains (ch s))
  | 0, i, hd => by
    refine Ev.succ ?_
    simp only [spec_wdHas.l0]
    exact Ev.neg (by omega) (Ev.pure (by rw [List.drop_of_length_le (by omega)]; rfl))
  | d + 1, i, hd => by
    have h1 : i < l.length := by omega
    have ih := wdHas_l0 l s hl d (i + 1) (by omega)
    rw [List.drop_eq_getElem_cons h1, List.map_cons, List.contains_cons]
    refine Ev.succ ?_
    simp only [spec_wdHas.l0, rdOf_nat l i h1, toList_ch, w1 (show 0 ≤ (i : Int) by omega) (show (i : Int) < 9223372036854775807 by omega)]
    refine Ev.pos (by omega) (Ev.pos (by omega) (Ev.pos (by omega) (Ev.cases (fun h => ?_) (fun h => ?_))))
    · rw [h]; simp only [BEq.rfl, Bool.true_or]; exact Ev.now _
    · rw [show (ch s == ch l[i]) = false by rw [beq_eq_false_iff_ne]; exact h, Bool.false_or]; exact ih
theorem wdHas_ev (l : List ByteArray) (s : ByteArray) (hl : l.length ≤ 1048576) : Ev (fun k => spec_wdHas.f k l s) ((l.map ch).contains (ch s)) := by
  have := wdHas_l0 l s hl l.length 0 (by omega)
  simpa [spec_wdHas.f] using this

/-- the list of ends that are looked at: what holds of it -/
structure EndsInv (W : List (List UInt8)) (s : List UInt8) (L : List ByteArray) (k : Nat) : Prop where
  sound : ∀ x ∈ L, bg W (ch x) = true → bg W s = true
  first : ∃ x ∈ L, ch x = s
  done : ∀ j (h : j < L.length), j < k → ch L[j] ≠ [] ∧ ∀ t ∈ W, ¬ ch L[j] <+: t ∧ (t <+: ch L[j] → ∃ y ∈ L, ch y = (ch L[j]).drop t.length)
  tail : ∀ x ∈ L, ∃ a, a ≤ s.length ∧ ch x = s.drop a
  once : (L.map ch).Nodup
theorem nodup_le {α : Type} [DecidableEq α] : ∀ (M N : List α), M.Nodup → M ⊆ N → M.length ≤ N.length
  | [], _, _, _ => Nat.zero_le _
  | x :: M, N, hn, hs => by
    have hx : x ∈ N := hs (by simp)
    have hn' := List.nodup_cons.1 hn
    have := nodup_le M (N.erase x) hn'.2 (fun y hy => (List.mem_erase_of_ne (by rintro rfl; exact hn'.1 hy)).2 (hs (by simp [hy])))
    have h1 := List.length_erase_of_mem hx
    have h2 := List.length_pos_of_mem hx
    simp only [List.length_cons]
    omega
theorem tails_few (s : List UInt8) (M : List (List UInt8)) (h : ∀ x ∈ M, ∃ a, a ≤ s.length ∧ x = s.drop a) (hn : M.Nodup) : M.length ≤ s.length + 1 := by
  have hsub : M ⊆ (List.range (s.length + 1)).map fun a => s.drop a := fun x hx => by
    obtain ⟨a, ha, rfl⟩ := h x hx
    exact List.mem_map.2 ⟨a, by simp; omega, rfl⟩
  have := nodup_le _ _ hn hsub
  simpa using this
theorem EndsInv.few {W : List (List UInt8)} {s : List UInt8} {L : List ByteArray} {k : Nat} (h : EndsInv W s L k) : L.length ≤ s.length + 1 := by
  have := tails_few s (L.map ch) (fun x hx => by obtain ⟨y, hy, rfl⟩ := List.mem_map.1 hx; exact h.tail y hy) h.once
  simpa using this
theorem EndsInv.no {W : List (List UInt8)} (hW : ∀ t ∈ W, t ≠ []) {s : List UInt8} {L : List ByteArray} {k : Nat} (h : EndsInv W s L k) (hk : L.length ≤ k) : bg W s = false := by
  have hx : ∀ (n : Nat) (x : ByteArray), x ∈ L → x.size = n → bg W (ch x) = false := by
    intro n
    induction n using Nat.strongRecOn with
    | _ n ih =>
      intro x hx hn
      obtain ⟨j, hj, rfl⟩ := List.getElem_of_mem hx
      obtain ⟨h0, h1⟩ := h.done j hj (by omega)
      rw [Bool.eq_false_iff]
      intro hb
      rcases (bg_true W hW _).1 hb with hb | ⟨t, ht, hb⟩
      · exact h0 hb
      · rcases hb with hb | ⟨hp, hb⟩
        · exact (h1 t ht).1 hb
        · obtain ⟨y, hy, e⟩ := (h1 t ht).2 hp
          have hl : 0 < t.length := List.length_pos_iff.2 (hW t ht)
          have hle := hp.length_le
          have hcy := ch_length y
          have hcx := ch_length L[j]
          rw [e, List.length_drop] at hcy
          have := ih y.size (by omega) y hy rfl
          rw [e, hb] at this; cases this
  obtain ⟨x, hxL, e⟩ := h.first
  rw [← e]; exact hx _ x hxL rfl
theorem EndsInv.yes {W : List (List UInt8)} (hW : ∀ t ∈ W, t ≠ []) {s : List UInt8} {L : List ByteArray} {k : Nat} (h : EndsInv W s L k) {x : ByteArray} (hx : x ∈ L) (hb : bg W (ch x) = true) : bg W s = true := h.sound x hx hb
theorem EndsInv.grow {W : List (List UInt8)} (hW : ∀ t ∈ W, t ≠ []) {s : List UInt8} {L : List ByteArray} {k : Nat} (h : EndsInv W s L k) (hk : k < L.length) {t : List UInt8} (ht : t ∈ W) (hp : t <+: ch L[k]) {y : ByteArray} (hy : ch y = (ch L[k]).drop t.length) (hno : (L.map ch).contains (ch y) = false) : EndsInv W s (L ++ [y]) k where
  sound x hx hb := by
    rcases List.mem_append.1 hx with hx | hx
    · exact h.sound x hx hb
    · obtain rfl := List.mem_singleton.1 hx
      refine h.sound L[k] (List.getElem_mem hk) ((bg_true W hW _).2 (Or.inr ⟨t, ht, Or.inr ⟨hp, ?_⟩⟩))
      rw [← hy]; exact hb
  first := by obtain ⟨x, hx, e⟩ := h.first; exact ⟨x, List.mem_append_left _ hx, e⟩
  done j hj hjk := by
    have hj' : j < L.length := by omega
    rw [List.getElem_append_left hj']
    obtain ⟨h0, h1⟩ := h.done j hj' hjk
    exact ⟨h0, fun u hu => ⟨(h1 u hu).1, fun hpu => by obtain ⟨z, hz, e⟩ := (h1 u hu).2 hpu; exact ⟨z, List.mem_append_left _ hz, e⟩⟩⟩
  tail x hx := by
    rcases List.mem_append.1 hx with hx | hx
    · exact h.tail x hx
    · obtain rfl := List.mem_singleton.1 hx
      obtain ⟨a, ha, e⟩ := h.tail L[k] (List.getElem_mem hk)
      have hle := hp.length_le
      rw [e, List.length_drop] at hle
      exact ⟨a + t.length, by omega, by rw [hy, e, List.drop_drop]⟩
  once := by
    rw [List.map_append, List.nodup_append]
    refine ⟨h.once, by simp, fun a ha b hb => ?_⟩
    simp only [List.map_cons, List.map_nil, List.mem_singleton] at hb
    subst hb
    intro e
    subst e
    rw [List.contains_iff_mem.2 ha] at hno; cases hno
theorem dlIs_same (l : List ByteArray) (hl : l.length ≤ 1048576) (hne : ∀ w ∈ l, 1 ≤ w.size) (s : List UInt8) (hs : s.length ≤ 1000) : ∀ (d k : Nat) (L : List ByteArray), k + d = s.length + 1 → k ≤ L.length → EndsInv (l.map ch) s L k → Ev (fun n => spec_dlIs.l0 n l L (k : Int)) (bg (l.map ch) s) := by
  have hW := chNe l hne
  intro d
  induction d with
  | zero =>
    intro k L hd hk hi
    have := hi.few
    rw [hi.no hW (by omega)]
    refine Ev.succ ?_
    simp only [spec_dlIs.l0]
    exact Ev.neg (by omega) (Ev.now _)
  | succ d ih =>
    intro k L hd hk hi
    have hfew := hi.few
    by_cases hkL : k < L.length
    · refine Ev.succ ?_
      simp only [spec_dlIs.l0, rdOf_nat L k hkL, toList_ch]
      refine Ev.pos (by omega) (Ev.pos (by omega) (Ev.cases (fun h => ?_) (fun h0 => ?_)))
      · rw [hi.yes hW (List.getElem_mem hkL) (by rw [h]; exact bg_nil _)]; exact Ev.now _
      · have inner : ∀ (e i : Nat) (M : List ByteArray), i + e = l.length → (hM : L <+: M) → EndsInv (l.map ch) s M k → (∀ j (h : j < l.length), j < i → ¬ ch L[k] <+: ch l[j] ∧ (ch l[j] <+: ch L[k] → ∃ y ∈ M, ch y = (ch L[k]).drop (ch l[j]).length)) → Ev (fun n => spec_dlIs.l1 n l M (k : Int) l (l.length : Int) (i : Int)) (bg (l.map ch) s) := by
          intro e
          induction e with
          | zero =>
            intro i M he hM hiM hpart
            have hkM : k < M.length := Nat.lt_of_lt_of_le hkL hM.length_le
            have hMk : M[k] = L[k] := (hM.getElem hkL).symm
            refine Ev.succ ?_
            simp only [spec_dlIs.l1, w1 (show 0 ≤ (k : Int) by omega) (show (k : Int) < 9223372036854775807 by omega)]
            refine Ev.neg (by omega) (ih (k + 1) M (by omega) (by omega) ⟨hiM.sound, hiM.first, fun j hj hjk => ?_, hiM.tail, hiM.once⟩)
            by_cases e : j = k
            · subst e
              rw [hMk]
              refine ⟨h0, fun t ht => ?_⟩
              obtain ⟨w, hw, rfl⟩ := List.mem_map.1 ht
              obtain ⟨j', hj', rfl⟩ := List.getElem_of_mem hw
              exact hpart j' hj' (by omega)
            · exact hiM.done j hj (by omega)
          | succ e ihe =>
            intro i M he hM hiM hpart
            have hkM : k < M.length := Nat.lt_of_lt_of_le hkL hM.length_le
            have hMk : M[k] = L[k] := (hM.getElem hkL).symm
            have h1 : i < l.length := by omega
            have hMf := hiM.few
            have hmem : ch l[i] ∈ l.map ch := List.mem_map.2 ⟨_, List.getElem_mem h1, rfl⟩
            refine Ev.succ ?_
            simp only [spec_dlIs.l1, rdOf_nat l i h1, rdOf_nat M k hkM, hMk, Int.toNat_natCast, w1 (show 0 ≤ (i : Int) by omega) (show (i : Int) < 9223372036854775807 by omega)]
            refine Ev.pos (by omega) (Ev.pos (by omega) (Ev.pos (by omega) (Ev.pos (by omega) (Ev.pos (by omega) (Ev.known (fun _ => wdBegins_eq _ _) (Ev.cases (fun hb => ?_) (fun hb => ?_)))))))
            · have hb' := List.isPrefixOf_iff_prefix.1 hb
              rw [hi.yes hW (List.getElem_mem hkL) ((bg_true _ hW _).2 (Or.inr ⟨_, hmem, Or.inl hb'⟩))]
              exact Ev.now _
            · have hb' : ¬ ch L[k] <+: ch l[i] := fun h => hb (List.isPrefixOf_iff_prefix.2 h)
              refine Ev.known (fun _ => wdBegins_eq _ _) (Ev.cases (fun hc => ?_) (fun hc => ?_))
              · have hc' := List.isPrefixOf_iff_prefix.1 hc
                have hle := hc'.length_le
                rw [ch_length, ch_length] at hle
                have hcy := ch_drop L[k] l[i].size
                refine Ev.pos (by omega) (Ev.pos (by omega) (Ev.bind (wdHas_ev M _ (by omega)) (Ev.cases (fun hh => ?_) (fun hh => ?_))))
                · refine ihe (i + 1) M (by omega) hM hiM (fun j hj hji => ?_)
                  by_cases e : j = i
                  · subst e
                    refine ⟨hb', fun _ => ?_⟩
                    obtain ⟨y, hy, e⟩ := List.mem_map.1 (List.contains_iff_mem.1 hh)
                    exact ⟨y, hy, by rw [e, hcy, ch_length]⟩
                  · exact hpart j hj (by omega)
                · have hh' : (M.map ch).contains (ch (L[k].extract l[i].size L[k].size)) = false := by simpa using hh
                  refine Ev.pos (by omega) (ihe (i + 1) _ (by omega) (hM.trans (List.prefix_append _ _)) (hiM.grow hW hkM hmem (by rw [hMk]; exact hc') (by rw [hMk, hcy, ch_length]) hh') (fun j hj hji => ?_))
                  by_cases e : j = i
                  · subst e
                    exact ⟨hb', fun _ => ⟨_, List.mem_append_right _ (List.mem_singleton.2 rfl), by rw [hcy, ch_length]⟩⟩
                  · obtain ⟨p1, p2⟩ := hpart j hj (by omega)
                    exact ⟨p1, fun hq => by obtain ⟨y, hy, e⟩ := p2 hq; exact ⟨y, List.mem_append_left _ hy, e⟩⟩
              · refine ihe (i + 1) M (by omega) hM hiM (fun j hj hji => ?_)
                by_cases e : j = i
                · subst e
                  exact ⟨hb', fun hq => absurd (List.isPrefixOf_iff_prefix.2 hq) hc⟩
                · exact hpart j hj (by omega)
        exact inner l.length 0 L (by omega) (List.prefix_refl _) hi (fun j hj h => by omega)
    · rw [hi.no hW (by omega)]
      refine Ev.succ ?_
      simp only [spec_dlIs.l0]
      exact Ev.neg (by omega) (Ev.now _)
theorem dlIs_ev (l : List ByteArray) (hl : l.length ≤ 1048576) (hne : ∀ w ∈ l, 1 ≤ w.size) (s : ByteArray) (hs : s.size ≤ 1000) : Ev (fun n => spec_dlIs.f n l s) (bg (l.map ch) (ch s)) := by
  have hcs := ch_length s
  refine dlIs_same l hl hne (ch s) (by omega) ((ch s).length + 1) 0 [s] (by omega) (by simp) ⟨?_, ⟨s, by simp, rfl⟩, fun j h hj => by omega, ?_, by simp⟩
  · intro x hx; obtain rfl := List.mem_singleton.1 hx; exact id
  · intro x hx; obtain rfl := List.mem_singleton.1 hx; exact ⟨0, by omega, by simp⟩

theorem dcAsked_ev (l : List ByteArray) (s : ByteArray) {b : Bool} (h : Ev (fun k => spec_wdSet.f k l) b) : Ev (fun k => spec_dcAsked.f k l s) (b && (decide (s.size ≤ 60) && s.data.toList.all isLetter)) := by
  unfold spec_dcAsked.f
  cases b with
  | false => exact Ev.bind h (Ev.neg (by simp) (Ev.now _))
  | true => exact Ev.bind h (Ev.pos rfl (Ev.bind (wdGood_ev s) (Ev.now _)))

theorem wrap_add (a b : Int) : wrap64 (wrap64 a + wrap64 b) = wrap64 (a + b) := by unfold wrap64; omega
theorem wrap_zero : wrap64 0 = 0 := by unfold wrap64; omega
theorem wrap_one : wrap64 1 = 1 := by unfold wrap64; omega
/-- how often a text is written with words -/
def cnt (W : List (List UInt8)) (s : List UInt8) : Nat :=
  if s = [] then 1 else (W.map fun w => if h : w ≠ [] ∧ w.isPrefixOf s = true then cnt W (s.drop w.length) else 0).sum
termination_by s.length
decreasing_by
  have h1 : w.length ≠ 0 := by intro e; exact h.1 (List.eq_nil_of_length_eq_zero e)
  have h2 : w.length ≤ s.length := (List.isPrefixOf_iff_prefix.1 h.2).length_le
  simp only [List.length_drop]
  omega
/-- what one word adds to the count -/
def term (W : List (List UInt8)) (s w : List UInt8) : Nat := if w ≠ [] ∧ w.isPrefixOf s = true then cnt W (s.drop w.length) else 0
theorem cnt_nil (W : List (List UInt8)) : cnt W [] = 1 := by rw [cnt]; simp
theorem cnt_ne (W : List (List UInt8)) (s : List UInt8) (h : s ≠ []) : cnt W s = (W.map (term W s)).sum := by
  rw [cnt, if_neg h]
  rfl
theorem cnt_le (W : List (List UInt8)) (c : Nat) (hc : W.length ≤ c) (h0c : 0 < c) : ∀ (n : Nat) (s : List UInt8), s.length = n → cnt W s ≤ c ^ n := by
  intro n
  induction n using Nat.strongRecOn with
  | _ n ih =>
    intro s hs
    by_cases h0 : s = []
    · subst h0; subst hs; rw [cnt_nil]; simp
    · rw [cnt_ne W s h0]
      have hn : 0 < n := by rw [← hs]; exact List.length_pos_iff.2 h0
      have h1 : ∀ w, term W s w ≤ c ^ (n - 1) := by
        intro w
        unfold term
        by_cases hw : w ≠ [] ∧ w.isPrefixOf s = true
        · rw [if_pos hw]
          have h1 : 0 < w.length := List.length_pos_iff.2 hw.1
          have h2 : w.length ≤ s.length := (List.isPrefixOf_iff_prefix.1 hw.2).length_le
          exact Nat.le_trans (ih _ (by simp only [List.length_drop]; omega) _ rfl) (Nat.pow_le_pow_right h0c (by simp only [List.length_drop]; omega))
        · rw [if_neg hw]; exact Nat.zero_le _
      have h2 : ∀ (V : List (List UInt8)), (V.map (term W s)).sum ≤ V.length * c ^ (n - 1) := by
        intro V
        induction V with
        | nil => simp
        | cons v V ihV => rw [List.map_cons, List.sum_cons, List.length_cons, Nat.succ_mul]; have := h1 v; omega
      calc (W.map (term W s)).sum ≤ W.length * c ^ (n - 1) := h2 W
        _ ≤ c * c ^ (n - 1) := Nat.mul_le_mul_right _ hc
        _ = c ^ n := by rw [Nat.mul_comm, ← Nat.pow_succ]; congr 1; omega

theorem cnt_take (W : List (List UInt8)) (s : List UInt8) (i : Nat) (h : i < W.length) : ((W.take (i + 1)).map (term W s)).sum = ((W.take i).map (term W s)).sum + term W s W[i] := by
  rw [List.take_succ_eq_append_getElem h, List.map_append, List.sum_append]; simp

/-- the program's table while place p is worked at -/
def tabI (W : List (List UInt8)) (s : List UInt8) (p : Nat) (v : Int) : List Int := (List.range (s.length + 1)).map fun j => if j < p then wrap64 (cnt W (s.drop (s.length - j)) : Int) else if j = p then v else 0
theorem tabI_length (W : List (List UInt8)) (s : List UInt8) (p : Nat) (v : Int) : (tabI W s p v).length = s.length + 1 := by simp [tabI]
theorem tabI_at (W : List (List UInt8)) (s : List UInt8) (p : Nat) (v : Int) (j : Nat) (h : j < s.length + 1) : rd (tabI W s p v) (j : Int) = if j < p then wrap64 (cnt W (s.drop (s.length - j)) : Int) else if j = p then v else 0 := by
  rw [rd_nat _ j (by rw [tabI_length]; exact h)]; simp [tabI]
theorem tabI_set (W : List (List UInt8)) (s : List UInt8) (p : Nat) (v v' : Int) : (tabI W s p v).set p v' = tabI W s p v' := by
  apply List.ext_getElem
  · simp [tabI]
  · intro j h1 h2
    rw [List.getElem_set]
    by_cases e : p = j
    · subst e; simp [tabI]
    · rw [if_neg e]; simp [tabI, show ¬ j = p by omega]
theorem tabI_next (W : List (List UInt8)) (s : List UInt8) (p : Nat) (v : Int) (hv : v = wrap64 (cnt W (s.drop (s.length - p)) : Int)) : tabI W s p v = tabI W s (p + 1) 0 := by
  unfold tabI
  apply List.map_congr_left
  intro j _
  subst hv
  by_cases h1 : j < p
  · rw [if_pos h1, if_pos (by omega)]
  · by_cases h2 : j = p
    · rw [if_neg h1, if_pos h2, if_pos (by omega), h2]
    · rw [if_neg h1, if_neg h2, if_neg (by omega)]
      by_cases h3 : j = p + 1
      · rw [if_pos h3]
      · rw [if_neg h3]
theorem readings_l1 (l : List ByteArray) (t : ByteArray) (hl : l.length ≤ 1048576) (hne : ∀ w ∈ l, 1 ≤ w.size) (ht : t.size ≤ 1048576) (p : Nat) (hp0 : 0 < p) (hp : p ≤ t.size) (r : List Int)
    (next : Ev (fun k => impl_readings.l0 k l t (tabI (l.map ch) (ch t) p (wrap64 (cnt (l.map ch) ((ch t).drop (t.size - p)) : Int))) (wrap64 ((p : Int) + 1))) r) :
    ∀ (d i : Nat), i + d = l.length → Ev (fun k => impl_readings.l1 k l t (tabI (l.map ch) (ch t) p (wrap64 (((((l.map ch).take i).map (term (l.map ch) ((ch t).drop (t.size - p)))).sum : Nat) : Int))) (p : Int) (t.extract (t.size - p) t.size) l (l.length : Int) (i : Int)) r
  | 0, i, hd => by
    refine Ev.succ ?_
    simp only [impl_readings.l1]
    refine Ev.neg (by omega) ?_
    rw [List.take_of_length_le (by simp; omega), ← cnt_ne]
    · exact next
    · intro e
      have : ((ch t).drop (t.size - p)).length = 0 := by rw [e]; rfl
      simp only [List.length_drop, ch_length] at this; omega
  | d + 1, i, hd => by
    have h1 : i < l.length := by omega
    have h1' : i < (l.map ch).length := by simp; omega
    have ih := readings_l1 l t hl hne ht p hp0 hp r next d (i + 1) (by omega)
    rw [cnt_take _ _ i h1'] at ih
    have hw := hne _ (List.getElem_mem h1)
    have hlen := tabI_length (l.map ch) (ch t) p
    have hct := ch_length t
    have hb := hasPrefix_eq (t.extract (t.size - p) t.size) l[i]
    rw [ch_drop] at hb
    refine Ev.succ ?_
    simp only [impl_readings.l1, rdOf_nat l i h1, Int.toNat_natCast, w1 (show 0 ≤ (i : Int) by omega) (show (i : Int) < 9223372036854775807 by omega)]
    refine Ev.pos (by omega) (Ev.pos (by omega) (Ev.pos (by omega) (Ev.known (fun _ => hb) (Ev.cases (fun h => ?_) (fun h => ?_)))))
    · have hle := (List.isPrefixOf_iff_prefix.1 h).length_le
      simp only [List.length_drop, ch_length] at hle
      have e1 : Aside0 (wrap64 ((p : Int) - (l[i].size : Int)) = ((p - l[i].size : Nat) : Int)) := ⟨by rw [w64 (by omega) (by omega)]; omega⟩
      have hterm : term (l.map ch) ((ch t).drop (t.size - p)) (l.map ch)[i] = cnt (l.map ch) ((ch t).drop (t.size - (p - l[i].size))) := by
        unfold term
        rw [List.getElem_map, if_pos ⟨fun e => by have := ch_length l[i]; rw [e] at this; simp at this; omega, h⟩, List.drop_drop, ch_length]
        congr 2; omega
      simp only [e1.out]
      refine Ev.pos (by omega) (Ev.pos (by rw [hlen]; omega) (Ev.pos (by omega) (Ev.pos (by rw [hlen]; omega) ?_)))
      rw [tabI_at _ _ _ _ p (by omega), tabI_at _ _ _ _ (p - l[i].size) (by omega), if_neg (by omega), if_pos rfl, if_pos (by omega), hct, wrap_add, tabI_set, ← hterm]
      rw [Int.natCast_add] at ih
      exact ih
    · have hterm : term (l.map ch) ((ch t).drop (t.size - p)) (l.map ch)[i] = 0 := by
        unfold term
        rw [List.getElem_map, if_neg (fun hh => h hh.2)]
      rw [hterm, Nat.add_zero] at ih
      exact ih
theorem readings_l0 (l : List ByteArray) (t : ByteArray) (hl : l.length ≤ 1048576) (hne : ∀ w ∈ l, 1 ≤ w.size) (ht : t.size ≤ 1048576) : ∀ (d p : Nat), p + d = t.size + 1 → 0 < p → Ev (fun k => impl_readings.l0 k l t (tabI (l.map ch) (ch t) p 0) (p : Int)) (tabI (l.map ch) (ch t) (t.size + 1) 0)
  | 0, p, hd, h0 => by
    refine Ev.succ ?_
    simp only [impl_readings.l0]
    exact Ev.neg (by omega) (Ev.pure (by rw [show p = t.size + 1 by omega]))
  | d + 1, p, hd, h0 => by
    have hct := ch_length t
    have ih := readings_l0 l t hl hne ht d (p + 1) (by omega) (by omega)
    rw [← tabI_next _ _ p _ rfl, hct] at ih
    have h := readings_l1 l t hl hne ht p h0 (by omega) _ (by rw [w1 (by omega) (by omega)]; exact ih) l.length 0 (by omega)
    have e : Aside0 (wrap64 ((t.size : Int) - (p : Int)) = ((t.size - p : Nat) : Int)) := ⟨by rw [w64 (by omega) (by omega)]; omega⟩
    refine Ev.succ ?_
    simp only [impl_readings.l0, e.out, Int.toNat_natCast]
    exact Ev.pos (by omega) (Ev.pos (by omega) (Ev.pos (by omega) (by simpa [wrap_zero] using h)))
theorem readings_ev (l : List ByteArray) (t : ByteArray) (hl : l.length ≤ 1048576) (hne : ∀ w ∈ l, 1 ≤ w.size) (ht : t.size ≤ 1048576) : Ev (fun k => impl_readings.f k l t) (tabI (l.map ch) (ch t) (t.size + 1) 0) := by
  have h := readings_l0 l t hl hne ht t.size 1 (by omega) (by omega)
  have hct := ch_length t
  have e0 : (List.replicate (t.size + 1) (0 : Int)).set 0 1 = tabI (l.map ch) (ch t) 1 0 := by
    apply List.ext_getElem
    · simp [tabI, hct]
    · intro j h1 h2
      rw [List.getElem_set]
      by_cases e : 0 = j
      · subst e
        simp [tabI, List.drop_of_length_le (Nat.le_of_eq hct), cnt_nil, wrap_one]
      · rw [if_neg e]
        simp [tabI, show ¬ j = 0 by omega]
  have e1 := w1 (show 0 ≤ (t.size : Int) by omega) (by omega)
  unfold impl_readings.f
  rw [e1]
  refine Ev.pos (by omega) (Ev.pos (by omega) (Ev.known (fun _ => rfl) (Ev.pos (by simp) ?_)))
  rw [show ((t.size : Int) + 1).toNat = t.size + 1 by omega]
  try rw [show (0 : Int).toNat = 0 from rfl]
  rw [e0]
  exact h
theorem countReadings_ev (l : List ByteArray) (t : ByteArray) (hl : l.length ≤ 1048576) (hne : ∀ w ∈ l, 1 ≤ w.size) (ht : t.size ≤ 1048576) : Ev (fun k => impl_countReadings.f k l t) (wrap64 (cnt (l.map ch) (ch t) : Int)) := by
  have hct := ch_length t
  unfold impl_countReadings.f
  refine Ev.bind (readings_ev l t hl hne ht) (Ev.pos (by omega) (Ev.pos (by rw [tabI_length]; omega) (Ev.pure ?_)))
  rw [tabI_at _ _ _ _ t.size (by omega), if_pos (by omega), hct, Nat.sub_self, List.drop_zero]

/-- the words that are written with words of a list -/
def Wr (S : List (List UInt8)) (x : List UInt8) : Prop := ∃ ps : List (List UInt8), (∀ p, p ∈ ps → p ∈ S) ∧ x = ps.flatten
theorem Wr.nil (S : List (List UInt8)) : Wr S [] := ⟨[], by simp, rfl⟩
theorem Wr.snoc {S : List (List UInt8)} {x t : List UInt8} (h : Wr S x) (ht : t ∈ S) : Wr S (x ++ t) := by
  obtain ⟨ps, h1, rfl⟩ := h
  refine ⟨ps ++ [t], fun p hp => ?_, by simp⟩
  rcases List.mem_append.1 hp with hp | hp
  · exact h1 p hp
  · rw [List.mem_singleton] at hp; subst hp; exact ht
theorem cnt_wr (W : List (List UInt8)) (hW : ∀ w, w ∈ W → w ≠ []) : ∀ (n : Nat) (s : List UInt8), s.length = n → (cnt W s ≠ 0 ↔ Wr W s) := by
  intro n
  induction n using Nat.strongRecOn with
  | _ n ih =>
    intro s hs
    by_cases h0 : s = []
    · subst h0; rw [cnt_nil]; simp [Wr.nil]
    · rw [cnt_ne _ _ h0]
      have key : (W.map (term W s)).sum ≠ 0 ↔ ∃ w, w ∈ W ∧ term W s w ≠ 0 := by
        rw [Ne, List.sum_eq_zero_iff_forall_eq_nat]
        simp only [List.mem_map, forall_exists_index, and_imp, forall_apply_eq_imp_iff₂]
        constructor
        · intro h
          refine Classical.byContradiction fun hh => h fun w hw => Classical.byContradiction fun ht => hh ⟨w, hw, ht⟩
        · rintro ⟨w, hw, ht⟩ h; exact ht (h w hw)
      rw [key]
      constructor
      · rintro ⟨w, hw, ht⟩
        unfold term at ht
        by_cases hp : w ≠ [] ∧ w.isPrefixOf s = true
        · rw [if_pos hp] at ht
          have hwl := List.length_pos_iff.2 hp.1
          obtain ⟨r, hr⟩ := List.isPrefixOf_iff_prefix.1 hp.2
          have hd : s.drop w.length = r := by rw [← hr]; simp
          rw [hd] at ht
          have hrl : r.length < n := by rw [← hs, ← hr, List.length_append]; omega
          obtain ⟨ps, h1, h2⟩ := (ih r.length hrl r rfl).1 ht
          refine ⟨w :: ps, fun p hp' => ?_, by rw [List.flatten_cons, ← h2, hr]⟩
          rcases List.mem_cons.1 hp' with rfl | h
          · exact hw
          · exact h1 p h
        · rw [if_neg hp] at ht; exact absurd rfl ht
      · rintro ⟨ps, h1, h2⟩
        match ps, h1, h2 with
        | [], _, h2 => exact absurd h2 (by simpa using h0)
        | w :: ps, h1, h2 =>
          have hw := h1 w (by simp)
          have hwn := hW w hw
          have hwl := List.length_pos_iff.2 hwn
          rw [List.flatten_cons] at h2
          refine ⟨w, hw, ?_⟩
          unfold term
          rw [if_pos ⟨hwn, List.isPrefixOf_iff_prefix.2 ⟨_, h2.symm⟩⟩]
          have hd : s.drop w.length = ps.flatten := by rw [h2]; simp
          rw [hd]
          exact (ih ps.flatten.length (by rw [← hs, h2, List.length_append]; omega) _ rfl).2 ⟨ps, fun p hp => h1 p (List.mem_cons_of_mem _ hp), rfl⟩

theorem pow_sum : ∀ (n : Nat) (K : List Nat), K.Nodup → (∀ x ∈ K, x < n) → (K.map (2 ^ ·)).sum < 2 ^ n
  | 0, K, _, h => by
    have : K = [] := List.eq_nil_iff_forall_not_mem.2 fun x hx => by have := h x hx; omega
    subst this; simp
  | n + 1, K, hn, h => by
    by_cases hm : n ∈ K
    · have hp := List.perm_cons_erase hm
      have hs := (hp.map (2 ^ ·)).sum_nat
      rw [hs, List.map_cons, List.sum_cons]
      have ih := pow_sum n (K.erase n) (hn.erase n) (fun x hx => by
        have h1 := h x (List.mem_of_mem_erase hx)
        have h2 := (hn.mem_erase_iff.1 hx).1
        omega)
      rw [Nat.pow_succ]; omega
    · have ih := pow_sum n K hn (fun x hx => by
        have h1 := h x hx
        have h2 : x ≠ n := fun e => hm (e ▸ hx)
        omega)
      rw [Nat.pow_succ]; omega
/-- different words read a word in no more ways than its letters can be parted -/
theorem cnt_two (W : List (List UInt8)) (hn : W.Nodup) : ∀ (n : Nat) (s : List UInt8), s.length = n → cnt W s ≤ 2 ^ n := by
  intro n
  induction n using Nat.strongRecOn with
  | _ n ih =>
    intro s hs
    by_cases h0 : s = []
    · subst h0; subst hs; rw [cnt_nil]; simp
    · rw [cnt_ne W s h0]
      obtain ⟨p, hp⟩ : ∃ p : List UInt8 → Bool, p = fun w => decide (w ≠ []) && w.isPrefixOf s := ⟨_, rfl⟩
      have hpt : ∀ w, p w = true ↔ w ≠ [] ∧ w <+: s := fun w => by rw [hp]; simp [List.isPrefixOf_iff_prefix]
      have h1 : ∀ V : List (List UInt8), (V.map (term W s)).sum ≤ ((V.filter p).map fun w => 2 ^ (n - w.length)).sum := by
        intro V
        induction V with
        | nil => simp
        | cons w V ihV =>
          rw [List.map_cons, List.sum_cons]
          by_cases hw : p w = true
          · rw [List.filter_cons_of_pos hw, List.map_cons, List.sum_cons]
            obtain ⟨w1, w2⟩ := (hpt w).1 hw
            have hl1 := List.length_pos_iff.2 w1
            have hl2 := w2.length_le
            have : term W s w ≤ 2 ^ (n - w.length) := by
              unfold term
              rw [if_pos ⟨w1, List.isPrefixOf_iff_prefix.2 w2⟩]
              exact ih (n - w.length) (by omega) _ (by rw [List.length_drop]; omega)
            omega
          · rw [List.filter_cons_of_neg hw]
            have : term W s w = 0 := by
              unfold term
              rw [if_neg (fun h => hw ((hpt w).2 ⟨h.1, List.isPrefixOf_iff_prefix.1 h.2⟩))]
            omega
      have h2 : (((W.filter p).map fun w => n - w.length).map (2 ^ ·)).sum < 2 ^ n := by
        refine pow_sum n _ ?_ ?_
        · have hf : (W.filter p).Nodup := hn.sublist List.filter_sublist
          unfold List.Nodup at hf ⊢
          rw [List.pairwise_map]
          refine List.Pairwise.imp_of_mem (fun {a b} ha hb hab e => hab ?_) hf
          obtain ⟨a1, a2⟩ := (hpt a).1 (List.mem_filter.1 ha).2
          obtain ⟨b1, b2⟩ := (hpt b).1 (List.mem_filter.1 hb).2
          have la := a2.length_le
          have lb := b2.length_le
          have e1 := List.prefix_iff_eq_take.1 a2
          have e2 := List.prefix_iff_eq_take.1 b2
          rw [e1, e2, show a.length = b.length by omega]
        · intro x hx
          obtain ⟨w, hw, rfl⟩ := List.mem_map.1 hx
          obtain ⟨w1, w2⟩ := (hpt w).1 (List.mem_filter.1 hw).2
          have hl1 := List.length_pos_iff.2 w1
          have hl2 := w2.length_le
          omega
      rw [List.map_map] at h2
      have h3 := h1 W
      have h4 : ((W.filter p).map fun w => 2 ^ (n - w.length)).sum < 2 ^ n := h2
      omega

/-- a loop from the first place to the last one, with what is so at each place -/
theorem Ev.loop {R : Type} (g : Nat → Nat → Option R) (n : Nat) (r : R) (hstep : ∀ i, i < n → Ev (g (i + 1)) r → Ev (g i) r) (hend : Ev (g n) r) : Ev (g 0) r := by
  have h : ∀ d i, i + d = n → Ev (g i) r := by
    intro d
    induction d with
    | zero => intro i hi; rw [show i = n by omega]; exact hend
    | succ d ih => intro i hi; exact hstep i (by omega) (ih (i + 1) (by omega))
  exact h n 0 (by omega)

/-- a text out of its letters -/
def bx (x : List UInt8) : ByteArray := ⟨x.toArray⟩
theorem ch_bx (x : List UInt8) : ch (bx x) = x := by simp [ch, bx]
theorem bx_ch (s : ByteArray) : bx (ch s) = s := by simp [ch, bx]
theorem ch_inj' {a b : ByteArray} (h : ch a = ch b) : a = b := ByteArray.ext (Array.toList_inj.1 h)
theorem map_ch_bx (l : List (List UInt8)) : (l.map bx).map ch = l := by simp [Function.comp_def, ch_bx]
theorem map_bx_ch (l : List ByteArray) : (l.map ch).map bx = l := by simp [Function.comp_def, bx_ch]
theorem bx_size (x : List UInt8) : (bx x).size = x.length := by rw [← ch_length, ch_bx]
/-- words in order, each once, as texts -/
def bas (M : List (List UInt8)) : List ByteArray := (ordL M).map bx
theorem ordL_congr {M N : List (List UInt8)} (h : ∀ x, x ∈ M ↔ x ∈ N) : ordL M = ordL N := rises_unique _ _ (ordL_rises M) (ordL_rises N) (fun x => by rw [mem_ordL, mem_ordL]; exact h x)
theorem bas_congr {M N : List (List UInt8)} (h : ∀ x, x ∈ M ↔ x ∈ N) : bas M = bas N := by unfold bas; rw [ordL_congr h]
theorem ch_bas (M : List (List UInt8)) : (bas M).map ch = ordL M := map_ch_bx _
theorem bas_of (r : List ByteArray) (M : List (List UInt8)) (hr : (r.map ch).Pairwise fun x y => wcmp x y < 0) (hm : ∀ x, x ∈ r.map ch ↔ x ∈ M) : r = bas M := by
  unfold bas
  rw [← rises_unique (r.map ch) (ordL M) hr (ordL_rises M) (fun x => by rw [hm, mem_ordL]), map_bx_ch]
theorem ordL_len (M : List (List UInt8)) : (ordL M).length ≤ M.length := by
  unfold ordL Lib.compact Lib.compactUpTo
  rw [List.length_map]
  refine Nat.le_trans (List.length_filter_le _ _) ?_
  rw [List.length_range, (sortW_perm M).length_eq]
  exact Nat.le_refl _
theorem bas_len (M : List (List UInt8)) : (bas M).length ≤ M.length := by unfold bas; rw [List.length_map]; exact ordL_len M
theorem ordL_ordL (M : List (List UInt8)) : ordL (ordL M) = ordL M := ordL_congr (fun x => mem_ordL M x)
theorem bas_nil : bas [] = [] := (bas_of [] [] (by simp) (by simp)).symm
theorem bas_one (x : List UInt8) : bas [x] = [bx x] := by
  symm
  exact bas_of _ _ (by simp) (by intro y; simp [ch_bx])
theorem ordL_nodup (M : List (List UInt8)) : (ordL M).Nodup := (ordL_rises M).imp fun {a b} h e => by rw [e, wcmp_self] at h; omega
theorem wless_wcmp (a b : ByteArray) : wless a b = decide (wcmp (ch a) (ch b) < 0) := by
  unfold wless wcmp
  rw [ch_length, ch_length, bytesLess_cmp]
  by_cases h1 : a.size < b.size
  · simp [h1]
  · by_cases h2 : b.size < a.size
    · simp [h1, h2, show ¬ a.size = b.size by omega]
    · simp [h1, show a.size = b.size by omega]
theorem ordered_eq (l : List ByteArray) (h : l.length ≤ 8796093021952) : impl_ordered.f l = some (bas (l.map ch)) := by
  unfold impl_ordered.f
  rw [if_pos h]; rfl

theorem wdPut_l0 (L : List ByteArray) (s : ByteArray) (hL : L.length ≤ 8796093000000) (hr : (L.map ch).Pairwise fun x y => wcmp x y < 0) : ∀ (d i : Nat), i + d = L.length → (∀ j (h : j < L.length), j < i → wcmp (ch L[j]) (ch s) < 0) → ∃ r, Ev (fun k => spec_wdPut.l0 k L s (i : Int)) r ∧ (r.map ch).Pairwise (fun x y => wcmp x y < 0) ∧ ∀ x, x ∈ r.map ch ↔ x ∈ L.map ch ++ [ch s] := by
  have fin : ∀ i, i ≤ L.length → (∀ j (h : j < L.length), j < i → wcmp (ch L[j]) (ch s) < 0) → (∀ j (h : j < L.length), i ≤ j → wcmp (ch s) (ch L[j]) < 0) → ((L.take i ++ [s] ++ L.drop i).map ch).Pairwise (fun x y => wcmp x y < 0) ∧ ∀ x, x ∈ (L.take i ++ [s] ++ L.drop i).map ch ↔ x ∈ L.map ch ++ [ch s] := by
    intro i hi h1 h2
    refine ⟨?_, fun x => ?_⟩
    · rw [List.map_append, List.map_append, List.map_cons, List.map_nil, List.pairwise_append, List.pairwise_append]
      refine ⟨⟨?_, by simp, ?_⟩, ?_, ?_⟩
      · rw [List.map_take]; exact hr.sublist (List.take_sublist _ _)
      · intro a ha b hb
        rw [List.mem_singleton] at hb
        subst hb
        obtain ⟨y, hy, rfl⟩ := List.mem_map.1 ha
        obtain ⟨j, hj, rfl⟩ := List.getElem_of_mem hy
        rw [List.length_take] at hj
        rw [List.getElem_take]
        exact h1 j (by omega) (by omega)
      · rw [List.map_drop]; exact hr.sublist (List.drop_sublist _ _)
      · intro a ha b hb
        obtain ⟨y, hy, rfl⟩ := List.mem_map.1 hb
        obtain ⟨j, hj, rfl⟩ := List.getElem_of_mem hy
        rw [List.length_drop] at hj
        rw [List.getElem_drop]
        have hb' := h2 (i + j) (by omega) (by omega)
        rcases List.mem_append.1 ha with ha | ha
        · obtain ⟨y, hy, rfl⟩ := List.mem_map.1 ha
          obtain ⟨j', hj', rfl⟩ := List.getElem_of_mem hy
          rw [List.length_take] at hj'
          rw [List.getElem_take]
          exact wcmp_trans _ _ _ (h1 j' (by omega) (by omega)) hb'
        · rw [List.mem_singleton] at ha
          subst ha
          exact hb'
    · have := List.take_append_drop i L
      constructor
      · intro hx
        obtain ⟨y, hy, rfl⟩ := List.mem_map.1 hx
        rcases List.mem_append.1 hy with hy | hy
        · rcases List.mem_append.1 hy with hy | hy
          · exact List.mem_append_left _ (List.mem_map.2 ⟨y, List.mem_of_mem_take hy, rfl⟩)
          · rw [List.mem_singleton] at hy; subst hy; exact List.mem_append_right _ (by simp)
        · exact List.mem_append_left _ (List.mem_map.2 ⟨y, List.mem_of_mem_drop hy, rfl⟩)
      · intro hx
        rcases List.mem_append.1 hx with hx | hx
        · obtain ⟨y, hy, rfl⟩ := List.mem_map.1 hx
          refine List.mem_map.2 ⟨y, ?_, rfl⟩
          rw [← this] at hy
          rcases List.mem_append.1 hy with hy | hy
          · exact List.mem_append_left _ (List.mem_append_left _ hy)
          · exact List.mem_append_right _ hy
        · rw [List.mem_singleton] at hx; subst hx
          exact List.mem_map.2 ⟨s, List.mem_append_left _ (List.mem_append_right _ (by simp)), rfl⟩
  intro d
  induction d with
  | zero =>
    intro i hd h1
    obtain ⟨p, q⟩ := fin i (by omega) h1 (fun j hj h => by omega)
    refine ⟨_, Ev.succ ?_, p, q⟩
    simp only [spec_wdPut.l0, Int.toNat_natCast, Option.bind_some]
    exact Ev.neg (by omega) (Ev.pos (by omega) (Ev.pos (by omega) (Ev.pos (by simp; omega) (Ev.pos (by simp; omega) (Ev.pos (by simp; omega) (Ev.pure (by simp)))))))
  | succ d ih =>
    intro i hd h1
    have hi : i < L.length := by omega
    have hw := wless_wcmp L[i] s
    by_cases hl : wcmp (ch L[i]) (ch s) < 0
    · obtain ⟨r, r1, r2, r3⟩ := ih (i + 1) (by omega) (fun j hj h => by
        by_cases e : j = i
        · subst e; exact hl
        · exact h1 j hj (by omega))
      refine ⟨r, Ev.succ ?_, r2, r3⟩
      simp only [spec_wdPut.l0, rdOf_nat L i hi, w1 (show 0 ≤ (i : Int) by omega) (show (i : Int) < 9223372036854775807 by omega)]
      exact Ev.pos (by omega) (Ev.pos (by omega) (Ev.known (fun _ => wdLess_eq _ _) (Ev.pos (by rw [hw]; simpa using hl) r1)))
    · by_cases he : ch L[i] = ch s
      · refine ⟨L, Ev.succ ?_, hr, fun x => ?_⟩
        · simp only [spec_wdPut.l0, rdOf_nat L i hi, toList_ch]
          exact Ev.pos (by omega) (Ev.pos (by omega) (Ev.known (fun _ => wdLess_eq _ _) (Ev.neg (by rw [hw]; simpa using hl) (Ev.pos he (Ev.now _)))))
        · rw [List.mem_append, List.mem_singleton]
          constructor
          · exact Or.inl
          · rintro (h | rfl)
            · exact h
            · exact List.mem_map.2 ⟨L[i], List.getElem_mem hi, he⟩
      · have hgt : wcmp (ch s) (ch L[i]) < 0 := by
          have := wcmp_anti (ch L[i]) (ch s)
          have h0 : wcmp (ch L[i]) (ch s) ≠ 0 := fun h => he (wcmp_zero _ _ h)
          omega
        obtain ⟨p, q⟩ := fin i (by omega) h1 (fun j hj h => by
          by_cases e : j = i
          · subst e; exact hgt
          · have := List.pairwise_iff_getElem.1 hr i j (by simpa using hi) (by simpa using hj) (by omega)
            rw [List.getElem_map, List.getElem_map] at this
            exact wcmp_trans _ _ _ hgt this)
        refine ⟨_, Ev.succ ?_, p, q⟩
        simp only [spec_wdPut.l0, rdOf_nat L i hi, toList_ch, Int.toNat_natCast, Option.bind_some]
        exact Ev.pos (by omega) (Ev.pos (by omega) (Ev.known (fun _ => wdLess_eq _ _) (Ev.neg (by rw [hw]; simpa using hl) (Ev.neg he (Ev.pos (by omega) (Ev.pos (by simp; omega) (Ev.pos (by simp; omega) (Ev.pos (by simp; omega) (Ev.pure (by simp))))))))))
theorem wdPut_ev (M : List (List UInt8)) (s : ByteArray) (hM : M.length ≤ 8796093000000) : Ev (fun k => spec_wdPut.f k (bas M) s) (bas (M ++ [ch s])) := by
  have hl := bas_len M
  obtain ⟨r, r1, r2, r3⟩ := wdPut_l0 (bas M) s (by omega) (by rw [ch_bas]; exact ordL_rises M) (bas M).length 0 (by omega) (fun j _ h => by omega)
  rw [← bas_of r (M ++ [ch s]) r2 (fun x => by rw [r3, ch_bas, List.mem_append, List.mem_append, mem_ordL])]
  exact r1

theorem flatMapLen {α β : Type} (f : α → List β) (c : Nat) : ∀ l : List α, (∀ x ∈ l, (f x).length ≤ c) → (l.flatMap f).length ≤ l.length * c
  | [], _ => by simp
  | x :: l, h => by
    have h1 := h x (by simp)
    have h2 := flatMapLen f c l (fun y hy => h y (by simp [hy]))
    rw [List.flatMap_cons, List.length_append, List.length_cons, Nat.succ_mul]
    omega

theorem nodupLe {α : Type} [DecidableEq α] : ∀ (M N : List α), M.Nodup → M ⊆ N → M.length ≤ N.length
  | [], _, _, _ => Nat.zero_le _
  | x :: M, N, hn, hs => by
    have hx : x ∈ N := hs (by simp)
    have hn' := List.nodup_cons.1 hn
    have := nodupLe M (N.erase x) hn'.2 (fun y hy => (List.mem_erase_of_ne (by rintro rfl; exact hn'.1 hy)).2 (hs (by simp [hy])))
    have h1 := List.length_erase_of_mem hx
    have h2 := List.length_pos_of_mem hx
    simp only [List.length_cons]
    omega

/-- what is missing behind an end of a word that is left -/
def mis (W : List (List UInt8)) (x : List UInt8) : List (List UInt8) := if x = [] then [[]] else (W.filter fun t => x.isPrefixOf t).map fun t => t.drop x.length
theorem mis_len (W : List (List UInt8)) (x : List UInt8) (h : W.length ≤ 12) : (mis W x).length ≤ 12 := by
  unfold mis
  split
  · simp
  · rw [List.length_map]; exact Nat.le_trans (List.length_filter_le _ _) h
/-- the ends that are looked at -/
structure MInv (W : List (List UInt8)) (s : List UInt8) (L : List ByteArray) (k : Nat) : Prop where
  first : ∃ x ∈ L, ch x = s
  tail : ∀ x ∈ L, ∃ a, a ≤ s.length ∧ ch x = s.drop a ∧ Wr W (s.take a)
  once : (L.map ch).Nodup
  done : ∀ j (h : j < L.length), j < k → ch L[j] ≠ [] → ∀ t ∈ W, ¬ ch L[j] <+: t → t <+: ch L[j] → ∃ y ∈ L, ch y = (ch L[j]).drop t.length
theorem MInv.few {W : List (List UInt8)} {s : List UInt8} {L : List ByteArray} {k : Nat} (h : MInv W s L k) : L.length ≤ s.length + 1 := by
  have hsub : L.map ch ⊆ (List.range (s.length + 1)).map fun a => s.drop a := fun x hx => by
    obtain ⟨y, hy, rfl⟩ := List.mem_map.1 hx
    obtain ⟨a, ha, e, -⟩ := h.tail y hy
    exact List.mem_map.2 ⟨a, by simp; omega, e.symm⟩
  have := nodup_le _ _ h.once hsub
  simpa using this
theorem take_add_drop {α : Type} (s : List α) (a n : Nat) : s.take (a + n) = s.take a ++ (s.drop a).take n := by
  rw [List.take_add]
theorem MInv.grow {W : List (List UInt8)} {s : List UInt8} {L : List ByteArray} {k : Nat} (h : MInv W s L k) (hk : k < L.length) {t : List UInt8} (ht : t ∈ W) (hp : t <+: ch L[k]) {y : ByteArray} (hy : ch y = (ch L[k]).drop t.length) (hno : (L.map ch).contains (ch y) = false) : MInv W s (L ++ [y]) k where
  first := by obtain ⟨x, hx, e⟩ := h.first; exact ⟨x, List.mem_append_left _ hx, e⟩
  tail x hx := by
    rcases List.mem_append.1 hx with hx | hx
    · exact h.tail x hx
    · obtain rfl := List.mem_singleton.1 hx
      obtain ⟨a, ha, e, hw⟩ := h.tail L[k] (List.getElem_mem hk)
      have hle := hp.length_le
      rw [e, List.length_drop] at hle
      refine ⟨a + t.length, by omega, by rw [hy, e, List.drop_drop], ?_⟩
      rw [take_add_drop, ← e, ← List.prefix_iff_eq_take.1 hp]
      exact hw.snoc ht
  once := by
    rw [List.map_append, List.nodup_append]
    refine ⟨h.once, by simp, fun a ha b hb => ?_⟩
    simp only [List.map_cons, List.map_nil, List.mem_singleton] at hb
    subst hb
    intro e
    subst e
    rw [List.contains_iff_mem.2 ha] at hno; cases hno
  done j hj hjk h0 u hu h1 h2 := by
    have hj' : j < L.length := by omega
    rw [List.getElem_append_left hj'] at h0 h1 h2 ⊢
    obtain ⟨z, hz, e⟩ := h.done j hj' hjk h0 u hu h1 h2
    exact ⟨z, List.mem_append_left _ hz, e⟩
/-- the whole word is written: nothing is missing -/
theorem MInv.whole {W : List (List UInt8)} (hW : ∀ t ∈ W, t ≠ []) {s : List UInt8} {L : List ByteArray} (h : MInv W s L L.length) : ∀ (n : Nat) (x : ByteArray), x ∈ L → (ch x).length = n → Wr W (ch x) → [] ∈ L.flatMap fun x => mis W (ch x) := by
  intro n
  induction n using Nat.strongRecOn with
  | _ n ih =>
    intro x hx hn hw
    by_cases h0 : ch x = []
    · exact List.mem_flatMap.2 ⟨x, hx, by rw [h0]; simp [mis]⟩
    · obtain ⟨ps, h1, h2⟩ := hw
      match ps, h1, h2 with
      | [], _, h2 => exact absurd h2 (by simpa using h0)
      | t :: ps, h1, h2 =>
        have ht := h1 t (by simp)
        have htl := List.length_pos_iff.2 (hW t ht)
        rw [List.flatten_cons] at h2
        have hp : t <+: ch x := ⟨_, h2.symm⟩
        by_cases hq : ch x <+: t
        · have e : t = ch x := hp.eq_of_length (Nat.le_antisymm hp.length_le hq.length_le)
          refine List.mem_flatMap.2 ⟨x, hx, ?_⟩
          unfold mis
          rw [if_neg h0]
          exact List.mem_map.2 ⟨t, List.mem_filter.2 ⟨ht, List.isPrefixOf_iff_prefix.2 hq⟩, by rw [e]; simp⟩
        · obtain ⟨j, hj, rfl⟩ := List.getElem_of_mem hx
          obtain ⟨y, hy, e⟩ := h.done j hj hj h0 t ht hq hp
          have e' : ch y = ps.flatten := by rw [e, h2]; simp
          have hle := hp.length_le
          refine ih (ch y).length ?_ y hy rfl ⟨ps, fun p hp => h1 p (List.mem_cons_of_mem _ hp), e'⟩
          rw [e, List.length_drop]; omega
/-- each end behind a written beginning is looked at -/
theorem MInv.all {W : List (List UInt8)} (hW : ∀ t ∈ W, t ≠ []) {s : List UInt8} {L : List ByteArray} (h : MInv W s L L.length) (a : Nat) (ha : a < s.length) : ∀ (ps : List (List UInt8)) (b : Nat), b ≤ a → (∀ p, p ∈ ps → p ∈ W) → (s.drop b).take (a - b) = ps.flatten → (∃ x ∈ L, ch x = s.drop b) → ∃ x ∈ L, ch x = s.drop a
  | [], b, hb, _, he, hx => by
    have : ((s.drop b).take (a - b)).length = 0 := by rw [he]; rfl
    rw [List.length_take, List.length_drop] at this
    obtain rfl : b = a := by omega
    exact hx
  | t :: ps, b, hb, hps, he, ⟨x, hx, e⟩ => by
    have ht := hps t (by simp)
    have htl := List.length_pos_iff.2 (hW t ht)
    rw [List.flatten_cons] at he
    have hl : ((s.drop b).take (a - b)).length = t.length + ps.flatten.length := by rw [he, List.length_append]
    rw [List.length_take, List.length_drop] at hl
    have hp : t <+: s.drop b := by
      have h1 : t <+: (s.drop b).take (a - b) := ⟨_, he.symm⟩
      exact h1.trans (List.take_prefix _ _)
    have hx0 : ch x ≠ [] := fun h0 => by
      have : (s.drop b).length = 0 := by rw [← e, h0]; rfl
      rw [List.length_drop] at this; omega
    have hq : ¬ ch x <+: t := fun hq => by
      have := hq.length_le
      rw [e, List.length_drop] at this; omega
    obtain ⟨j, hj, rfl⟩ := List.getElem_of_mem hx
    obtain ⟨y, hy, e2⟩ := h.done j hj hj hx0 t ht hq (by rw [e]; exact hp)
    refine MInv.all hW h a ha ps (b + t.length) (by omega) (fun p hp => hps p (List.mem_cons_of_mem _ hp)) ?_ ⟨y, hy, by rw [e2, e, List.drop_drop]⟩
    have h3 : (s.drop (b + t.length)).take (a - (b + t.length)) = ((s.drop b).take (a - b)).drop t.length := by
      rw [List.drop_take, List.drop_drop]; congr 1; omega
    rw [h3, he]; simp
/-- what the program lists -/
def misList (W : List (List UInt8)) (s : List UInt8) (n : Nat) : List (List UInt8) := (List.range n).flatMap fun a => if cnt W (s.take a) = 0 then [] else mis W (s.drop a)
theorem MInv.same {W : List (List UInt8)} (hW : ∀ t ∈ W, t ≠ []) {s : List UInt8} {L : List ByteArray} (h : MInv W s L L.length) (h0 : cnt W s = 0) (z : List UInt8) : z ∈ (L.flatMap fun x => mis W (ch x)) ↔ z ∈ misList W s s.length := by
  unfold misList
  rw [List.mem_flatMap, List.mem_flatMap]
  constructor
  · rintro ⟨x, hx, hz⟩
    obtain ⟨a, ha, e, hw⟩ := h.tail x hx
    have hc := (cnt_wr W hW _ (s.take a) rfl).2 hw
    have hlt : a < s.length := by
      rcases Nat.lt_or_ge a s.length with h | h
      · exact h
      · rw [List.take_of_length_le h] at hc; exact absurd h0 hc
    refine ⟨a, List.mem_range.2 hlt, ?_⟩
    rw [if_neg hc, ← e]; exact hz
  · rintro ⟨a, ha, hz⟩
    have ha' := List.mem_range.1 ha
    by_cases hc : cnt W (s.take a) = 0
    · rw [if_pos hc] at hz; cases hz
    · rw [if_neg hc] at hz
      obtain ⟨ps, h1, h2⟩ := (cnt_wr W hW _ (s.take a) rfl).1 hc
      obtain ⟨x, hx, e⟩ := h.all hW a ha' ps 0 (Nat.zero_le _) h1 (by simpa using h2) (by simpa using h.first)
      exact ⟨x, hx, by rw [e]; exact hz⟩
theorem misList_len (W : List (List UInt8)) (s : List UInt8) (n : Nat) (h : W.length ≤ 12) : (misList W s n).length ≤ n * 12 := by
  have := flatMapLen (fun a => if cnt W (s.take a) = 0 then [] else mis W (s.drop a)) 12 (List.range n) (fun x _ => by
    split
    · simp
    · exact mis_len _ _ h)
  simpa [misList] using this
/-- what stands behind the list of what is missing -/
def misEnd (m : List ByteArray) : List ByteArray × Bool := if m.length > 12 then ([], false) else (m, true)
theorem miss_l3 (out B : List ByteArray) (t : ByteArray) (i : Nat) (hout : out.length ≤ 1048576) (R : List ByteArray × Bool) (hyes : out.any (begS t) = false → Ev (fun k => spec_MissingBehind.l2 k (out ++ [t]) B (B.length : Int) (wrap64 ((i : Int) + 1))) R) (hno : out.any (begS t) = true → Ev (fun k => spec_MissingBehind.l2 k out B (B.length : Int) (wrap64 ((i : Int) + 1))) R) :
    ∀ (d j : Nat) (b : Bool), j + d = out.length → b = !((out.take j).any (begS t)) → Ev (fun k => spec_MissingBehind.l3 k out t b B (B.length : Int) (i : Int) out (out.length : Int) (j : Int)) R
  | 0, j, b, hd, hb => by
    refine Ev.succ ?_
    simp only [spec_MissingBehind.l3]
    rw [List.take_of_length_le (by omega)] at hb
    refine Ev.neg (by omega) (Ev.cases (fun h => ?_) (fun h => ?_))
    · exact Ev.pos (by omega) (hyes (by rw [hb] at h; simpa using h))
    · exact hno (by rw [hb] at h; simpa using h)
  | d + 1, j, b, hd, hb => by
    have hj : j < out.length := by omega
    have hbg := wdBegins_eq t out[j]
    have hbs : begS t out[j] = (ch out[j]).isPrefixOf (ch t) := rfl
    have htk : ((out.take (j + 1)).any (begS t)) = ((out.take j).any (begS t) || begS t out[j]) := by
      rw [List.take_add_one, List.getElem?_eq_getElem hj, Option.toList_some, List.any_append, List.any_cons, List.any_nil, Bool.or_false]
    refine Ev.succ ?_
    simp only [spec_MissingBehind.l3, rdOf_nat out j hj, w1 (show 0 ≤ (j : Int) by omega) (show (j : Int) < 9223372036854775807 by omega)]
    refine Ev.pos (by omega) (Ev.pos (by omega) (Ev.pos (by omega) (Ev.cases (fun h => ?_) (fun h => ?_))))
    · refine Ev.known (fun _ => hbg) (miss_l3 out B t i hout R hyes hno d (j + 1) _ (by omega) ?_)
      rw [htk, ← hbs]
      rw [hb] at h
      rw [Bool.not_eq_true'] at h
      rw [h, Bool.false_or]
    · refine miss_l3 out B t i hout R hyes hno d (j + 1) _ (by omega) ?_
      rw [htk]
      rw [hb, Bool.not_eq_true', Bool.not_eq_false] at h
      rw [h]; rfl
theorem miss_l2 (B : List ByteArray) (hB : B.length ≤ 1048576) : ∀ (d i : Nat) (out : List ByteArray), i + d = B.length → out.length ≤ i → Ev (fun k => spec_MissingBehind.l2 k out B (B.length : Int) (i : Int)) (misEnd (missOut out (B.drop i)))
  | 0, i, out, hd, ho => by
    refine Ev.succ ?_
    simp only [spec_MissingBehind.l2]
    refine Ev.neg (by omega) ?_
    rw [List.drop_of_length_le (by omega), missOut]
    unfold misEnd
    by_cases h : out.length > 12
    · rw [if_pos h]; exact Ev.pos (by omega) (Ev.now _)
    · rw [if_neg h]; exact Ev.neg (by omega) (Ev.now _)
  | d + 1, i, out, hd, ho => by
    have hi : i < B.length := by omega
    refine Ev.succ ?_
    simp only [spec_MissingBehind.l2, rdOf_nat B i hi]
    refine Ev.pos (by omega) (Ev.pos (by omega) (Ev.pos (by omega) ?_))
    refine miss_l3 out B B[i] i (by omega) _ (fun h => ?_) (fun h => ?_) out.length 0 true (by omega) (by simp)
    · rw [w1 (show 0 ≤ (i : Int) by omega) (show (i : Int) < 9223372036854775807 by omega), List.drop_eq_getElem_cons hi, missOut, if_neg (by rw [h]; simp)]
      exact miss_l2 B hB d (i + 1) _ (by omega) (by simp; omega)
    · rw [w1 (show 0 ≤ (i : Int) by omega) (show (i : Int) < 9223372036854775807 by omega), List.drop_eq_getElem_cons hi, missOut, if_pos h]
      exact miss_l2 B hB d (i + 1) _ (by omega) (by omega)
theorem miss_run (l : List ByteArray) (hl : l.length ≤ 12) (hne : ∀ w ∈ l, 1 ≤ w.size) (s : List UInt8) (hs : s.length ≤ 1000) (R : List ByteArray × Bool) (hfin : ∀ L : List ByteArray, MInv (l.map ch) s L L.length → Ev (fun k => spec_MissingBehind.l2 k [] (bas (L.flatMap fun x => mis (l.map ch) (ch x))) ((bas (L.flatMap fun x => mis (l.map ch) (ch x))).length : Int) 0) R) :
    ∀ (d k : Nat) (L : List ByteArray), k + d = s.length + 1 → k ≤ L.length → MInv (l.map ch) s L k → Ev (fun n => spec_MissingBehind.l0 n l (bas ((L.take k).flatMap fun x => mis (l.map ch) (ch x))) L (k : Int)) R := by
  have hW := chNe l hne
  have hWl : (l.map ch).length ≤ 12 := by simpa using hl
  intro d
  induction d with
  | zero =>
    intro k L hd hk hi
    have := hi.few
    obtain rfl : k = L.length := by omega
    refine Ev.succ ?_
    simp only [spec_MissingBehind.l0]
    have := hfin L hi
    rw [List.take_of_length_le (Nat.le_refl _)]
    exact Ev.neg (by omega) this
  | succ d ih =>
    intro k L hd hk hi
    have hfew := hi.few
    by_cases hkL : k < L.length
    · obtain ⟨F, hF⟩ : ∃ F, F = (L.take k).flatMap fun x => mis (l.map ch) (ch x) := ⟨_, rfl⟩
      have hFl : F.length ≤ 12012 := by
        have := flatMapLen (fun x : ByteArray => mis (l.map ch) (ch x)) 12 (L.take k) (fun x _ => mis_len _ _ hWl)
        rw [List.length_take] at this
        rw [hF]; omega
      have hnextF : ∀ N : List ByteArray, L <+: N → (N.take (k + 1)).flatMap (fun x => mis (l.map ch) (ch x)) = F ++ mis (l.map ch) (ch L[k]) := fun N hN => by
        obtain ⟨r, rfl⟩ := hN
        rw [List.take_append_of_le_length (by omega), List.take_add_one, List.getElem?_eq_getElem hkL, Option.toList_some, List.flatMap_append, ← hF]
        simp
      rw [← hF]
      refine Ev.succ ?_
      simp only [spec_MissingBehind.l0, rdOf_nat L k hkL, toList_ch]
      refine Ev.pos (by omega) (Ev.pos (by omega) (Ev.cases (fun h0 => ?_) (fun h0 => ?_)))
      · have hput := wdPut_ev F (⟨#[]⟩ : ByteArray) (by omega)
        have hn := ih (k + 1) L (by omega) (by omega) ⟨hi.first, hi.tail, hi.once, fun j hj hjk h1 => by
          by_cases e : j = k
          · subst e; exact absurd h0 h1
          · exact hi.done j hj (by omega) h1⟩
        rw [hnextF L (List.prefix_refl _), h0, show mis (l.map ch) [] = [[]] from by simp [mis]] at hn
        simp only [w1 (show 0 ≤ (k : Int) by omega) (show (k : Int) < 9223372036854775807 by omega)]
        exact Ev.bind hput hn
      · obtain ⟨x, hx⟩ : ∃ x, x = L[k] := ⟨_, rfl⟩
        have hmx : mis (l.map ch) (ch x) = (((l.map ch)).filter fun t => (ch x).isPrefixOf t).map fun t => t.drop (ch x).length := by unfold mis; rw [if_neg (by rw [hx]; exact h0)]
        have inner : ∀ (e i : Nat) (N : List ByteArray), i + e = l.length → (hN : L <+: N) → MInv (l.map ch) s N k → (∀ j (h : j < l.length), j < i → ¬ ch x <+: ch l[j] → ch l[j] <+: ch x → ∃ y ∈ N, ch y = (ch x).drop (ch l[j]).length) → Ev (fun n => spec_MissingBehind.l1 n l (bas (F ++ ((((l.map ch).take i)).filter fun t => (ch x).isPrefixOf t).map fun t => t.drop (ch x).length)) N (k : Int) l (l.length : Int) (i : Int)) R := by
          intro e
          induction e with
          | zero =>
            intro i N he hN hiN hpart
            have hkN : k < N.length := Nat.lt_of_lt_of_le hkL hN.length_le
            have hNk : N[k] = x := by rw [hx]; exact (hN.getElem hkL).symm
            refine Ev.succ ?_
            simp only [spec_MissingBehind.l1, w1 (show 0 ≤ (k : Int) by omega) (show (k : Int) < 9223372036854775807 by omega)]
            refine Ev.neg (by omega) ?_
            have hn := ih (k + 1) N (by omega) (by omega) ⟨hiN.first, hiN.tail, hiN.once, fun j hj hjk h1 => by
              by_cases e : j = k
              · subst e
                rw [hNk]
                intro t ht q1 q2
                obtain ⟨w, hw, rfl⟩ := List.mem_map.1 ht
                obtain ⟨j', hj', rfl⟩ := List.getElem_of_mem hw
                exact hpart j' hj' (by omega) q1 q2
              · exact hiN.done j hj (by omega) h1⟩
            rw [hnextF N hN, ← hx, hmx] at hn
            rw [List.take_of_length_le (by rw [List.length_map]; omega)]
            exact hn
          | succ e ihe =>
            intro i N he hN hiN hpart
            have hkN : k < N.length := Nat.lt_of_lt_of_le hkL hN.length_le
            have hNk : N[k] = x := by rw [hx]; exact (hN.getElem hkL).symm
            have h1 : i < l.length := by omega
            have hNf := hiN.few
            have hmem : ch l[i] ∈ l.map ch := List.mem_map.2 ⟨_, List.getElem_mem h1, rfl⟩
            have htk : (l.map ch).take (i + 1) = (l.map ch).take i ++ [ch l[i]] := by
              rw [List.take_add_one, List.getElem?_map, List.getElem?_eq_getElem h1]; rfl
            have hql : (((((l.map ch).take i)).filter fun t => (ch x).isPrefixOf t).map fun t => t.drop (ch x).length).length ≤ 12 := by
              rw [List.length_map]
              refine Nat.le_trans (List.length_filter_le _ _) (Nat.le_trans (List.length_take_le' _ _) hWl)
            refine Ev.succ ?_
            simp only [spec_MissingBehind.l1, rdOf_nat l i h1, rdOf_nat N k hkN, hNk, Int.toNat_natCast, w1 (show 0 ≤ (i : Int) by omega) (show (i : Int) < 9223372036854775807 by omega)]
            refine Ev.pos (by omega) (Ev.pos (by omega) (Ev.pos (by omega) (Ev.pos (by omega) (Ev.pos (by omega) (Ev.known (fun _ => wdBegins_eq _ _) (Ev.cases (fun hb => ?_) (fun hb => ?_)))))))
            · have hb' := List.isPrefixOf_iff_prefix.1 hb
              have hle := hb'.length_le
              rw [ch_length, ch_length] at hle
              have hput := wdPut_ev (F ++ ((((l.map ch).take i)).filter fun t => (ch x).isPrefixOf t).map fun t => t.drop (ch x).length) (l[i].extract x.size l[i].size) (by rw [List.length_append]; omega)
              rw [ch_drop] at hput
              have hn := ihe (i + 1) N (by omega) hN hiN (fun j hj hji => by
                by_cases e : j = i
                · subst e; exact fun q => absurd hb' q
                · exact hpart j hj (by omega))
              rw [htk, List.filter_append, List.map_append, List.filter_cons_of_pos hb, List.filter_nil, List.map_cons, List.map_nil, ← List.append_assoc, ch_length x] at hn
              rw [ch_length x] at hput ⊢
              exact Ev.pos (by omega) (Ev.pos (by omega) (Ev.bind hput hn))
            · have hb' : ¬ ch x <+: ch l[i] := fun h => hb (List.isPrefixOf_iff_prefix.2 h)
              have same : (((l.map ch).take (i + 1)).filter fun t => (ch x).isPrefixOf t) = (((l.map ch).take i).filter fun t => (ch x).isPrefixOf t) := by
                rw [htk, List.filter_append, List.filter_cons_of_neg hb, List.filter_nil, List.append_nil]
              refine Ev.known (fun _ => wdBegins_eq _ _) (Ev.cases (fun hc => ?_) (fun hc => ?_))
              · have hc' := List.isPrefixOf_iff_prefix.1 hc
                have hle := hc'.length_le
                rw [ch_length, ch_length] at hle
                have hcy := ch_drop x l[i].size
                refine Ev.pos (by omega) (Ev.pos (by omega) (Ev.bind (wdHas_ev N _ (by omega)) (Ev.cases (fun hh => ?_) (fun hh => ?_))))
                · have hn := ihe (i + 1) N (by omega) hN hiN (fun j hj hji => by
                    by_cases e : j = i
                    · subst e
                      intro _ _
                      obtain ⟨y, hy, e⟩ := List.mem_map.1 (List.contains_iff_mem.1 hh)
                      exact ⟨y, hy, by rw [e, hcy, ch_length]⟩
                    · exact hpart j hj (by omega))
                  rw [same] at hn
                  exact hn
                · have hh' : (N.map ch).contains (ch (x.extract l[i].size x.size)) = false := by simpa using hh
                  have hn := ihe (i + 1) (N ++ [x.extract l[i].size x.size]) (by omega) (hN.trans (List.prefix_append _ _)) (hiN.grow hkN hmem (by rw [hNk]; exact hc') (by rw [hNk, hcy, ch_length]) hh') (fun j hj hji => by
                    by_cases e : j = i
                    · subst e
                      exact fun _ _ => ⟨_, List.mem_append_right _ (List.mem_singleton.2 rfl), by rw [hcy, ch_length]⟩
                    · intro q1 q2
                      obtain ⟨y, hy, e⟩ := hpart j hj (by omega) q1 q2
                      exact ⟨y, List.mem_append_left _ hy, e⟩)
                  rw [same] at hn
                  exact Ev.pos (by omega) hn
              · have hn := ihe (i + 1) N (by omega) hN hiN (fun j hj hji => by
                  by_cases e : j = i
                  · subst e
                    exact fun _ q => absurd (List.isPrefixOf_iff_prefix.2 q) hc
                  · exact hpart j hj (by omega))
                rw [same] at hn
                exact hn
        have := inner l.length 0 L (by omega) (List.prefix_refl _) hi (fun j hj h => by omega)
        rw [List.take_zero, List.filter_nil, List.map_nil, List.append_nil] at this
        exact this
    · obtain rfl : k = L.length := by omega
      refine Ev.succ ?_
      simp only [spec_MissingBehind.l0]
      have := hfin L hi
      rw [List.take_of_length_le (Nat.le_refl _)]
      exact Ev.neg (by omega) this
theorem missOf_ch (rest : ByteArray) (l : List ByteArray) (h : ch rest ≠ []) : (missOf rest l).map ch = mis (l.map ch) (ch rest) := by
  unfold mis missOf
  rw [if_neg h, List.map_map, List.filter_map, List.map_map]
  have e : (begS · rest) = ((fun t => (ch rest).isPrefixOf t) ∘ ch) := rfl
  show ((l.filter fun w => begS w rest).map (ch ∘ fun w => cutS w rest)) = _
  rw [e]
  refine List.map_congr_left fun w hw => ?_
  show ch (cutS w rest) = (ch w).drop (ch rest).length
  rw [ch_length]
  simp [cutS, ch]
theorem miss_impl_l0 (l : List ByteArray) (hl : l.length ≤ 12) (hne : ∀ w ∈ l, 1 ≤ w.size) (hn : (l.map ch).Nodup) (s : ByteArray) (hs : s.size ≤ 60) : ∃ X : List ByteArray, Ev (fun k => impl_MissingBehind.l0 k l s [] 0) X ∧ X.map ch = misList (l.map ch) (ch s) s.size := by
  have hcs := ch_length s
  have hWl : (l.map ch).length ≤ 12 := by simpa using hl
  obtain ⟨f, hf⟩ : ∃ f : Nat → List ByteArray, f = fun n => (List.range n).flatMap fun a => if cnt (l.map ch) ((ch s).take a) = 0 then [] else missOf (s.extract a s.size) l := ⟨_, rfl⟩
  have hfm : ∀ n, n ≤ s.size → (f n).map ch = misList (l.map ch) (ch s) n := by
    intro n
    induction n with
    | zero => intro _; rw [hf]; rfl
    | succ n ih =>
      intro h
      have e1 : f (n + 1) = f n ++ if cnt (l.map ch) ((ch s).take n) = 0 then [] else missOf (s.extract n s.size) l := by rw [hf]; simp [List.range_succ, List.flatMap_append]
      have e2 : misList (l.map ch) (ch s) (n + 1) = misList (l.map ch) (ch s) n ++ if cnt (l.map ch) ((ch s).take n) = 0 then [] else mis (l.map ch) ((ch s).drop n) := by unfold misList; simp [List.range_succ, List.flatMap_append]
      rw [e1, e2, List.map_append, ih (by omega)]
      congr 1
      split
      · rfl
      · rw [missOf_ch, ch_drop]
        rw [ch_drop]
        intro e
        have : ((ch s).drop n).length = 0 := by rw [e]; rfl
        rw [List.length_drop] at this; omega
  refine ⟨f s.size, ?_, hfm _ (Nat.le_refl _)⟩
  have hf0 : ([] : List ByteArray) = f 0 := by rw [hf]; rfl
  rw [hf0]
  refine Ev.loop (fun i k => impl_MissingBehind.l0 k l s (f i) i) s.size _ (fun i hi hnext => ?_) ?_
  · have hlen : (f i).length ≤ 720 := by
      have h1 := misList_len (l.map ch) (ch s) i hWl
      rw [← hfm i (by omega), List.length_map] at h1
      omega
    have hc := countReadings_ev l (s.extract 0 i) (by omega) hne (by simp; omega)
    have hex : ch (s.extract 0 i) = (ch s).take i := by rw [ch_extract]; simp
    have h2 := cnt_two (l.map ch) hn i ((ch s).take i) (by rw [List.length_take]; omega)
    have h3 : 2 ^ i ≤ 2 ^ 60 := Nat.pow_le_pow_right (by omega) (by omega)
    have h4 : 2 ^ 60 = 1152921504606846976 := by decide
    have h5 : Aside0 (wrap64 (cnt (l.map ch) ((ch s).take i) : Int) = (cnt (l.map ch) ((ch s).take i) : Int)) := ⟨w64 (by omega) (by omega)⟩
    rw [hex, h5.out] at hc
    have e1 : f (i + 1) = f i ++ if cnt (l.map ch) ((ch s).take i) = 0 then [] else missOf (s.extract i s.size) l := by rw [hf]; simp [List.range_succ, List.flatMap_append]
    rw [e1] at hnext
    refine Ev.succ ?_
    simp only [impl_MissingBehind.l0]
    refine Ev.pos hi (Ev.bind hc (Ev.cases (fun h => ?_) (fun h => ?_)))
    · rw [if_pos (by omega), List.append_nil] at hnext
      exact hnext
    · rw [if_neg (by omega)] at hnext
      exact Ev.pos (by omega) hnext
  · refine Ev.succ ?_
    simp only [impl_MissingBehind.l0]
    exact Ev.neg (by omega) (Ev.now _)
/-- the empty word is the first one, and the others begin with it -/
theorem missOut_empty (M : List (List UInt8)) (h : [] ∈ M) : missOut [] (bas M) = [⟨#[]⟩] := by
  have hm : ([] : List UInt8) ∈ ordL M := (mem_ordL M []).2 h
  have hr := ordL_rises M
  unfold bas
  match hO : ordL M with
  | [] => rw [hO] at hm; cases hm
  | x :: xs =>
    rw [hO] at hm hr
    have hx : x = [] := by
      rcases List.mem_cons.1 hm with e | e
      · exact e.symm
      · have h1 := List.rel_of_pairwise_cons hr e
        unfold wcmp at h1
        simp at h1
        split at h1
        · simp at h1
        · rename_i hxl
          exact List.eq_nil_of_length_eq_zero (by omega)
    subst hx
    rw [List.map_cons, missOut, if_neg (by simp), List.nil_append]
    have : ∀ ts : List ByteArray, missOut [bx []] ts = [bx []] := by
      intro ts
      induction ts with
      | nil => rfl
      | cons t ts ih =>
        rw [missOut, if_pos, ih]
        rw [List.any_cons]
        have : begS t (bx []) = true := by unfold begS; simp [bx]
        rw [this]; rfl
    rw [this]; rfl

theorem IsSet.once {l : List ByteArray} (h : IsSet l) : (l.map ch).Nodup := by
  unfold List.Nodup
  rw [List.pairwise_iff_getElem]
  intro i j hi hj hij e
  rw [List.getElem_map, List.getElem_map] at e
  have h1 := h.lt j i (by simpa using hj) hij
  rw [wless_wcmp, e, wcmp_self] at h1
  simp at h1
theorem missing_same (l : List ByteArray) (s : ByteArray) (hl : l.length ≤ 1048576) (hsz : s.size ≤ 1048576) : ∃ r, Ev (fun k => spec_MissingBehind.f k l s) r ∧ Ev (fun k => impl_MissingBehind.f k l s) r ∧ r.1.length ≤ 1048576 := by
  obtain ⟨b, h1, h2, hb⟩ := isSet_same l hl
  have g1 := dcAsked_ev l s h1
  have g2 : impl_isWord.f s = some (decide (s.size ≤ 60) && s.data.toList.all isLetter) := rfl
  have no : Ev (fun k => spec_MissingBehind.j0 k l s true) ([], false) := Ev.succ (by simp only [spec_MissingBehind.j0]; exact Ev.pos (by simp) (Ev.now _))
  unfold spec_MissingBehind.f impl_MissingBehind.f
  cases b with
  | false => exact ⟨([], false), Ev.bind g1 (Ev.neg (by simp) no), Ev.pos hsz (Ev.bind h2 (Ev.neg (by simp) (Ev.now _))), by simp⟩
  | true =>
    cases hg : (decide (s.size ≤ 60) && s.data.toList.all isLetter) with
    | false => rw [hg] at g1 g2; exact ⟨([], false), Ev.bind g1 (Ev.neg (by simp) no), Ev.pos hsz (Ev.bind h2 (Ev.pos rfl (Ev.known (fun _ => g2) (Ev.neg (by simp) (Ev.now _))))), by simp⟩
    | true =>
      have hset := hb rfl
      have h60 : s.size ≤ 60 := by simp only [Bool.and_eq_true, decide_eq_true_eq] at hg; exact hg.1
      have hcs := ch_length s
      rw [hg] at g1 g2
      have hne : ∀ w ∈ l, 1 ≤ w.size := fun w hw => (hset.size w hw).1
      have h12 := hset.few
      have hW := chNe l hne
      have hWl : (l.map ch).length ≤ 12 := by simpa using h12
      have g3 := dlIs_ev l hl hne s (by omega)
      have g4 := beginnings_eq l hne s (by omega)
      have g5 := tabB_at (l.map ch) s 0 (by omega)
      rw [List.drop_zero] at g5
      cases hbg : bg (l.map ch) (ch s) with
      | false =>
        rw [hbg] at g3 g5
        exact ⟨([], false), Ev.bind g1 (Ev.pos rfl (Ev.bind g3 no)), Ev.pos hsz (Ev.bind h2 (Ev.pos rfl (Ev.known (fun _ => g2) (Ev.pos rfl (Ev.known (fun _ => g4) (Ev.pos (by simp) (Ev.neg (by rw [show ((0 : Nat) : Int) = 0 from rfl] at g5; rw [g5]; simp) (Ev.now _)))))))), by simp⟩
      | true =>
        rw [hbg] at g3 g5
        have g6 := countReadings_ev l s hl hne hsz
        have h2' := cnt_two (l.map ch) hset.once s.size (ch s) hcs
        have h3 : 2 ^ s.size ≤ 2 ^ 60 := Nat.pow_le_pow_right (by omega) h60
        have h4 : 2 ^ 60 = 1152921504606846976 := by decide
        have h5 : Aside0 (wrap64 (cnt (l.map ch) (ch s) : Int) = (cnt (l.map ch) (ch s) : Int)) := ⟨w64 (by omega) (by omega)⟩
        rw [h5.out] at g6
        have specRun : ∀ R, (∀ L : List ByteArray, MInv (l.map ch) (ch s) L L.length → misEnd (missOut [] (bas (L.flatMap fun x => mis (l.map ch) (ch x)))) = R) → Ev (fun k => spec_MissingBehind.j0 k l s (!true)) R := fun R hR => by
          refine Ev.succ ?_
          simp only [spec_MissingBehind.j0]
          refine Ev.neg (by simp) ?_
          have hrun := miss_run l h12 hne (ch s) (by omega) R (fun L hL => by
            rw [← hR L hL]
            have hfew := hL.few
            have hfl := flatMapLen (fun x : ByteArray => mis (l.map ch) (ch x)) 12 L (fun x _ => mis_len _ _ hWl)
            have hbl := bas_len (L.flatMap fun x => mis (l.map ch) (ch x))
            exact miss_l2 (bas (L.flatMap fun x => mis (l.map ch) (ch x))) (by omega) (bas (L.flatMap fun x => mis (l.map ch) (ch x))).length 0 [] (by omega) (by simp)) ((ch s).length + 1) 0 [s] (by omega) (by simp)
            ⟨⟨s, by simp, rfl⟩, fun x hx => by obtain rfl := List.mem_singleton.1 hx; exact ⟨0, by omega, by simp, by simpa using Wr.nil _⟩, by simp, fun j hj h => by omega⟩
          rw [List.take_zero, List.flatMap_nil, bas_nil] at hrun
          exact hrun
        by_cases hc : cnt (l.map ch) (ch s) = 0
        · obtain ⟨X, x1, x2⟩ := miss_impl_l0 l h12 hne hset.once s h60
          have hML := misList_len (l.map ch) (ch s) s.size hWl
          have hXl : X.length ≤ 720 := by rw [← x2, List.length_map] at hML; omega
          have hbl := bas_len (misList (l.map ch) (ch s) s.size)
          have hend : impl_MissingBehind.end_ (bas (misList (l.map ch) (ch s) s.size)) = some (misEnd (missOut [] (bas (misList (l.map ch) (ch s) s.size)))) := by
            unfold impl_MissingBehind.end_ misEnd
            rw [if_pos (by omega)]
            split <;> rfl
          have hord : impl_ordered.f X = some (bas (misList (l.map ch) (ch s) s.size)) := by rw [ordered_eq X (by omega), x2]
          have tl : Ev (fun k => (impl_MissingBehind.l0 k l s [] 0).bind fun list => (impl_ordered.f list).bind fun t => impl_MissingBehind.end_ t) (misEnd (missOut [] (bas (misList (l.map ch) (ch s) s.size)))) := Ev.bind x1 (Ev.known (fun _ => hord) (Ev.congr (fun _ => hend) (Ev.now _)))
          refine ⟨misEnd (missOut [] (bas (misList (l.map ch) (ch s) s.size))), Ev.bind g1 (Ev.pos rfl (Ev.bind g3 (specRun _ (fun L hL => ?_)))), Ev.pos hsz (Ev.bind h2 (Ev.pos rfl (Ev.known (fun _ => g2) (Ev.pos rfl (Ev.known (fun _ => g4) (Ev.pos (by simp) (Ev.pos g5 (Ev.bind g6 (Ev.neg (by omega) tl))))))))), ?_⟩
          · rw [bas_congr (hL.same hW hc), hcs]
          · unfold misEnd
            split
            · simp
            · rename_i hh
              simp only; omega
        · refine ⟨([⟨#[]⟩], true), Ev.bind g1 (Ev.pos rfl (Ev.bind g3 (specRun _ (fun L hL => ?_)))), Ev.pos hsz (Ev.bind h2 (Ev.pos rfl (Ev.known (fun _ => g2) (Ev.pos rfl (Ev.known (fun _ => g4) (Ev.pos (by simp) (Ev.pos g5 (Ev.bind g6 (Ev.pos (by omega) (Ev.now _)))))))))), by simp⟩
          obtain ⟨x, hx, e⟩ := hL.first
          have := hL.whole hW _ x hx rfl (by rw [e]; exact (cnt_wr (l.map ch) hW _ (ch s) rfl).1 hc)
          rw [missOut_empty _ this]; rfl
theorem FnExactMissingBehind : laws_FnExactMissingBehind.Pure := by
  intro l s hl hs h
  refine Ev.rounds ?_
  unfold laws_FnExactMissingBehind.f
  obtain ⟨z, hz, hzz⟩ := szS_ev l hl hs
  refine Ev.cases (fun _ => Ev.now _) (fun hsz => Ev.bind hz (Ev.cases (fun _ => Ev.now _) (fun hzn => ?_)))
  obtain ⟨hl', -⟩ := hzz (by omega)
  obtain ⟨mt, hmt⟩ := marks
  obtain ⟨r, h1, h2, h3⟩ := missing_same l s hl' (by omega)
  refine Ev.bind (toS_ev l hl') (Ev.bind h1 (Ev.bind (toS_ev l hl') (Ev.bind h2 (Ev.bind (eqS_ev r.1 (by omega)) (Ev.pos rfl ?_)))))
  refine Ev.succ ?_
  simp only [laws_FnExactMissingBehind.j0]
  refine Ev.neg (by simp) (Ev.bind (toS_ev l hl') (Ev.bind (eqS_ev l hl') (Ev.pos rfl (Ev.bind (markS_ev hmt l hl') (Ev.neg (by omega) (Ev.bind (eqS_ev r.1 (by omega)) (Ev.pos rfl ?_)))))))
  refine Ev.succ ?_
  simp only [laws_FnExactMissingBehind.j1]
  refine Ev.neg (by simp) (Ev.bind (markS_ev hmt r.1 (by omega)) (Ev.bind (heldS_ev hmt r.1.length (by omega)) (Ev.neg (by omega) (Ev.pos rfl (Ev.bind (toS_ev l hl') (Ev.bind h2 (Ev.bind (eqS_ev r.1 (by omega)) (Ev.pos rfl ?_))))))))
  refine Ev.succ ?_
  simp only [laws_FnExactMissingBehind.j2]
  exact Ev.neg (by simp) (Ev.bind (heldS_ev hmt r.1.length (by omega)) (Ev.neg (by omega) (Ev.pos rfl (Ev.now _))))
end Go.Proofs.YtaglbacldonflaaDoor.Pure
