/- WrittenUpTo of the program and of the reference answer alike for all arguments, and leave them as they were: no condition. -/
import Derived.Test.YtdhdboeflncmiaaDoorXFnExactWrittenUpToxp
namespace Go.Proofs.YtdhdboeflncmiaaDoor.Pure
set_option linter.unusedSimpArgs false
set_option linter.unusedVariables false
open Go.RowKit Go.Proofs.YtdhdboeflncmiaaDoor.Hand Go.Proofs.YtdhdboeflncmiaaDoor.XFnExactWrittenUpTo Go.Proofs.YtdhdboeflncmiaaDoorW.PrintWords Go.Proofs.YtdhdboeflncmiaaDoorW.PrintLast Go.Proofs.YtdhdboeflncmiaaDoorW.PrintMore

theorem w1 {i : Int} (h0 : 0 ≤ i) (h : i < 9223372036854775807) : wrap64 (i + 1) = i + 1 := by unfold wrap64; omega
theorem w64 {i : Int} (h0 : -9223372036854775808 ≤ i) (h : i < 9223372036854775808) : wrap64 i = i := by unfold wrap64; omega
theorem rd_nat (l : List Int) (i : Nat) (h : i < l.length) : rd l (i : Int) = l[i] := by
  unfold rd; simp [List.getD_eq_getElem?_getD, h]
theorem Ev.pos {α : Type} {c : Prop} [Decidable c] {g g' : Nat → Option α} {r : α} (h : c) (k : Ev g r) : Ev (fun n => if c then g n else g' n) r :=
  Ev.congr (fun n => if_pos h) k
theorem Ev.neg {α : Type} {c : Prop} [Decidable c] {g g' : Nat → Option α} {r : α} (h : ¬ c) (k : Ev g' r) : Ev (fun n => if c then g n else g' n) r :=
  Ev.congr (fun n => if_neg h) k
theorem Ev.cases {α : Type} {c : Prop} [Decidable c] {g g' : Nat → Option α} {r : α} (h : c → Ev g r) (k : ¬ c → Ev g' r) : Ev (fun n => if c then g n else g' n) r := by
  by_cases e : c
  · exact Ev.pos e (h e)
  · exact Ev.neg e (k e)
/-- a call whose answer is known at every number of rounds -/
theorem Ev.known {α β : Type} {g : Nat → Option α} {f : Nat → α → Option β} {a : α} {r : β} (h : ∀ n, g n = some a) (k : Ev (fun n => f n a) r) : Ev (fun n => (g n).bind (f n)) r :=
  Ev.bind ⟨0, fun n _ => h n⟩ k
/-- one bind of two, joined with what follows -/
theorem Ev.pure {α : Type} {r q : α} (h : r = q) : Ev (fun _ => some r) q := h ▸ Ev.now r
theorem Ev.succ {α : Type} {g : Nat → Option α} {r : α} (h : Ev (fun k => g (k + 1)) r) : Ev g r := Ev.step (f := fun k => g (k + 1)) (fun _ => rfl) h

theorem rdOf_nat (l : List ByteArray) (i : Nat) (h : i < l.length) : rdOf ByteArray.empty l (i : Int) = l[i] := by
  unfold rdOf; simp [List.getD_eq_getElem?_getD, h]

theorem maxLen_le : maxLen ≤ 9223372036854775807 := by unfold maxLen; omega
theorem szS_l0 (l : List ByteArray) (hl : l.length ≤ 9223372036854775807) (hs : ∀ s ∈ l, s.size ≤ 9223372036854775807) : ∀ (d i : Nat) (b : Int), i + d = l.length → 0 ≤ b → b ≤ 1048576 → ∃ r, Ev (fun k => laws_szStringS.l0 k l b (i : Int)) r ∧ (0 ≤ r → r ≤ 1048576 ∧ ∀ s ∈ l.drop i, s.size ≤ 1048576)
  | 0, i, b, hd, h0, hb => by
    refine ⟨b, Ev.succ ?_, fun _ => ⟨hb, fun s h => ?_⟩⟩
    · simp only [laws_szStringS.l0]; exact Ev.neg (by omega) (Ev.now _)
    · rw [List.drop_of_length_le (by omega)] at h; cases h
  | d + 1, i, b, hd, h0, hb => by
    have h1 : i < l.length := by omega
    have h2 := hs _ (List.getElem_mem h1)
    have e : Aside0 (wrap64 (b - (l[i].size : Int)) = b - (l[i].size : Int)) := ⟨w64 (by omega) (by omega)⟩
    by_cases hc : b - (l[i].size : Int) < 0
    · refine ⟨-1, Ev.succ ?_, fun h => by omega⟩
      simp only [laws_szStringS.l0, rdOf_nat l i h1, e.out]
      exact Ev.pos (by omega) (Ev.pos (by omega) (Ev.pos hc (Ev.now _)))
    · obtain ⟨r, hr, hh⟩ := szS_l0 l hl hs d (i + 1) (b - (l[i].size : Int)) (by omega) (by omega) (by omega)
      refine ⟨r, Ev.succ ?_, fun h => ⟨(hh h).1, fun s hm => ?_⟩⟩
      · simp only [laws_szStringS.l0, rdOf_nat l i h1, e.out, w1 (show 0 ≤ (i : Int) by omega) (show (i : Int) < 9223372036854775807 by omega)]
        exact Ev.pos (by omega) (Ev.pos (by omega) (Ev.neg hc hr))
      · rw [List.drop_eq_getElem_cons h1] at hm
        rcases List.mem_cons.1 hm with rfl | hm
        · omega
        · exact (hh h).2 s hm
theorem szS_ev (l : List ByteArray) (hl : l.length ≤ maxLen) (hs : ∀ s ∈ l, s.size ≤ maxLen) : ∃ r, Ev (fun k => laws_szStringS.f k l 1048576) r ∧ (0 ≤ r → l.length ≤ 1048576 ∧ r ≤ 1048576 ∧ ∀ s ∈ l, s.size ≤ 1048576) := by
  have hm := maxLen_le
  have e : Aside0 (wrap64 (1048576 - (l.length : Int)) = 1048576 - (l.length : Int)) := ⟨w64 (by omega) (by omega)⟩
  unfold laws_szStringS.f
  rw [e.out]
  by_cases hc : 1048576 - (l.length : Int) < 0
  · exact ⟨-1, Ev.pos hc (Ev.now _), fun h => by omega⟩
  · obtain ⟨r, hr, hh⟩ := szS_l0 l (by omega) (fun s h => Nat.le_trans (hs s h) hm) l.length 0 (1048576 - (l.length : Int)) (by omega) (by omega) (by omega)
    exact ⟨r, Ev.neg hc hr, fun h => ⟨by omega, (hh h).1, by simpa using (hh h).2⟩⟩
theorem toS_l0 (l : List ByteArray) (hl : l.length ≤ 1048576) : ∀ (d i : Nat) (xs : List ByteArray), i + d = l.length → xs.length = l.length → xs.take i = l.take i → Ev (fun k => laws_toStringS.l0 k l xs (i : Int)) l
  | 0, i, xs, hd, hx, ht => by
    refine Ev.step (f := fun _ => some xs) (fun k => ?_) (Ev.pure ?_)
    · simp only [laws_toStringS.l0]; rw [if_neg (by omega)]
    · rw [List.take_of_length_le (by omega), List.take_of_length_le (by omega)] at ht; exact ht
  | d + 1, i, xs, hd, hx, ht => by
    refine Ev.step (f := fun k => laws_toStringS.l0 k l (xs.set i (rdOf ByteArray.empty l i)) ((i + 1 : Nat) : Int)) (fun k => ?_) (toS_l0 l hl d (i + 1) _ (by omega) (by simp [hx]) ?_)
    · simp only [laws_toStringS.l0]; rw [if_pos (by omega), if_pos (by omega), if_pos (by omega), w1 (by omega) (by omega)]; simp
    · have h1 : i < l.length := by omega
      have h2 : i < (xs.set i (rdOf ByteArray.empty l i)).length := by simp; omega
      have e := rdOf_nat l i h1
      rw [List.take_succ_eq_append_getElem h2, List.take_succ_eq_append_getElem h1, List.take_set, List.set_eq_of_length_le (by simp; omega), ht]
      simp [e]
theorem toS_ev (l : List ByteArray) (hl : l.length ≤ 1048576) : Ev (fun k => laws_toStringS.f k l) l := by
  unfold laws_toStringS.f
  refine Ev.pos (by omega) (Ev.pos (by omega) ?_)
  have h := toS_l0 l hl l.length 0 (List.replicate l.length ⟨#[]⟩) (by omega) (by simp) (by simp)
  simpa using h
theorem eqS_l0 (l : List ByteArray) (hl : l.length ≤ 1048576) : ∀ (d i : Nat), i + d = l.length → Ev (fun k => laws_eqStringS.l0 k l l (i : Int)) true
  | 0, i, hd => Ev.step (f := fun _ => some true) (fun k => by simp only [laws_eqStringS.l0]; rw [if_neg (by omega)]) (Ev.now _)
  | d + 1, i, hd => by
    refine Ev.step (f := fun k => laws_eqStringS.l0 k l l ((i + 1 : Nat) : Int)) (fun k => ?_) (eqS_l0 l hl d (i + 1) (by omega))
    simp only [laws_eqStringS.l0]; rw [if_pos (by omega), if_pos (by omega), if_pos (by omega), if_pos trivial, w1 (by omega) (by omega)]; simp
theorem eqS_ev (l : List ByteArray) (hl : l.length ≤ 1048576) : Ev (fun k => laws_eqStringS.f k l l) true := by
  unfold laws_eqStringS.f
  exact Ev.pos rfl (by simpa using eqS_l0 l hl l.length 0 (by omega))


theorem strOfNums_one (x : Int) : (strOfNums [x]).size = 1 := by simp [strOfNums, ByteArray.size]
theorem markText_l0 : ∀ (d n : Nat) (s : ByteArray), n < 10 ^ d → n < 4611686018427387904 → s.size + d ≤ 1000 → ∃ t, Ev (fun k => laws_markText.l0 k (n : Int) s) t
  | 0, n, s, hn, _, hs => by
    refine ⟨(⟨#[109]⟩ : ByteArray) ++ s, Ev.succ ?_⟩
    simp only [laws_markText.l0]
    exact Ev.neg (by omega) (Ev.pos (by omega) (Ev.now _))
  | d + 1, n, s, hn, hb, hs => by
    by_cases h0 : n = 0
    · refine ⟨(⟨#[109]⟩ : ByteArray) ++ s, Ev.succ ?_⟩
      simp only [laws_markText.l0]
      exact Ev.neg (by omega) (Ev.pos (by omega) (Ev.now _))
    · have e0 : (strOfNums [(wrap64 (48 + (Int.tmod (n : Int) 10))) % 256]).size = 1 := strOfNums_one _
      have hq : n / 10 < 10 ^ d := by rw [Nat.pow_succ] at hn; omega
      obtain ⟨t, ht⟩ := markText_l0 d (n / 10) (strOfNums [(wrap64 (48 + (Int.tmod (n : Int) 10))) % 256] ++ s) hq (by omega) (by rw [ByteArray.size_append, e0]; omega)
      have e2 : Aside0 (wrap64 (Int.tdiv (n : Int) 10) = ((n / 10 : Nat) : Int)) := ⟨by
        rw [show (10 : Int) = ((10 : Nat) : Int) from rfl, ← Int.ofNat_tdiv]; exact w64 (by omega) (by omega)⟩
      refine ⟨t, Ev.succ ?_⟩
      simp only [laws_markText.l0, e2.out]
      exact Ev.pos (by omega) (Ev.known (fun _ => rfl) (Ev.pos (by rw [e0]; omega) ht))
theorem marks : ∃ mt : Nat → ByteArray, ∀ n : Nat, n ≤ 1048577 → Ev (fun k => laws_markText.f k (n : Int)) (mt n) := by
  have h : ∀ n : Nat, ∃ t, n ≤ 1048577 → Ev (fun k => laws_markText.f k (n : Int)) t := by
    intro n
    by_cases hn : n ≤ 1048577
    · by_cases h0 : n = 0
      · exact ⟨_, fun _ => Ev.pos (by omega) (Ev.now _)⟩
      · obtain ⟨t, ht⟩ := markText_l0 7 n ⟨#[]⟩ (by omega) (by omega) (by decide)
        exact ⟨t, fun _ => Ev.neg (by omega) ht⟩
    · exact ⟨ByteArray.empty, fun h => absurd h hn⟩
  exact ⟨fun n => (h n).choose, fun n hn => (h n).choose_spec hn⟩
/-- n texts, all different -/
def marked (mt : Nat → ByteArray) (n : Nat) : List ByteArray := (List.range n).map fun j => mt (j + 1)
theorem marked_length (mt : Nat → ByteArray) (n : Nat) : (marked mt n).length = n := by simp [marked]
theorem markS_l0 (mt : Nat → ByteArray) (hmt : ∀ n : Nat, n ≤ 1048577 → Ev (fun k => laws_markText.f k (n : Int)) (mt n)) (n : Nat) (hn : n ≤ 1048576) : ∀ (d i : Nat) (xs : List ByteArray), i + d = n → xs.length = n → xs.take i = (marked mt n).take i → Ev (fun k => laws_markStringS.l0 k xs ((i + 1 : Nat) : Int) (i : Int)) (((n + 1 : Nat) : Int), marked mt n)
  | 0, i, xs, hd, hx, ht => by
    refine Ev.succ ?_
    simp only [laws_markStringS.l0]
    refine Ev.neg (by omega) (Ev.pure ?_)
    have := marked_length mt n
    rw [List.take_of_length_le (by omega), List.take_of_length_le (by omega)] at ht
    rw [ht, show i = n by omega]
  | d + 1, i, xs, hd, hx, ht => by
    have hlen := marked_length mt n
    have h1 : i < (marked mt n).length := by omega
    have ih := markS_l0 mt hmt n hn d (i + 1) (xs.set i (mt (i + 1))) (by omega) (by simp [hx]) (by
      have h2 : i < (xs.set i (mt (i + 1))).length := by simp; omega
      rw [List.take_succ_eq_append_getElem h2, List.take_succ_eq_append_getElem h1, List.take_set, List.set_eq_of_length_le (by simp; omega), ht]
      simp [marked])
    refine Ev.succ ?_
    simp only [laws_markStringS.l0, w1 (show 0 ≤ (i : Int) by omega) (show (i : Int) < 9223372036854775807 by omega), w1 (show 0 ≤ ((i + 1 : Nat) : Int) by omega) (show ((i + 1 : Nat) : Int) < 9223372036854775807 by omega)]
    exact Ev.pos (by omega) (Ev.bind (hmt (i + 1) (by omega)) (Ev.pos (by omega) ih))
theorem markS_ev {mt : Nat → ByteArray} (hmt : ∀ n : Nat, n ≤ 1048577 → Ev (fun k => laws_markText.f k (n : Int)) (mt n)) (xs : List ByteArray) (hn : xs.length ≤ 1048576) : Ev (fun k => laws_markStringS.f k xs 1) (((xs.length + 1 : Nat) : Int), marked mt xs.length) :=
  markS_l0 mt hmt xs.length hn xs.length 0 xs (by omega) rfl rfl

theorem heldS_l0 (mt : Nat → ByteArray) (hmt : ∀ n : Nat, n ≤ 1048577 → Ev (fun k => laws_markText.f k (n : Int)) (mt n)) (n : Nat) (hn : n ≤ 1048576) : ∀ (d i : Nat), i + d = n → Ev (fun k => laws_heldStringS.l0 k (marked mt n) ((i + 1 : Nat) : Int) (i : Int)) ((n + 1 : Nat) : Int)
  | 0, i, hd => by
    have hlen := marked_length mt n
    refine Ev.succ ?_
    simp only [laws_heldStringS.l0]
    exact Ev.neg (by omega) (Ev.pure (by rw [show i = n by omega]))
  | d + 1, i, hd => by
    have hlen := marked_length mt n
    have h1 : i < (marked mt n).length := by omega
    have ih := heldS_l0 mt hmt n hn d (i + 1) (by omega)
    refine Ev.succ ?_
    simp only [laws_heldStringS.l0, rdOf_nat _ i h1, w1 (show 0 ≤ (i : Int) by omega) (show (i : Int) < 9223372036854775807 by omega), w1 (show 0 ≤ ((i + 1 : Nat) : Int) by omega) (show ((i + 1 : Nat) : Int) < 9223372036854775807 by omega)]
    exact Ev.pos (by omega) (Ev.pos (by omega) (Ev.bind (hmt (i + 1) (by omega)) (Ev.pos (by simp [marked]) ih)))
theorem heldS_ev {mt : Nat → ByteArray} (hmt : ∀ n : Nat, n ≤ 1048577 → Ev (fun k => laws_markText.f k (n : Int)) (mt n)) (n : Nat) (hn : n ≤ 1048576) : Ev (fun k => laws_heldStringS.f k (marked mt n) 1) ((n + 1 : Nat) : Int) :=
  heldS_l0 mt hmt n hn n 0 (by omega)

theorem spec_in (a b c : Int) : spec_l1In.f a b c = some (decide (b ≤ a ∧ a ≤ c)) := by
  unfold spec_l1In.f
  by_cases h : a ≥ b
  · rw [if_pos h]; simp [h]
  · rw [if_neg h]; simp; omega

theorem impl_in_eq (a b c : Int) : impl_in.f a b c = some (decide (b ≤ a ∧ a ≤ c)) := by
  unfold impl_in.f
  by_cases h : b ≤ a
  · rw [if_pos h]; simp [h]
  · rw [if_neg h]; simp [h]

theorem bt_nat (s : ByteArray) (i : Nat) (h : i < s.data.toList.length) : bt s (i : Int) = ((s.data.toList[i]).toNat : Int) := by
  have h' : i < s.size := by have e : s.size = s.data.toList.length := Array.length_toList.symm; omega
  unfold bt
  rw [dif_pos (show (i : Int).toNat < s.size by simpa using h')]
  simp [ByteArray.getElem_eq_getElem_data]
theorem size_data (s : ByteArray) : s.size = s.data.toList.length := Array.length_toList.symm
theorem letter_test (c : UInt8) : ((c.toNat : Int) < 97 ∨ ((c.toNat : Int) - 97) % 256 ≥ 3) ↔ isLetter c = false := by
  have := c.toNat_lt
  unfold isLetter
  rw [decide_eq_false_iff_not]
  omega
theorem wdIs_l0 (s : ByteArray) (hs : s.size < 4611686018427387904) : ∀ (d i : Nat), i + d = s.data.toList.length → Ev (fun k => spec_wdIs.l0 k s (i : Int)) ((s.data.toList.drop i).all isLetter)
  | 0, i, hd => by
    refine Ev.succ ?_
    simp only [spec_wdIs.l0]
    exact Ev.neg (by rw [size_data]; omega) (Ev.pure (by rw [List.drop_of_length_le (by omega)]; rfl))
  | d + 1, i, hd => by
    have h1 : i < s.data.toList.length := by omega
    have ih := wdIs_l0 s hs d (i + 1) (by omega)
    have ht := letter_test s.data.toList[i]
    have hsz := size_data s
    rw [List.drop_eq_getElem_cons h1, List.all_cons]
    refine Ev.succ ?_
    simp only [spec_wdIs.l0, bt_nat s i h1, w1 (show 0 ≤ (i : Int) by omega) (show (i : Int) < 9223372036854775807 by omega)]
    refine Ev.pos (by omega) (Ev.pos (by omega) (Ev.cases (fun h => ?_) (fun h => Ev.cases (fun h' => ?_) (fun h' => ?_))))
    · rw [ht.1 (Or.inl h)]; exact Ev.now _
    · rw [ht.1 (Or.inr h')]; exact Ev.now _
    · have : isLetter s.data.toList[i] = true := by
        cases hl : isLetter s.data.toList[i]
        · exact absurd (ht.2 hl) (by omega)
        · rfl
      rw [this, Bool.true_and]; exact ih
theorem wdIs_ev (s : ByteArray) (hs : s.size < 4611686018427387904) : Ev (fun k => spec_wdIs.f k s) (s.data.toList.all isLetter) := by
  have h := wdIs_l0 s hs s.data.toList.length 0 (by omega)
  simpa [spec_wdIs.f] using h

/-- a word of a set -/
def short (s : ByteArray) : Bool := decide (1 ≤ s.size ∧ s.size ≤ 8) && s.data.toList.all isLetter
theorem wdShort_ev (s : ByteArray) : Ev (fun k => spec_wdShort.f k s) (short s) := by
  unfold spec_wdShort.f short
  refine Ev.known (fun _ => spec_in _ _ _) (Ev.cases (fun h => ?_) (fun h => ?_))
  · have h' := of_decide_eq_true h
    rw [decide_eq_true (show 1 ≤ s.size ∧ s.size ≤ 8 by omega), Bool.true_and]
    exact Ev.bind (wdIs_ev s (by omega)) (Ev.now _)
  · rw [decide_eq_false (show ¬ (1 ≤ s.size ∧ s.size ≤ 8) by intro hh; exact h (decide_eq_true (by omega))), Bool.false_and]
    exact Ev.now _
theorem isShort_eq (s : ByteArray) : impl_isShort.f s = some (short s) := by
  unfold impl_isShort.f impl_isWord.f short
  by_cases h : 1 ≤ s.size ∧ s.size ≤ 8
  · rw [decide_eq_true h, decide_eq_true (show s.size ≤ 60 by omega)]
    cases s.data.toList.all isLetter
    · rfl
    · simp [impl_in_eq]; omega
  · rw [decide_eq_false h]
    cases (decide (s.size ≤ 60) && s.data.toList.all isLetter)
    · rfl
    · simp [impl_in_eq]; omega
theorem bytesLess_cmp : ∀ (x y : List UInt8), Op.bytesLess x y = decide (Lib.compareBytes x y < 0)
  | [], [] => by simp [Op.bytesLess, Lib.compareBytes]
  | _ :: _, [] => by simp [Op.bytesLess, Lib.compareBytes]
  | [], _ :: _ => by simp [Op.bytesLess, Lib.compareBytes]
  | a :: x, b :: y => by
    rw [Op.bytesLess, bytesLess_cmp x y, Lib.compareBytes]
    by_cases h1 : a < b
    · simp [h1]
    · by_cases h2 : b < a
      · have : (a == b) = false := by
          rw [beq_eq_false_iff_ne]; rintro rfl; exact h1 h2
        simp [h1, h2, this]
      · have : a = b := by
          have h1' : ¬ a.toNat < b.toNat := h1
          have h2' : ¬ b.toNat < a.toNat := h2
          exact UInt8.toNat_inj.1 (by omega)
        subst this; simp [h1]
theorem bytesLess_irrefl : ∀ (x : List UInt8), Op.bytesLess x x = false
  | [] => rfl
  | a :: x => by rw [Op.bytesLess, bytesLess_irrefl x]; simp
theorem bytesLess_trans : ∀ (x y z : List UInt8), Op.bytesLess x y = true → Op.bytesLess y z = true → Op.bytesLess x z = true
  | _, [], _ => by simp [Op.bytesLess]
  | _, _ :: _, [] => by simp [Op.bytesLess]
  | [], _ :: _, _ :: _ => by simp [Op.bytesLess]
  | a :: x, b :: y, c :: z => by
    have ih := bytesLess_trans x y z
    simp only [Op.bytesLess, Bool.or_eq_true, decide_eq_true_eq, Bool.and_eq_true, beq_iff_eq]
    intro h1 h2
    rcases h1 with h1 | ⟨rfl, h1⟩
    · rcases h2 with h2 | ⟨rfl, h2⟩
      · exact Or.inl (UInt8.lt_trans h1 h2)
      · exact Or.inl h1
    · rcases h2 with h2 | ⟨rfl, h2⟩
      · exact Or.inl h2
      · exact Or.inr ⟨rfl, ih h1 h2⟩
/-- the order of words: by length, then by letters -/
def wless (a b : ByteArray) : Bool := decide (a.size < b.size) || (decide (a.size = b.size) && Op.bytesLess a.data.toList b.data.toList)
theorem wless_irrefl (a : ByteArray) : wless a a = false := by unfold wless; rw [bytesLess_irrefl]; simp
theorem wless_trans (a b c : ByteArray) (h1 : wless a b = true) (h2 : wless b c = true) : wless a c = true := by
  unfold wless at *
  simp only [Bool.or_eq_true, decide_eq_true_eq, Bool.and_eq_true] at *
  rcases h1 with h1 | ⟨h1, g1⟩ <;> rcases h2 with h2 | ⟨h2, g2⟩
  · left; omega
  · left; omega
  · left; omega
  · exact Or.inr ⟨by omega, bytesLess_trans _ _ _ g1 g2⟩
theorem wdLess_eq (a b : ByteArray) : spec_wdLess.f a b = some (wless a b) := by
  unfold spec_wdLess.f wless
  by_cases h : a.size < b.size
  · rw [if_pos (by omega)]; simp [h]
  · rw [if_neg (by omega)]
    by_cases h' : a.size = b.size
    · rw [if_pos (by omega)]; simp [h', ByteArray.toList_eq]
    · rw [if_neg (by omega)]; simp [h, h']
theorem or2 (a b : Int) : Ev (fun k => cmp_Or_int.f k [a, b]) (if a = 0 then b else a) := by
  refine ⟨3, fun k hk => ?_⟩
  obtain ⟨k, rfl⟩ : ∃ m, k = m + 3 := ⟨k - 3, by omega⟩
  by_cases ha : a = 0 <;> by_cases hb : b = 0 <;> simp [cmp_Or_int.f, cmp_Or_int.l0, rd, wrap64, ha, hb]
theorem compareWords_ev (a b : ByteArray) : ∃ c, Ev (fun k => impl_compareWords.f k a b) c ∧ wless a b = decide (c < 0) := by
  have hn : ∀ x : Int, cmp_isNaN_int.f x = some false := fun x => by simp [cmp_isNaN_int.f]
  have hc : cmp_Compare_int.f (a.size : Int) (b.size : Int) = some (if a.size < b.size then -1 else if b.size < a.size then 1 else 0) := by
    unfold cmp_Compare_int.f
    simp only [hn, Option.bind_some]
    rw [if_neg (by simp), if_neg (by simp)]
    by_cases h1 : a.size < b.size
    · rw [if_pos (by omega), if_pos h1]
    · rw [if_neg (by omega), if_neg h1]
      by_cases h2 : b.size < a.size
      · rw [if_pos (by omega), if_pos h2]
      · rw [if_neg (by omega), if_neg h2]
  refine ⟨_, Ev.known (fun _ => hc) (Ev.known (fun _ => rfl) (Ev.bind (or2 _ _) (Ev.now _))), ?_⟩
  unfold wless
  rw [bytesLess_cmp]
  by_cases h1 : a.size < b.size
  · simp [h1]
  · by_cases h2 : b.size < a.size
    · rw [if_neg h1, if_pos h2]; simp [h1, show ¬ a.size = b.size by omega]
    · rw [if_neg h1, if_neg h2]; simp [h1, show a.size = b.size by omega]
/-- a set: words of the right size, one by one in order -/
def SetUpto (l : List ByteArray) (i : Nat) : Prop := ∀ (j : Nat) (h : j < l.length), i ≤ j → short l[j] = true ∧ (0 < j → wless l[j - 1] l[j] = true)
theorem set_l0 (l : List ByteArray) (hl : l.length ≤ 1048576) : ∀ (d i : Nat), i + d = l.length → ∃ b, Ev (fun k => spec_wdSet.l0 k l l (l.length : Int) (i : Int)) b ∧ Ev (fun k => impl_isSet.l0 k l l (l.length : Int) (i : Int)) (b && decide (l.length ≤ 12)) ∧ (b = true → SetUpto l i)
  | 0, i, hd => by
    refine ⟨true, Ev.succ ?_, Ev.succ ?_, fun _ j h hj => by omega⟩
    · simp only [spec_wdSet.l0]; exact Ev.neg (by omega) (Ev.now _)
    · simp only [impl_isSet.l0]; refine Ev.neg (by omega) (Ev.pure ?_); rw [Bool.true_and]; exact decide_eq_decide.2 (by omega)
  | d + 1, i, hd => by
    have h1 : i < l.length := by omega
    obtain ⟨b, e1, e2, hb⟩ := set_l0 l hl d (i + 1) (by omega)
    have s1 := wdShort_ev l[i]
    have s2 := isShort_eq l[i]
    cases hs : short l[i]
    · rw [hs] at s1 s2
      refine ⟨false, Ev.succ ?_, Ev.succ ?_, fun h => by cases h⟩
      · simp only [spec_wdSet.l0, rdOf_nat l i h1]
        exact Ev.pos (by omega) (Ev.pos (by omega) (Ev.pos (by omega) (Ev.bind s1 (Ev.neg (by simp) (Ev.now _)))))
      · simp only [impl_isSet.l0, rdOf_nat l i h1]
        exact Ev.pos (by omega) (Ev.pos (by omega) (Ev.pos (by omega) (Ev.known (fun _ => s2) (Ev.neg (by simp) (Ev.now _)))))
    · rw [hs] at s1 s2
      by_cases h0 : i = 0
      · refine ⟨b, Ev.succ ?_, Ev.succ ?_, fun h j hj hij => ?_⟩
        · simp only [spec_wdSet.l0, rdOf_nat l i h1, w1 (show 0 ≤ (i : Int) by omega) (show (i : Int) < 9223372036854775807 by omega)]
          exact Ev.pos (by omega) (Ev.pos (by omega) (Ev.pos (by omega) (Ev.bind s1 (Ev.pos rfl (Ev.neg (by omega) e1)))))
        · simp only [impl_isSet.l0, rdOf_nat l i h1, w1 (show 0 ≤ (i : Int) by omega) (show (i : Int) < 9223372036854775807 by omega)]
          exact Ev.pos (by omega) (Ev.pos (by omega) (Ev.pos (by omega) (Ev.known (fun _ => s2) (Ev.pos rfl (Ev.neg (by omega) e2)))))
        · by_cases he : i = j
          · subst he; exact ⟨hs, fun h => by omega⟩
          · exact hb h j hj (by omega)
      · obtain ⟨c, hc, hw⟩ := compareWords_ev l[i - 1] l[i]
        have e3 : Aside0 (wrap64 ((i : Int) - 1) = ((i - 1 : Nat) : Int)) := ⟨by rw [w64 (by omega) (by omega)]; omega⟩
        have l1 := wdLess_eq l[i - 1] l[i]
        refine ⟨wless l[i - 1] l[i] && b, Ev.succ ?_, Ev.succ ?_, fun h j hj hij => ?_⟩
        · simp only [spec_wdSet.l0, rdOf_nat l i h1, e3.out, rdOf_nat l (i - 1) (by omega), w1 (show 0 ≤ (i : Int) by omega) (show (i : Int) < 9223372036854775807 by omega)]
          refine Ev.pos (by omega) (Ev.pos (by omega) (Ev.pos (by omega) (Ev.bind s1 (Ev.pos rfl (Ev.pos (by omega) (Ev.pos (by omega) (Ev.pos (by omega) (Ev.known (fun _ => l1) (Ev.cases (fun h => ?_) (fun h => ?_))))))))))
          · rw [h, Bool.true_and]; exact e1
          · rw [Bool.eq_false_iff.mpr h, Bool.false_and]; exact Ev.now _
        · simp only [impl_isSet.l0, rdOf_nat l i h1, e3.out, rdOf_nat l (i - 1) (by omega), w1 (show 0 ≤ (i : Int) by omega) (show (i : Int) < 9223372036854775807 by omega)]
          refine Ev.pos (by omega) (Ev.pos (by omega) (Ev.pos (by omega) (Ev.known (fun _ => s2) (Ev.pos rfl (Ev.pos (by omega) (Ev.pos (by omega) (Ev.pos (by omega) (Ev.bind hc (Ev.cases (fun h => ?_) (fun h => ?_))))))))))
          · rw [hw, decide_eq_false (by omega)]; exact Ev.now _
          · rw [hw, decide_eq_true (by omega)]; exact e2
        · simp only [Bool.and_eq_true] at h
          by_cases he : i = j
          · subst he; exact ⟨hs, fun _ => h.1⟩
          · exact hb h.2 j hj (by omega)
/-- what a set is -/
structure IsSet (l : List ByteArray) : Prop where
  few : l.length ≤ 12
  each : SetUpto l 0
theorem isSet_same (l : List ByteArray) (hl : l.length ≤ 1048576) : ∃ b, Ev (fun k => spec_wdSet.f k l) b ∧ Ev (fun k => impl_isSet.f k l) b ∧ (b = true → IsSet l) := by
  obtain ⟨b, h1, h2, hb⟩ := set_l0 l hl l.length 0 (by omega)
  unfold spec_wdSet.f impl_isSet.f
  by_cases h12 : l.length ≤ 12
  · rw [decide_eq_true h12, Bool.and_true] at h2
    exact ⟨b, Ev.neg (by omega) h1, h2, fun h => ⟨h12, hb h⟩⟩
  · rw [decide_eq_false h12, Bool.and_false] at h2
    exact ⟨false, Ev.pos (by omega) (Ev.now _), h2, fun h => by cases h⟩
theorem IsSet.lt {l : List ByteArray} (h : IsSet l) : ∀ (j i : Nat) (hj : j < l.length) (hi : i < j), wless l[i] l[j] = true
  | 0, i, hj, hi => by omega
  | j + 1, i, hj, hi => by
    have h1 := (h.each (j + 1) hj (by omega)).2 (by omega)
    by_cases e : i = j
    · subst e; exact h1
    · exact wless_trans _ _ _ (h.lt j i (by omega) (by omega)) h1
theorem IsSet.short {l : List ByteArray} (h : IsSet l) (w : ByteArray) (hw : w ∈ l) : Pure.short w = true := by
  obtain ⟨i, hi, rfl⟩ := List.getElem_of_mem hw
  exact (h.each i hi (by omega)).1
theorem IsSet.size {l : List ByteArray} (h : IsSet l) (w : ByteArray) (hw : w ∈ l) : 1 ≤ w.size ∧ w.size ≤ 8 := by
  have := h.short w hw
  unfold Pure.short at this
  simp only [Bool.and_eq_true, decide_eq_true_eq] at this
  exact this.1

/-- a text's letters -/
abbrev ch (s : ByteArray) : List UInt8 := s.data.toList
theorem ch_length (s : ByteArray) : (ch s).length = s.size := Array.length_toList
theorem ch_extract (s : ByteArray) (a b : Nat) : ch (s.extract a b) = ((ch s).drop a).take (b - a) := by
  simp [ch, ByteArray.data_extract, Array.toList_extract, List.extract_eq_take_drop]
theorem ch_drop (s : ByteArray) (a : Nat) : ch (s.extract a s.size) = (ch s).drop a := by
  rw [ch_extract, List.take_of_length_le]; simp only [List.length_drop, ch_length]; omega
theorem begins_test (a w : ByteArray) (h : w.size ≤ a.size) : ((a.extract 0 w.size).toList == w.toList) = (ch w).isPrefixOf (ch a) := by
  rw [ByteArray.toList_eq, ByteArray.toList_eq]
  change (ch (a.extract 0 w.size) == ch w) = _
  rw [ch_extract, List.drop_zero, Nat.sub_zero, ← ch_length w, Bool.eq_iff_iff, beq_iff_eq, List.isPrefixOf_iff_prefix, List.prefix_iff_eq_take]
  exact eq_comm
theorem prefix_long (a w : ByteArray) (h : ¬ w.size ≤ a.size) : (ch w).isPrefixOf (ch a) = false := by
  rw [Bool.eq_false_iff]
  intro hp
  have := (List.isPrefixOf_iff_prefix.1 hp).length_le
  rw [ch_length, ch_length] at this
  exact h this
theorem toList_ch (s : ByteArray) : s.toList = ch s := ByteArray.toList_eq s
theorem chNe (l : List ByteArray) (hne : ∀ w ∈ l, 1 ≤ w.size) : ∀ t ∈ l.map ch, t ≠ [] := fun t ht => by
  obtain ⟨w, hw, rfl⟩ := List.mem_map.1 ht
  intro e; have := hne w hw; have := ch_length w; rw [e] at this; simp at this; omega

/-- a loop from the first place to the last one, with what is so at each place -/
theorem Ev.loop {R : Type} (g : Nat → Nat → Option R) (n : Nat) (r : R) (hstep : ∀ i, i < n → Ev (g (i + 1)) r → Ev (g i) r) (hend : Ev (g n) r) : Ev (g 0) r := by
  have h : ∀ d i, i + d = n → Ev (g i) r := by
    intro d
    induction d with
    | zero => intro i hi; rw [show i = n by omega]; exact hend
    | succ d ih => intro i hi; exact hstep i (by omega) (ih (i + 1) (by omega))
  exact h n 0 (by omega)

/-- a text out of its letters -/
def bx (x : List UInt8) : ByteArray := ⟨x.toArray⟩
theorem ch_bx (x : List UInt8) : ch (bx x) = x := by simp [ch, bx]
theorem bx_ch (s : ByteArray) : bx (ch s) = s := by simp [ch, bx]
theorem ch_inj' {a b : ByteArray} (h : ch a = ch b) : a = b := ByteArray.ext (Array.toList_inj.1 h)
theorem map_ch_bx (l : List (List UInt8)) : (l.map bx).map ch = l := by simp [Function.comp_def, ch_bx]
theorem map_bx_ch (l : List ByteArray) : (l.map ch).map bx = l := by simp [Function.comp_def, bx_ch]
theorem bx_size (x : List UInt8) : (bx x).size = x.length := by rw [← ch_length, ch_bx]
/-- words in order, each once, as texts -/
def bas (M : List (List UInt8)) : List ByteArray := (ordL M).map bx
theorem ordL_congr {M N : List (List UInt8)} (h : ∀ x, x ∈ M ↔ x ∈ N) : ordL M = ordL N := rises_unique _ _ (ordL_rises M) (ordL_rises N) (fun x => by rw [mem_ordL, mem_ordL]; exact h x)
theorem bas_congr {M N : List (List UInt8)} (h : ∀ x, x ∈ M ↔ x ∈ N) : bas M = bas N := by unfold bas; rw [ordL_congr h]
theorem ch_bas (M : List (List UInt8)) : (bas M).map ch = ordL M := map_ch_bx _
theorem bas_of (r : List ByteArray) (M : List (List UInt8)) (hr : (r.map ch).Pairwise fun x y => wcmp x y < 0) (hm : ∀ x, x ∈ r.map ch ↔ x ∈ M) : r = bas M := by
  unfold bas
  rw [← rises_unique (r.map ch) (ordL M) hr (ordL_rises M) (fun x => by rw [hm, mem_ordL]), map_bx_ch]
theorem ordL_len (M : List (List UInt8)) : (ordL M).length ≤ M.length := by
  unfold ordL Lib.compact Lib.compactUpTo
  rw [List.length_map]
  refine Nat.le_trans (List.length_filter_le _ _) ?_
  rw [List.length_range, (sortW_perm M).length_eq]
  exact Nat.le_refl _
theorem bas_len (M : List (List UInt8)) : (bas M).length ≤ M.length := by unfold bas; rw [List.length_map]; exact ordL_len M
theorem ordL_ordL (M : List (List UInt8)) : ordL (ordL M) = ordL M := ordL_congr (fun x => mem_ordL M x)
theorem bas_nil : bas [] = [] := (bas_of [] [] (by simp) (by simp)).symm
theorem bas_one (x : List UInt8) : bas [x] = [bx x] := by
  symm
  exact bas_of _ _ (by simp) (by intro y; simp [ch_bx])
theorem ordL_nodup (M : List (List UInt8)) : (ordL M).Nodup := (ordL_rises M).imp fun {a b} h e => by rw [e, wcmp_self] at h; omega
theorem wless_wcmp (a b : ByteArray) : wless a b = decide (wcmp (ch a) (ch b) < 0) := by
  unfold wless wcmp
  rw [ch_length, ch_length, bytesLess_cmp]
  by_cases h1 : a.size < b.size
  · simp [h1]
  · by_cases h2 : b.size < a.size
    · simp [h1, h2, show ¬ a.size = b.size by omega]
    · simp [h1, show a.size = b.size by omega]
theorem ordered_eq (l : List ByteArray) (h : l.length ≤ 8796093021952) : impl_ordered.f l = some (bas (l.map ch)) := by
  unfold impl_ordered.f
  rw [if_pos h]; rfl

theorem wdPut_l0 (L : List ByteArray) (s : ByteArray) (hL : L.length ≤ 8796093000000) (hr : (L.map ch).Pairwise fun x y => wcmp x y < 0) : ∀ (d i : Nat), i + d = L.length → (∀ j (h : j < L.length), j < i → wcmp (ch L[j]) (ch s) < 0) → ∃ r, Ev (fun k => spec_wdPut.l0 k L s (i : Int)) r ∧ (r.map ch).Pairwise (fun x y => wcmp x y < 0) ∧ ∀ x, x ∈ r.map ch ↔ x ∈ L.map ch ++ [ch s] := by
  have fin : ∀ i, i ≤ L.length → (∀ j (h : j < L.length), j < i → wcmp (ch L[j]) (ch s) < 0) → (∀ j (h : j < L.length), i ≤ j → wcmp (ch s) (ch L[j]) < 0) → ((L.take i ++ [s] ++ L.drop i).map ch).Pairwise (fun x y => wcmp x y < 0) ∧ ∀ x, x ∈ (L.take i ++ [s] ++ L.drop i).map ch ↔ x ∈ L.map ch ++ [ch s] := by
    intro i hi h1 h2
    refine ⟨?_, fun x => ?_⟩
    · rw [List.map_append, List.map_append, List.map_cons, List.map_nil, List.pairwise_append, List.pairwise_append]
      refine ⟨⟨?_, by simp, ?_⟩, ?_, ?_⟩
      · rw [List.map_take]; exact hr.sublist (List.take_sublist _ _)
      · intro a ha b hb
        rw [List.mem_singleton] at hb
        subst hb
        obtain ⟨y, hy, rfl⟩ := List.mem_map.1 ha
        obtain ⟨j, hj, rfl⟩ := List.getElem_of_mem hy
        rw [List.length_take] at hj
        rw [List.getElem_take]
        exact h1 j (by omega) (by omega)
      · rw [List.map_drop]; exact hr.sublist (List.drop_sublist _ _)
      · intro a ha b hb
        obtain ⟨y, hy, rfl⟩ := List.mem_map.1 hb
        obtain ⟨j, hj, rfl⟩ := List.getElem_of_mem hy
        rw [List.length_drop] at hj
        rw [List.getElem_drop]
        have hb' := h2 (i + j) (by omega) (by omega)
        rcases List.mem_append.1 ha with ha | ha
        · obtain ⟨y, hy, rfl⟩ := List.mem_map.1 ha
          obtain ⟨j', hj', rfl⟩ := List.getElem_of_mem hy
          rw [List.length_take] at hj'
          rw [List.getElem_take]
          exact wcmp_trans _ _ _ (h1 j' (by omega) (by omega)) hb'
        · rw [List.mem_singleton] at ha
          subst ha
          exact hb'
    · have := List.take_append_drop i L
      constructor
      · intro hx
        obtain ⟨y, hy, rfl⟩ := List.mem_map.1 hx
        rcases List.mem_append.1 hy with hy | hy
        · rcases List.mem_append.1 hy with hy | hy
          · exact List.mem_append_left _ (List.mem_map.2 ⟨y, List.mem_of_mem_take hy, rfl⟩)
          · rw [List.mem_singleton] at hy; subst hy; exact List.mem_append_right _ (by simp)
        · exact List.mem_append_left _ (List.mem_map.2 ⟨y, List.mem_of_mem_drop hy, rfl⟩)
      · intro hx
        rcases List.mem_append.1 hx with hx | hx
        · obtain ⟨y, hy, rfl⟩ := List.mem_map.1 hx
          refine List.mem_map.2 ⟨y, ?_, rfl⟩
          rw [← this] at hy
          rcases List.mem_append.1 hy with hy | hy
          · exact List.mem_append_left _ (List.mem_append_left _ hy)
          · exact List.mem_append_right _ hy
        · rw [List.mem_singleton] at hx; subst hx
          exact List.mem_map.2 ⟨s, List.mem_append_left _ (List.mem_append_right _ (by simp)), rfl⟩
  intro d
  induction d with
  | zero =>
    intro i hd h1
    obtain ⟨p, q⟩ := fin i (by omega) h1 (fun j hj h => by omega)
    refine ⟨_, Ev.succ ?_, p, q⟩
    simp only [spec_wdPut.l0, Int.toNat_natCast, Option.bind_some]
    exact Ev.neg (by omega) (Ev.pos (by omega) (Ev.pos (by omega) (Ev.pos (by simp; omega) (Ev.pos (by simp; omega) (Ev.pos (by simp; omega) (Ev.pure (by simp)))))))
  | succ d ih =>
    intro i hd h1
    have hi : i < L.length := by omega
    have hw := wless_wcmp L[i] s
    by_cases hl : wcmp (ch L[i]) (ch s) < 0
    · obtain ⟨r, r1, r2, r3⟩ := ih (i + 1) (by omega) (fun j hj h => by
        by_cases e : j = i
        · subst e; exact hl
        · exact h1 j hj (by omega))
      refine ⟨r, Ev.succ ?_, r2, r3⟩
      simp only [spec_wdPut.l0, rdOf_nat L i hi, w1 (show 0 ≤ (i : Int) by omega) (show (i : Int) < 9223372036854775807 by omega)]
      exact Ev.pos (by omega) (Ev.pos (by omega) (Ev.known (fun _ => wdLess_eq _ _) (Ev.pos (by rw [hw]; simpa using hl) r1)))
    · by_cases he : ch L[i] = ch s
      · refine ⟨L, Ev.succ ?_, hr, fun x => ?_⟩
        · simp only [spec_wdPut.l0, rdOf_nat L i hi, toList_ch]
          exact Ev.pos (by omega) (Ev.pos (by omega) (Ev.known (fun _ => wdLess_eq _ _) (Ev.neg (by rw [hw]; simpa using hl) (Ev.pos he (Ev.now _)))))
        · rw [List.mem_append, List.mem_singleton]
          constructor
          · exact Or.inl
          · rintro (h | rfl)
            · exact h
            · exact List.mem_map.2 ⟨L[i], List.getElem_mem hi, he⟩
      · have hgt : wcmp (ch s) (ch L[i]) < 0 := by
          have := wcmp_anti (ch L[i]) (ch s)
          have h0 : wcmp (ch L[i]) (ch s) ≠ 0 := fun h => he (wcmp_zero _ _ h)
          omega
        obtain ⟨p, q⟩ := fin i (by omega) h1 (fun j hj h => by
          by_cases e : j = i
          · subst e; exact hgt
          · have := List.pairwise_iff_getElem.1 hr i j (by simpa using hi) (by simpa using hj) (by omega)
            rw [List.getElem_map, List.getElem_map] at this
            exact wcmp_trans _ _ _ hgt this)
        refine ⟨_, Ev.succ ?_, p, q⟩
        simp only [spec_wdPut.l0, rdOf_nat L i hi, toList_ch, Int.toNat_natCast, Option.bind_some]
        exact Ev.pos (by omega) (Ev.pos (by omega) (Ev.known (fun _ => wdLess_eq _ _) (Ev.neg (by rw [hw]; simpa using hl) (Ev.neg he (Ev.pos (by omega) (Ev.pos (by simp; omega) (Ev.pos (by simp; omega) (Ev.pos (by simp; omega) (Ev.pure (by simp))))))))))
theorem wdPut_ev (M : List (List UInt8)) (s : ByteArray) (hM : M.length ≤ 8796093000000) : Ev (fun k => spec_wdPut.f k (bas M) s) (bas (M ++ [ch s])) := by
  have hl := bas_len M
  obtain ⟨r, r1, r2, r3⟩ := wdPut_l0 (bas M) s (by omega) (by rw [ch_bas]; exact ordL_rises M) (bas M).length 0 (by omega) (fun j _ h => by omega)
  rw [← bas_of r (M ++ [ch s]) r2 (fun x => by rw [r3, ch_bas, List.mem_append, List.mem_append, mem_ordL])]
  exact r1

theorem nodupLe {α : Type} [DecidableEq α] : ∀ (M N : List α), M.Nodup → M ⊆ N → M.length ≤ N.length
  | [], _, _, _ => Nat.zero_le _
  | x :: M, N, hn, hs => by
    have hx : x ∈ N := hs (by simp)
    have hn' := List.nodup_cons.1 hn
    have := nodupLe M (N.erase x) hn'.2 (fun y hy => (List.mem_erase_of_ne (by rintro rfl; exact hn'.1 hy)).2 (hs (by simp [hy])))
    have h1 := List.length_erase_of_mem hx
    have h2 := List.length_pos_of_mem hx
    simp only [List.length_cons]
    omega

/-- a word that some words write -/
def Wr (S : List (List UInt8)) (x : List UInt8) : Prop := ∃ ps : List (List UInt8), (∀ p, p ∈ ps → p ∈ S) ∧ x = ps.flatten
theorem Wr.nil (S : List (List UInt8)) : Wr S [] := ⟨[], by simp, rfl⟩
theorem Wr.snoc {S : List (List UInt8)} {x t : List UInt8} (h : Wr S x) (ht : t ∈ S) : Wr S (x ++ t) := by
  obtain ⟨ps, h1, rfl⟩ := h
  refine ⟨ps ++ [t], fun p hp => ?_, by simp⟩
  rcases List.mem_append.1 hp with hp | hp
  · exact h1 p hp
  · rw [List.mem_singleton] at hp; exact hp ▸ ht
theorem Wr.closed {S M : List (List UInt8)} {n : Nat} (h0 : [] ∈ M) (hc : ∀ x, x ∈ M → ∀ t, t ∈ S → x.length + t.length ≤ n → x ++ t ∈ M) : ∀ x, Wr S x → x.length ≤ n → x ∈ M := by
  have h : ∀ (ps : List (List UInt8)), (∀ p, p ∈ ps → p ∈ S) → ∀ x0, x0 ∈ M → (x0 ++ ps.flatten).length ≤ n → x0 ++ ps.flatten ∈ M := by
    intro ps
    induction ps with
    | nil => intro _ x0 h _; simpa using h
    | cons p ps ih =>
      intro hp x0 hx hl
      rw [List.flatten_cons, ← List.append_assoc] at hl ⊢
      refine ih (fun q hq => hp q (List.mem_cons_of_mem _ hq)) (x0 ++ p) (hc x0 hx p (hp p (by simp)) ?_) hl
      simp only [List.length_append] at hl
      omega
  rintro x ⟨ps, hps, rfl⟩ hl
  simpa using h ps hps [] h0 (by simpa using hl)
theorem ch_app (s t : ByteArray) : ch (s ++ t) = ch s ++ ch t := by simp [ch]
theorem hasS_iff (out : List ByteArray) (s : ByteArray) : hasS out s = true ↔ ch s ∈ out.map ch := by
  unfold hasS
  simp only [List.any_eq_true, beq_iff_eq, toList_ch, List.mem_map]
  exact exists_congr fun y => and_congr_right fun _ => eq_comm
theorem wrNext_mem (l : List ByteArray) (n : Nat) (now : List ByteArray) (x : List UInt8) : x ∈ (wrNext l (n : Int) now).map ch ↔ ∃ a, a ∈ now.map ch ∧ ∃ t, t ∈ l.map ch ∧ a.length + t.length ≤ n ∧ x = a ++ t := by
  unfold wrNext wrOf
  simp only [List.mem_map, List.mem_flatMap, List.mem_filter, decide_eq_true_eq]
  constructor
  · rintro ⟨y, ⟨s, hs, t, ⟨ht, hl⟩, rfl⟩, rfl⟩
    exact ⟨ch s, ⟨s, hs, rfl⟩, ch t, ⟨t, ht, rfl⟩, by rw [ch_length, ch_length]; omega, ch_app s t⟩
  · rintro ⟨_, ⟨s, hs, rfl⟩, _, ⟨t, ht, rfl⟩, hl, rfl⟩
    rw [ch_length, ch_length] at hl
    exact ⟨s ++ t, ⟨s, hs, t, ⟨ht, by omega⟩, rfl⟩, ch_app s t⟩
theorem pow9 (d : Nat) (h : d ≤ 9) : 12 ^ d ≤ 5159780352 := Nat.le_trans (Nat.pow_le_pow_right (by omega) h) (by decide)
theorem pow12 (d : Nat) (h : d ≤ 11) : 12 ^ d ≤ 743008370688 := Nat.le_trans (Nat.pow_le_pow_right (by omega) h) (by decide)
/-- what the program's search holds at its round d -/
structure WrInv (l : List ByteArray) (n d : Nat) (now out : List ByteArray) : Prop where
  nl : now.length ≤ 12 ^ d
  ol : out.length ≤ 12 ^ (d + 1)
  nw : ∀ x, x ∈ now.map ch → Wr (l.map ch) x ∧ d ≤ x.length ∧ x.length ≤ n
  ow : ∀ x, x ∈ out.map ch → Wr (l.map ch) x ∧ 1 ≤ x.length ∧ x.length ≤ n
  cl : ∀ x, (x = [] ∨ x ∈ out.map ch) → x ∈ now.map ch ∨ ∀ t, t ∈ l.map ch → x.length + t.length ≤ n → x ++ t ∈ out.map ch
theorem written_run (l : List ByteArray) (n : Nat) (hn : n ≤ 8) (hl : l.length ≤ 12) (h1 : ∀ w ∈ l, 1 ≤ w.size) (h8 : ∀ w ∈ l, w.size ≤ 8) : ∀ (e d : Nat) (now out : List ByteArray), e + d = 9 → WrInv l n d now out →
    ∃ M : List (List UInt8), Ev (fun k => impl_written.l0 k l (n : Int) now out) (bas M) ∧ M.length ≤ 12 ^ 10 ∧ ∀ x, x ∈ M ↔ Wr (l.map ch) x ∧ 1 ≤ x.length ∧ x.length ≤ n := by
  have done : ∀ (d : Nat) (now out : List ByteArray), d ≤ 9 → WrInv l n d now out → now.length = 0 → ∃ M : List (List UInt8), Ev (fun k => impl_written.l0 k l (n : Int) now out) (bas M) ∧ M.length ≤ 12 ^ 10 ∧ ∀ x, x ∈ M ↔ Wr (l.map ch) x ∧ 1 ≤ x.length ∧ x.length ≤ n := by
    intro d now out hd hI h0
    have hp := Nat.pow_le_pow_right (show 0 < 12 by omega) (show d + 1 ≤ 10 by omega)
    have hol := hI.ol
    have hp10 := pow12 10 (by omega)
    refine ⟨out.map ch, Ev.succ ?_, by rw [List.length_map]; omega, fun x => ⟨hI.ow x, fun ⟨hw, hx1, hx2⟩ => ?_⟩⟩
    · simp only [impl_written.l0, ordered_eq out (show out.length ≤ 8796093021952 by omega)]
      exact Ev.pos h0 (Ev.now _)
    · have hnil : now = [] := List.eq_nil_of_length_eq_zero h0
      have := Wr.closed (S := l.map ch) (M := [] :: out.map ch) (n := n) (by simp) (fun y hy t ht hyt => by
        rcases hI.cl y (by simpa using hy) with h | h
        · rw [hnil] at h; simp at h
        · exact List.mem_cons_of_mem _ (h t ht hyt)) x hw hx2
      rcases List.mem_cons.1 this with rfl | h
      · simp at hx1
      · exact h
  intro e
  induction e with
  | zero =>
    intro d now out hed hI
    refine done d now out (by omega) hI ?_
    rcases now with _ | ⟨s, now⟩
    · rfl
    · have := hI.nw (ch s) (by simp)
      omega
  | succ e ih =>
    intro d now out hed hI
    by_cases h0 : now.length = 0
    · exact done d now out (by omega) hI h0
    · have hp0 := pow9 (d + 1) (by omega)
      have hp1 : 12 ^ (d + 1) = 12 ^ d * 12 := Nat.pow_succ ..
      have hp2 : 12 ^ (d + 1 + 1) = 12 ^ (d + 1) * 12 := Nat.pow_succ ..
      have hnl := hI.nl
      have hol := hI.ol
      have hmul : now.length * l.length ≤ 12 ^ d * 12 := Nat.mul_le_mul hnl hl
      have hfit : wrFits l now = true := by
        unfold wrFits
        simp only [Bool.and_eq_true, decide_eq_true_eq, List.all_eq_true]
        refine ⟨⟨by omega, fun s hs => ?_⟩, fun s hs => by have := h8 s hs; omega⟩
        have := (hI.nw (ch s) (List.mem_map.2 ⟨s, hs, rfl⟩)).2.2
        rw [ch_length] at this
        omega
      have hnx := wrNext_len l (n : Int) now
      have hord := ordered_eq (wrNext l (n : Int) now) (by omega)
      obtain ⟨t, ht⟩ : ∃ t, t = bas ((wrNext l (n : Int) now).map ch) := ⟨_, rfl⟩
      have htl : t.length ≤ 12 ^ (d + 1) := by
        have := bas_len ((wrNext l (n : Int) now).map ch)
        rw [List.length_map] at this
        rw [ht]; omega
      have hfl : (t.filter fun s => !hasS out s).length ≤ t.length := List.length_filter_le _ _
      have hfm : ∀ x, x ∈ (t.filter fun s => !hasS out s).map ch ↔ x ∈ (wrNext l (n : Int) now).map ch ∧ ¬ x ∈ out.map ch := by
        intro x
        have hmt : ∀ x, x ∈ t.map ch ↔ x ∈ (wrNext l (n : Int) now).map ch := fun x => by rw [ht, ch_bas, mem_ordL]
        rw [← hmt]
        constructor
        · intro hx
          obtain ⟨s, hs, rfl⟩ := List.mem_map.1 hx
          obtain ⟨hs1, hs2⟩ := List.mem_filter.1 hs
          refine ⟨List.mem_map.2 ⟨s, hs1, rfl⟩, fun hin => ?_⟩
          rw [(hasS_iff out s).2 hin] at hs2
          cases hs2
        · rintro ⟨hx, hno⟩
          obtain ⟨s, hs, rfl⟩ := List.mem_map.1 hx
          refine List.mem_map.2 ⟨s, List.mem_filter.2 ⟨hs, ?_⟩, rfl⟩
          cases hh : hasS out s with
          | false => rfl
          | true => exact absurd ((hasS_iff out s).1 hh) hno
      obtain ⟨M, m1, m2, m3⟩ := ih (d + 1) (t.filter fun s => !hasS out s) (out ++ t.filter fun s => !hasS out s) (by omega) (by
        refine ⟨by omega, by rw [List.length_append]; omega, fun x hx => ?_, fun x hx => ?_, fun x hx => ?_⟩
        · obtain ⟨a, ha, t, ht, hat, rfl⟩ := (wrNext_mem l n now x).1 ((hfm x).1 hx).1
          have hh := hI.nw a ha
          have ht1 : 1 ≤ t.length := by obtain ⟨w, hw, rfl⟩ := List.mem_map.1 ht; rw [ch_length]; exact h1 w hw
          exact ⟨hh.1.snoc ht, by rw [List.length_append]; omega, by rw [List.length_append]; omega⟩
        · rw [List.map_append, List.mem_append] at hx
          rcases hx with hx | hx
          · exact hI.ow x hx
          · obtain ⟨a, ha, t, ht, hat, rfl⟩ := (wrNext_mem l n now x).1 ((hfm x).1 hx).1
            have hh := hI.nw a ha
            have ht1 : 1 ≤ t.length := by obtain ⟨w, hw, rfl⟩ := List.mem_map.1 ht; rw [ch_length]; exact h1 w hw
            exact ⟨hh.1.snoc ht, by rw [List.length_append]; omega, by rw [List.length_append]; omega⟩
        · rw [List.map_append, List.mem_append] at hx
          have old : (x = [] ∨ x ∈ out.map ch) → x ∈ (t.filter fun s => !hasS out s).map ch ∨ ∀ u, u ∈ l.map ch → x.length + u.length ≤ n → x ++ u ∈ (out ++ t.filter fun s => !hasS out s).map ch := by
            intro hx
            right
            intro u hu hxu
            rw [List.map_append, List.mem_append]
            rcases hI.cl x hx with h | h
            · by_cases hin : x ++ u ∈ out.map ch
              · exact Or.inl hin
              · exact Or.inr ((hfm _).2 ⟨(wrNext_mem l n now _).2 ⟨x, h, u, hu, hxu, rfl⟩, hin⟩)
            · exact Or.inl (h u hu hxu)
          rcases hx with hx | hx | hx
          · exact old (Or.inl hx)
          · exact old (Or.inr hx)
          · exact Or.inl hx)
      refine ⟨M, Ev.succ ?_, m2, m3⟩
      simp only [impl_written.l0, hord, Option.bind_some]
      rw [← ht]
      exact Ev.neg h0 (Ev.pos hfit (Ev.pos (by omega) m1))
theorem written_impl (l : List ByteArray) (n : Nat) (hn : n ≤ 8) (hl : l.length ≤ 12) (h1 : ∀ w ∈ l, 1 ≤ w.size) (h8 : ∀ w ∈ l, w.size ≤ 8) :
    ∃ M : List (List UInt8), Ev (fun k => impl_written.f k l (n : Int)) (bas M) ∧ M.length ≤ 12 ^ 10 ∧ ∀ x, x ∈ M ↔ Wr (l.map ch) x ∧ 1 ≤ x.length ∧ x.length ≤ n := by
  unfold impl_written.f
  refine written_run l n hn hl h1 h8 9 0 [⟨#[]⟩] [] rfl ⟨by simp, by simp, fun x hx => ?_, by simp, fun x hx => ?_⟩
  · have : x = [] := by simpa [ch] using hx
    subst this
    exact ⟨Wr.nil _, by simp, by simp⟩
  · rcases hx with rfl | hx
    · exact Or.inl (by simp [ch])
    · simp at hx
/-- one word more, behind the place k -/
theorem ordL_insert (M : List (List UInt8)) (y : List UInt8) (k : Nat) (hk : k < (ordL M).length) (hy : wcmp (ordL M)[k] y < 0) : ∀ j, j ≤ k → (ordL (M ++ [y]))[j]? = (ordL M)[j]? := by
  have hr := ordL_rises M
  have hlt : ∀ z, z ∈ (ordL M).take (k + 1) → wcmp z y < 0 := fun z hz => by
    obtain ⟨j, hj, rfl⟩ := List.getElem_of_mem hz
    rw [List.length_take] at hj
    rw [List.getElem_take]
    by_cases e : j = k
    · subst e; exact hy
    · exact wcmp_trans _ _ _ (List.pairwise_iff_getElem.1 hr j k (by omega) hk (by omega)) hy
  have e : ordL (M ++ [y]) = (ordL M).filter (fun z => decide (wcmp z y < 0)) ++ [y] ++ (ordL M).filter (fun z => decide (wcmp y z < 0)) := by
    refine rises_unique _ _ (ordL_rises _) ?_ (fun x => ?_)
    · rw [List.pairwise_append, List.pairwise_append]
      refine ⟨⟨hr.sublist List.filter_sublist, by simp, fun a ha b hb => ?_⟩, hr.sublist List.filter_sublist, fun a ha b hb => ?_⟩
      · rw [List.mem_singleton] at hb; subst hb
        simpa using (List.mem_filter.1 ha).2
      · have hb' : wcmp y b < 0 := by simpa using (List.mem_filter.1 hb).2
        rcases List.mem_append.1 ha with ha | ha
        · have ha' : wcmp a y < 0 := by simpa using (List.mem_filter.1 ha).2
          exact wcmp_trans _ _ _ ha' hb'
        · rw [List.mem_singleton] at ha; subst ha; exact hb'
    · rw [mem_ordL, List.mem_append, List.mem_singleton]
      simp only [List.mem_append, List.mem_filter, List.mem_singleton, mem_ordL, decide_eq_true_eq]
      constructor
      · rintro (h | rfl)
        · by_cases h1 : wcmp x y < 0
          · exact Or.inl (Or.inl ⟨h, h1⟩)
          · by_cases h2 : wcmp y x < 0
            · exact Or.inr ⟨h, h2⟩
            · left; right
              have := wcmp_anti x y
              exact wcmp_zero _ _ (by omega)
        · exact Or.inl (Or.inr rfl)
      · rintro ((⟨h, _⟩ | h) | ⟨h, _⟩)
        · exact Or.inl h
        · exact Or.inr h
        · exact Or.inl h
  intro j hj
  have hf : (ordL M).filter (fun z => decide (wcmp z y < 0)) = (ordL M).take (k + 1) ++ ((ordL M).drop (k + 1)).filter (fun z => decide (wcmp z y < 0)) := by
    conv => lhs; rw [← List.take_append_drop (k + 1) (ordL M)]
    rw [List.filter_append, List.filter_eq_self.2 (fun z hz => by simpa using hlt z hz)]
  have htl : ((ordL M).take (k + 1)).length = k + 1 := by rw [List.length_take]; omega
  rw [e, hf, List.append_assoc, List.append_assoc, List.getElem?_append_left (by omega), List.getElem?_take_of_lt (by omega)]
theorem wcmp_shorter (x y : List UInt8) (h : x.length < y.length) : wcmp x y < 0 := by unfold wcmp; rw [if_pos h]; decide
/-- what the reference's search holds at the word k -/
structure WsInv (l : List ByteArray) (n k : Nat) (M : List (List UInt8)) : Prop where
  ml : M.length ≤ 1 + 12 * k
  w : ∀ x, x ∈ M → Wr (l.map ch) x ∧ x.length ≤ n
  z : [] ∈ M
  cl : ∀ j x, j < k → (ordL M)[j]? = some x → ∀ t, t ∈ l.map ch → x.length + t.length ≤ n → x ++ t ∈ M
theorem bsWritten_in (l : List ByteArray) (n k : Nat) (hn : n ≤ 8) (hl : l.length ≤ 12) (h1 : ∀ w ∈ l, 1 ≤ w.size) (h8 : ∀ w ∈ l, w.size ≤ 8) (hk : k ≤ 1000) : ∀ (e i : Nat) (M : List (List UInt8)), e + i = l.length →
    M.length ≤ 1 + 12 * k + i → (∀ x, x ∈ M → Wr (l.map ch) x ∧ x.length ≤ n) → [] ∈ M → ∀ (hkl : k < (ordL M).length),
    (∀ j x, j < k → (ordL M)[j]? = some x → ∀ t, t ∈ l.map ch → x.length + t.length ≤ n → x ++ t ∈ M) →
    (∀ t, t ∈ (l.take i).map ch → (ordL M)[k].length + t.length ≤ n → (ordL M)[k] ++ t ∈ M) →
    ∃ M1 : List (List UInt8), WsInv l n (k + 1) M1 ∧ ∀ R, Ev (fun q => if ((bas M1).length : Int) > 201 then (some (([] : List ByteArray), false)) else (spec_bsWritten.l0 q l (n : Int) (bas M1) (wrap64 ((k : Int) + 1)))) R → Ev (fun q => spec_bsWritten.l1 q l (n : Int) (bas M) (k : Int) l (l.length : Int) (i : Int)) R := by
  intro e
  induction e with
  | zero =>
    intro i M hd hml hw hz hkl hcl hci
    have hil : i = l.length := by omega
    refine ⟨M, ⟨by omega, hw, hz, fun j x hj hx => ?_⟩, fun R hfin => Ev.succ (by simp only [spec_bsWritten.l1]; exact Ev.neg (by omega) hfin)⟩
    by_cases e : j = k
    · subst e
      rw [List.getElem?_eq_getElem hkl] at hx
      have := Option.some.inj hx
      subst this
      rw [hil, List.take_of_length_le (Nat.le_refl _)] at hci
      exact hci
    · exact hcl j x (by omega) hx
  | succ e ih =>
    intro i M hd hml hw hz hkl hcl hci
    have hi : i < l.length := by omega
    have hbl : (bas M).length = (ordL M).length := by unfold bas; simp
    have hbk : (bas M)[k]'(by omega) = bx (ordL M)[k] := by simp [bas]
    have hwk := hw (ordL M)[k] ((mem_ordL M _).1 (List.getElem_mem hkl))
    have hs8 := h8 l[i] (List.getElem_mem hi)
    have hs1 := h1 l[i] (List.getElem_mem hi)
    have hsz := bx_size (ordL M)[k]
    have hti : (l.take (i + 1)).map ch = (l.take i).map ch ++ [ch l[i]] := by
      rw [List.take_add_one, List.getElem?_eq_getElem hi, List.map_append]; rfl
    have hsl := ch_length l[i]
    have ww := Aside0.mk (show wrap64 (((bx (ordL M)[k]).size : Int) + (l[i].size : Int)) = ((bx (ordL M)[k]).size : Int) + (l[i].size : Int) from w64 (by omega) (by omega))
    have wi := Aside0.mk (w1 (show 0 ≤ (i : Int) by omega) (show (i : Int) < 9223372036854775807 by omega))
    by_cases hle : (ordL M)[k].length + l[i].size ≤ n
    · have hput := wdPut_ev M (bx (ordL M)[k] ++ l[i]) (by omega)
      rw [ch_app, ch_bx] at hput
      have hgt : wcmp (ordL M)[k] ((ordL M)[k] ++ ch l[i]) < 0 := wcmp_shorter _ _ (by rw [List.length_append]; omega)
      have hins := ordL_insert M ((ordL M)[k] ++ ch l[i]) k hkl hgt
      have hkl' : k < (ordL (M ++ [(ordL M)[k] ++ ch l[i]])).length := by
        have := hins k (Nat.le_refl _)
        rw [List.getElem?_eq_getElem hkl] at this
        exact (List.getElem?_eq_some_iff.1 this).1
      have hsame : (ordL (M ++ [(ordL M)[k] ++ ch l[i]]))[k] = (ordL M)[k] := by
        have := hins k (Nat.le_refl _)
        rw [List.getElem?_eq_getElem hkl, List.getElem?_eq_getElem hkl'] at this
        exact Option.some.inj this
      obtain ⟨M1, g1, g2⟩ := ih (i + 1) (M ++ [(ordL M)[k] ++ ch l[i]]) (by omega) (by simp; omega) (fun x hx => by
          rcases List.mem_append.1 hx with hx | hx
          · exact hw x hx
          · rw [List.mem_singleton] at hx; subst hx
            exact ⟨hwk.1.snoc (List.mem_map.2 ⟨_, List.getElem_mem hi, rfl⟩), by rw [List.length_append]; omega⟩)
        (List.mem_append_left _ hz) hkl'
        (fun j x hj hx t ht hxt => List.mem_append_left _ (hcl j x hj (by rw [← hins j (by omega)]; exact hx) t ht hxt))
        (fun t ht hxt => by
          rw [hsame] at hxt ⊢
          rw [hti] at ht
          rcases List.mem_append.1 ht with ht | ht
          · exact List.mem_append_left _ (hci t ht hxt)
          · rw [List.mem_singleton] at ht; subst ht; simp)
      refine ⟨M1, g1, fun R hR => Ev.succ ?_⟩
      have hnext := g2 R hR
      simp only [spec_bsWritten.l1, rdOf_nat l i hi, rdOf_nat (bas M) k (by omega), hbk, ww.out, wi.out]
      exact Ev.pos (by omega) (Ev.pos (by omega) (Ev.pos (by omega) (Ev.pos (by omega) (Ev.pos (by omega) (Ev.pos (by omega) (Ev.pos (by omega) (Ev.bind hput hnext)))))))
    · obtain ⟨M1, g1, g2⟩ := ih (i + 1) M (by omega) (by omega) hw hz hkl hcl (fun t ht hxt => by
          rw [hti] at ht
          rcases List.mem_append.1 ht with ht | ht
          · exact hci t ht hxt
          · rw [List.mem_singleton] at ht; subst ht; omega)
      refine ⟨M1, g1, fun R hR => Ev.succ ?_⟩
      have hnext := g2 R hR
      simp only [spec_bsWritten.l1, rdOf_nat l i hi, rdOf_nat (bas M) k (by omega), hbk, ww.out, wi.out]
      exact Ev.pos (by omega) (Ev.pos (by omega) (Ev.pos (by omega) (Ev.pos (by omega) (Ev.pos (by omega) (Ev.neg (by omega) hnext)))))
theorem bsWritten_run (l : List ByteArray) (n : Nat) (hn : n ≤ 8) (hl : l.length ≤ 12) (h1 : ∀ w ∈ l, 1 ≤ w.size) (h8 : ∀ w ∈ l, w.size ≤ 8) : ∀ (e k : Nat) (M : List (List UInt8)), e + k = 202 → WsInv l n k M → (bas M).length ≤ 201 →
    ∃ (R : List ByteArray × Bool) (M' : List (List UInt8)), Ev (fun q => spec_bsWritten.l0 q l (n : Int) (bas M) (k : Int)) R ∧ (∀ x, x ∈ M' → Wr (l.map ch) x ∧ x.length ≤ n) ∧ [] ∈ M' ∧
      ((R = ((bas M').drop 1, true) ∧ (bas M').length ≤ 201 ∧ ∀ x, x ∈ M' → ∀ t, t ∈ l.map ch → x.length + t.length ≤ n → x ++ t ∈ M') ∨ (R = ([], false) ∧ 201 < (bas M').length)) := by
  have hbl : ∀ M, (bas M).length = (ordL M).length := fun M => by unfold bas; simp
  intro e
  induction e with
  | zero =>
    intro k M hd hI hml
    have h0 : 0 < (bas M).length := by rw [hbl]; exact List.length_pos_of_mem ((mem_ordL M _).2 hI.z)
    refine ⟨_, M, Ev.succ ?_, hI.w, hI.z, Or.inl ⟨rfl, hml, fun x hx => ?_⟩⟩
    · simp only [spec_bsWritten.l0]
      exact Ev.neg (by omega) (Ev.pos (by omega) (Ev.pure rfl))
    · obtain ⟨j, hj, rfl⟩ := List.getElem_of_mem ((mem_ordL M x).2 hx)
      exact hI.cl j _ (by have := hbl M; omega) (List.getElem?_eq_getElem hj)
  | succ e ih =>
    intro k M hd hI hml
    have h0 : 0 < (bas M).length := by rw [hbl]; exact List.length_pos_of_mem ((mem_ordL M _).2 hI.z)
    by_cases hk : k < (bas M).length
    · have hkl : k < (ordL M).length := by rw [← hbl]; exact hk
      have step : ∃ (R : List ByteArray × Bool) (M' : List (List UInt8)), ((∀ x, x ∈ M' → Wr (l.map ch) x ∧ x.length ≤ n) ∧ [] ∈ M' ∧
          ((R = ((bas M').drop 1, true) ∧ (bas M').length ≤ 201 ∧ ∀ x, x ∈ M' → ∀ t, t ∈ l.map ch → x.length + t.length ≤ n → x ++ t ∈ M') ∨ (R = ([], false) ∧ 201 < (bas M').length))) ∧
          Ev (fun q => spec_bsWritten.l1 q l (n : Int) (bas M) (k : Int) l (l.length : Int) ((0 : Nat) : Int)) R := by
        obtain ⟨M1, i1, i3⟩ := bsWritten_in l n k hn hl h1 h8 (by omega) l.length 0 M (by omega) hI.ml hI.w hI.z hkl hI.cl (by simp)
        by_cases hbig : (bas M1).length ≤ 201
        · obtain ⟨R, M', r1, r2⟩ := ih (k + 1) M1 (by omega) i1 hbig
          refine ⟨R, M', r2, i3 R (Ev.neg (by omega) ?_)⟩
          rw [w1 (by omega) (by omega)]
          exact r1
        · exact ⟨_, M1, ⟨i1.w, i1.z, Or.inr ⟨rfl, by omega⟩⟩, i3 _ (Ev.pos (by omega) (Ev.now _))⟩
      obtain ⟨R, M', r2, r1⟩ := step
      refine ⟨R, M', Ev.succ ?_, r2⟩
      simp only [spec_bsWritten.l0]
      exact Ev.pos (by omega) r1
    · refine ⟨_, M, Ev.succ ?_, hI.w, hI.z, Or.inl ⟨rfl, hml, fun x hx => ?_⟩⟩
      · simp only [spec_bsWritten.l0]
        exact Ev.neg (by omega) (Ev.pos (by omega) (Ev.pure rfl))
      · obtain ⟨j, hj, rfl⟩ := List.getElem_of_mem ((mem_ordL M x).2 hx)
        exact hI.cl j _ (by have := hbl M; omega) (List.getElem?_eq_getElem hj)

/-- both answer the written words in order, if they are not too many -/
theorem written_same (l : List ByteArray) (n : Nat) (hn : n ≤ 8) (hl : l.length ≤ 12) (h1 : ∀ w ∈ l, 1 ≤ w.size) (h8 : ∀ w ∈ l, w.size ≤ 8) :
    ∃ M : List (List UInt8), (∀ x, x ∈ M ↔ Wr (l.map ch) x ∧ 1 ≤ x.length ∧ x.length ≤ n) ∧ Ev (fun k => impl_written.f k l (n : Int)) (bas M) ∧ Ev (fun k => spec_bsWritten.f k l (n : Int)) (if (bas M).length ≤ 200 then (bas M, true) else ([], false)) := by
  obtain ⟨M, m1, m2, m3⟩ := written_impl l n hn hl h1 h8
  refine ⟨M, m3, m1, ?_⟩
  have start : ([(⟨#[]⟩ : ByteArray)] : List ByteArray) = bas [[]] := by rw [bas_one]; rfl
  unfold spec_bsWritten.f
  rw [start]
  obtain ⟨R, M', r1, r2, r3, r4⟩ := bsWritten_run l n hn hl h1 h8 202 0 [[]] rfl ⟨by simp, fun x hx => by rw [List.mem_singleton] at hx; subst hx; exact ⟨Wr.nil _, by simp⟩, by simp, fun j x hj => by omega⟩ (by rw [bas_one]; simp)
  have hbl : ∀ M, (bas M).length = (ordL M).length := fun M => by unfold bas; simp
  rcases r4 with ⟨rfl, hlen, hcl⟩ | ⟨rfl, hlen⟩
  · have hall : ∀ x, x ∈ M' ↔ x = [] ∨ x ∈ M := fun x => by
      rw [m3]
      constructor
      · intro hx
        obtain ⟨q1, q2⟩ := r2 x hx
        by_cases e : x.length = 0
        · exact Or.inl (List.eq_nil_of_length_eq_zero e)
        · exact Or.inr ⟨q1, by omega, q2⟩
      · rintro (rfl | ⟨q1, q2, q3⟩)
        · exact r3
        · exact Wr.closed r3 hcl x q1 q3
    have hcons : bas M' = bx [] :: bas M := by
      symm
      refine bas_of _ _ ?_ (fun x => ?_)
      · rw [List.map_cons, ch_bx, ch_bas, List.pairwise_cons]
        exact ⟨fun y hy => wcmp_shorter _ _ (by have := ((m3 y).1 ((mem_ordL M y).1 hy)).2.1; simp; omega), ordL_rises M⟩
      · rw [List.map_cons, ch_bx, ch_bas, List.mem_cons, mem_ordL, hall]
    rw [hcons] at r1 hlen
    rw [List.length_cons] at hlen
    rw [if_pos (by omega)]
    exact r1
  · have hsub : ordL M' ⊆ [] :: ordL M := fun x hx => by
      obtain ⟨q1, q2⟩ := r2 x ((mem_ordL M' x).1 hx)
      by_cases e : x.length = 0
      · rw [List.eq_nil_of_length_eq_zero e]; simp
      · exact List.mem_cons_of_mem _ ((mem_ordL M x).2 ((m3 x).2 ⟨q1, by omega, q2⟩))
    have := nodupLe _ _ (ordL_nodup M') hsub
    rw [List.length_cons, ← hbl, ← hbl] at this
    rw [if_neg (by omega)]
    exact r1
/-- the program's answer, at a set and a length that are asked for -/
theorem writtenUpTo_impl (l : List ByteArray) (s : Int) (b : Bool) (hb : Ev (fun k => impl_isSet.f k l) b) (R : List ByteArray × Bool) (hR : (b && decide (0 ≤ s ∧ s ≤ 8)) = true → ∃ T, Ev (fun k => impl_written.f k l s) T ∧ R = if T.length ≤ 200 then (T, true) else ([], false)) (hN : (b && decide (0 ≤ s ∧ s ≤ 8)) = false → R = ([], false)) : Ev (fun k => impl_writtenUpTo.f k l s) R := by
  have no : R = ([], false) → Ev (fun k => impl_writtenUpTo.j0 k l s true) R := fun h => Ev.succ (by simp only [impl_writtenUpTo.j0]; exact Ev.pos (by simp) (Ev.pure h.symm))
  unfold impl_writtenUpTo.f
  refine Ev.bind hb ?_
  cases b with
  | false => exact Ev.neg (by simp) (no (hN (by simp)))
  | true =>
    refine Ev.pos rfl (Ev.known (fun _ => impl_in_eq _ _ _) ?_)
    by_cases h : 0 ≤ s ∧ s ≤ 8
    · rw [decide_eq_true h]
      obtain ⟨T, t1, t2⟩ := hR (by simpa using h)
      refine Ev.succ ?_
      simp only [impl_writtenUpTo.j0]
      refine Ev.neg (by simp) (Ev.bind t1 (Ev.cases (fun h => ?_) (fun h => ?_)))
      · rw [t2, if_neg (by omega)]; exact Ev.now _
      · rw [t2, if_pos (by omega)]; exact Ev.now _
    · rw [decide_eq_false h]
      exact no (hN (by rw [decide_eq_false h]; rfl))

theorem writtenUpTo_same (l : List ByteArray) (s : Int) (hl : l.length ≤ 1048576) : ∃ r, Ev (fun k => spec_WrittenUpTo.f k l s) r ∧ Ev (fun k => impl_WrittenUpTo.f k l s) r ∧ r.1.length ≤ 1000 := by
  obtain ⟨b, h1, h2, hb⟩ := isSet_same l hl
  have up : ∀ R, Ev (fun k => impl_writtenUpTo.f k l s) R → Ev (fun k => impl_WrittenUpTo.f k l s) R := fun R h => by
    unfold impl_WrittenUpTo.f
    exact Ev.bind h (Ev.now _)
  have no : Ev (fun k => spec_WrittenUpTo.j0 k l s true) ([], false) := Ev.succ (by simp only [spec_WrittenUpTo.j0]; exact Ev.pos (by simp) (Ev.now _))
  have hlen : spec_bsLength.f s = some (decide (0 ≤ s ∧ s ≤ 8)) := by unfold spec_bsLength.f; rw [spec_in]; rfl
  unfold spec_WrittenUpTo.f
  cases hc : (b && decide (0 ≤ s ∧ s ≤ 8)) with
  | false =>
    refine ⟨([], false), Ev.bind h1 ?_, up _ (writtenUpTo_impl l s b h2 _ (fun h => by rw [hc] at h; cases h) (fun _ => rfl)), by simp⟩
    cases b with
    | false => exact Ev.neg (by simp) no
    | true =>
      refine Ev.pos rfl (Ev.known (fun _ => hlen) ?_)
      have : decide (0 ≤ s ∧ s ≤ 8) = false := by simpa using hc
      rw [this]
      exact no
  | true =>
    simp only [Bool.and_eq_true, decide_eq_true_eq] at hc
    obtain ⟨rfl, hs⟩ := hc
    have hset := hb rfl
    obtain ⟨n, rfl⟩ : ∃ n : Nat, s = (n : Int) := ⟨s.toNat, by omega⟩
    obtain ⟨M, m1, m2, m3⟩ := written_same l n (by omega) hset.few (fun w hw => (hset.size w hw).1) (fun w hw => (hset.size w hw).2)
    refine ⟨if (bas M).length ≤ 200 then (bas M, true) else ([], false), Ev.bind h1 (Ev.pos rfl (Ev.known (fun _ => hlen) ?_)), up _ (writtenUpTo_impl l n true h2 _ (fun _ => ⟨_, m2, rfl⟩) (fun h => by rw [decide_eq_true hs] at h; cases h)), by split <;> simp <;> omega⟩
    rw [decide_eq_true hs]
    refine Ev.succ ?_
    simp only [spec_WrittenUpTo.j0]
    refine Ev.neg (by simp) (Ev.bind m3 ?_)
    by_cases h2 : (bas M).length ≤ 200
    · rw [if_pos h2]
      simp only [Option.bind_some]
      exact Ev.pos (by simp) (Ev.pos (by simp; omega) (Ev.pure (by simp)))
    · rw [if_neg h2]
      exact Ev.neg (by simp) (Ev.now _)
theorem FnExactWrittenUpTo : laws_FnExactWrittenUpTo.Pure := by
  intro l s hl hs h
  refine Ev.rounds ?_
  unfold laws_FnExactWrittenUpTo.f
  obtain ⟨z, hz, hzz⟩ := szS_ev l hl hs
  refine Ev.bind hz (Ev.cases (fun _ => Ev.now _) (fun hzn => ?_))
  obtain ⟨hl', -⟩ := hzz (by omega)
  obtain ⟨mt, hmt⟩ := marks
  obtain ⟨r, h1, h2, h3⟩ := writtenUpTo_same l s hl'
  refine Ev.bind (toS_ev l hl') (Ev.bind h1 (Ev.bind (toS_ev l hl') (Ev.bind h2 (Ev.bind (eqS_ev r.1 (by omega)) (Ev.pos rfl ?_)))))
  refine Ev.succ ?_
  simp only [laws_FnExactWrittenUpTo.j0]
  refine Ev.neg (by simp) (Ev.bind (toS_ev l hl') (Ev.bind (eqS_ev l hl') (Ev.pos rfl (Ev.bind (markS_ev hmt l hl') (Ev.neg (by omega) (Ev.bind (eqS_ev r.1 (by omega)) (Ev.pos rfl ?_)))))))
  refine Ev.succ ?_
  simp only [laws_FnExactWrittenUpTo.j1]
  refine Ev.neg (by simp) (Ev.bind (markS_ev hmt r.1 (by omega)) (Ev.bind (heldS_ev hmt r.1.length (by omega)) (Ev.neg (by omega) (Ev.pos rfl (Ev.bind (toS_ev l hl') (Ev.bind h2 (Ev.bind (eqS_ev r.1 (by omega)) (Ev.pos rfl ?_))))))))
  refine Ev.succ ?_
  simp only [laws_FnExactWrittenUpTo.j2]
  exact Ev.neg (by simp) (Ev.bind (heldS_ev hmt r.1.length (by omega)) (Ev.neg (by omega) (Ev.pos rfl (Ev.now _))))
end Go.Proofs.YtdhdboeflncmiaaDoor.Pure
