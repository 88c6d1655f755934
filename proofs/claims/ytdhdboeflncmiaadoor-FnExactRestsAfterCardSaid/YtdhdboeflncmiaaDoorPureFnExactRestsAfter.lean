/- RestsAfter of the program and of the reference answer alike for all arguments, and leave them as they were: no condition. -/
import Derived.Test.YtdhdboeflncmiaaDoorXFnExactRestsAfterxp
namespace Go.Proofs.YtdhdboeflncmiaaDoor.Pure
set_option linter.unusedSimpArgs false
set_option linter.unusedVariables false
open Go.RowKit Go.Proofs.YtdhdboeflncmiaaDoor.Hand Go.Proofs.YtdhdboeflncmiaaDoor.XFnExactRestsAfter Go.Proofs.YtdhdboeflncmiaaDoorW.PrintWords Go.Proofs.YtdhdboeflncmiaaDoorW.PrintLast Go.Proofs.YtdhdboeflncmiaaDoorW.PrintMore

theorem w1 {i : Int} (h0 : 0 ≤ i) (h : i < 9223372036854775807) : wrap64 (i + 1) = i + 1 := by unfold wrap64; omega
theorem w64 {i : Int} (h0 : -9223372036854775808 ≤ i) (h : i < 9223372036854775808) : wrap64 i = i := by unfold wrap64; omega
theorem rd_nat (l : List Int) (i : Nat) (h : i < l.length) : rd l (i : Int) = l[i] := by
  unfold rd; simp [List.getD_eq_getElem?_getD, h]
theorem Ev.pos {α : Type} {c : Prop} [Decidable c] {g g' : Nat → Option α} {r : α} (h : c) (k : Ev g r) : Ev (fun n => if c then g n else g' n) r :=
  Ev.congr (fun n => if_pos h) k
theorem Ev.neg {α : Type} {c : Prop} [Decidable c] {g g' : Nat → Option α} {r : α} (h : ¬ c) (k : Ev g' r) : Ev (fun n => if c then g n else g' n) r :=
  Ev.congr (fun n => if_neg h) k
theorem Ev.cases {α : Type} {c : Prop} [Decidable c] {g g' : Nat → Option α} {r : α} (h : c → Ev g r) (k : ¬ c → Ev g' r) : Ev (fun n => if c then g n else g' n) r := by
  by_cases e : c
  · exact Ev.pos e (h e)
  · exact Ev.neg e (k e)
/-- a call whose answer is known at every number of rounds -/
theorem Ev.known {α β : Type} {g : Nat → Option α} {f : Nat → α → Option β} {a : α} {r : β} (h : ∀ n, g n = some a) (k : Ev (fun n => f n a) r) : Ev (fun n => (g n).bind (f n)) r :=
  Ev.bind ⟨0, fun n _ => h n⟩ k
/-- one bind of two, joined with what follows -/
theorem Ev.pure {α : Type} {r q : α} (h : r = q) : Ev (fun _ => some r) q := h ▸ Ev.now r
theorem Ev.succ {α : Type} {g : Nat → Option α} {r : α} (h : Ev (fun k => g (k + 1)) r) : Ev g r := Ev.step (f := fun k => g (k + 1)) (fun _ => rfl) h

theorem rdOf_nat (l : List ByteArray) (i : Nat) (h : i < l.length) : rdOf ByteArray.empty l (i : Int) = l[i] := by
  unfold rdOf; simp [List.getD_eq_getElem?_getD, h]

theorem maxLen_le : maxLen ≤ 9223372036854775807 := by unfold maxLen; omega
theorem szS_l0 (l : List ByteArray) (hl : l.length ≤ 9223372036854775807) (hs : ∀ s ∈ l, s.size ≤ 9223372036854775807) : ∀ (d i : Nat) (b : Int), i + d = l.length → 0 ≤ b → b ≤ 1048576 → ∃ r, Ev (fun k => laws_szStringS.l0 k l b (i : Int)) r ∧ (0 ≤ r → r ≤ 1048576 ∧ ∀ s ∈ l.drop i, s.size ≤ 1048576)
  | 0, i, b, hd, h0, hb => by
    refine ⟨b, Ev.succ ?_, fun _ => ⟨hb, fun s h => ?_⟩⟩
    · simp only [laws_szStringS.l0]; exact Ev.neg (by omega) (Ev.now _)
    · rw [List.drop_of_length_le (by omega)] at h; cases h
  | d + 1, i, b, hd, h0, hb => by
    have h1 : i < l.length := by omega
    have h2 := hs _ (List.getElem_mem h1)
    have e : Aside0 (wrap64 (b - (l[i].size : Int)) = b - (l[i].size : Int)) := ⟨w64 (by omega) (by omega)⟩
    by_cases hc : b - (l[i].size : Int) < 0
    · refine ⟨-1, Ev.succ ?_, fun h => by omega⟩
      simp only [laws_szStringS.l0, rdOf_nat l i h1, e.out]
      exact Ev.pos (by omega) (Ev.pos (by omega) (Ev.pos hc (Ev.now _)))
    · obtain ⟨r, hr, hh⟩ := szS_l0 l hl hs d (i + 1) (b - (l[i].size : Int)) (by omega) (by omega) (by omega)
      refine ⟨r, Ev.succ ?_, fun h => ⟨(hh h).1, fun s hm => ?_⟩⟩
      · simp only [laws_szStringS.l0, rdOf_nat l i h1, e.out, w1 (show 0 ≤ (i : Int) by omega) (show (i : Int) < 9223372036854775807 by omega)]
        exact Ev.pos (by omega) (Ev.pos (by omega) (Ev.neg hc hr))
      · rw [List.drop_eq_getElem_cons h1] at hm
        rcases List.mem_cons.1 hm with rfl | hm
        · omega
        · exact (hh h).2 s hm
theorem szS_ev (l : List ByteArray) (hl : l.length ≤ maxLen) (hs : ∀ s ∈ l, s.size ≤ maxLen) : ∃ r, Ev (fun k => laws_szStringS.f k l 1048576) r ∧ (0 ≤ r → l.length ≤ 1048576 ∧ r ≤ 1048576 ∧ ∀ s ∈ l, s.size ≤ 1048576) := by
  have hm := maxLen_le
  have e : Aside0 (wrap64 (1048576 - (l.length : Int)) = 1048576 - (l.length : Int)) := ⟨w64 (by omega) (by omega)⟩
  unfold laws_szStringS.f
  rw [e.out]
  by_cases hc : 1048576 - (l.length : Int) < 0
  · exact ⟨-1, Ev.pos hc (Ev.now _), fun h => by omega⟩
  · obtain ⟨r, hr, hh⟩ := szS_l0 l (by omega) (fun s h => Nat.le_trans (hs s h) hm) l.length 0 (1048576 - (l.length : Int)) (by omega) (by omega) (by omega)
    exact ⟨r, Ev.neg hc hr, fun h => ⟨by omega, (hh h).1, by simpa using (hh h).2⟩⟩
theorem toS_l0 (l : List ByteArray) (hl : l.length ≤ 1048576) : ∀ (d i : Nat) (xs : List ByteArray), i + d = l.length → xs.length = l.length → xs.take i = l.take i → Ev (fun k => laws_toStringS.l0 k l xs (i : Int)) l
  | 0, i, xs, hd, hx, ht => by
    refine Ev.step (f := fun _ => some xs) (fun k => ?_) (Ev.pure ?_)
    · simp only [laws_toStringS.l0]; rw [if_neg (by omega)]
    · rw [List.take_of_length_le (by omega), List.take_of_length_le (by omega)] at ht; exact ht
  | d + 1, i, xs, hd, hx, ht => by
    refine Ev.step (f := fun k => laws_toStringS.l0 k l (xs.set i (rdOf ByteArray.empty l i)) ((i + 1 : Nat) : Int)) (fun k => ?_) (toS_l0 l hl d (i + 1) _ (by omega) (by simp [hx]) ?_)
    · simp only [laws_toStringS.l0]; rw [if_pos (by omega), if_pos (by omega), if_pos (by omega), w1 (by omega) (by omega)]; simp
    · have h1 : i < l.length := by omega
      have h2 : i < (xs.set i (rdOf ByteArray.empty l i)).length := by simp; omega
      have e := rdOf_nat l i h1
      rw [List.take_succ_eq_append_getElem h2, List.take_succ_eq_append_getElem h1, List.take_set, List.set_eq_of_length_le (by simp; omega), ht]
      simp [e]
theorem toS_ev (l : List ByteArray) (hl : l.length ≤ 1048576) : Ev (fun k => laws_toStringS.f k l) l := by
  unfold laws_toStringS.f
  refine Ev.pos (by omega) (Ev.pos (by omega) ?_)
  have h := toS_l0 l hl l.length 0 (List.replicate l.length ⟨#[]⟩) (by omega) (by simp) (by simp)
  simpa using h
theorem eqS_l0 (l : List ByteArray) (hl : l.length ≤ 1048576) : ∀ (d i : Nat), i + d = l.length → Ev (fun k => laws_eqStringS.l0 k l l (i : Int)) true
  | 0, i, hd => Ev.step (f := fun _ => some true) (fun k => by simp only [laws_eqStringS.l0]; rw [if_neg (by omega)]) (Ev.now _)
  | d + 1, i, hd => by
    refine Ev.step (f := fun k => laws_eqStringS.l0 k l l ((i + 1 : Nat) : Int)) (fun k => ?_) (eqS_l0 l hl d (i + 1) (by omega))
    simp only [laws_eqStringS.l0]; rw [if_pos (by omega), if_pos (by omega), if_pos (by omega), if_pos trivial, w1 (by omega) (by omega)]; simp
theorem eqS_ev (l : List ByteArray) (hl : l.length ≤ 1048576) : Ev (fun k => laws_eqStringS.f k l l) true := by
  unfold laws_eqStringS.f
  exact Ev.pos rfl (by simpa using eqS_l0 l hl l.length 0 (by omega))


theorem strOfNums_one (x : Int) : (strOfNums [x]).size = 1 := by simp [strOfNums, ByteArray.size]
theorem markText_l0 : ∀ (d n : Nat) (s : ByteArray), n < 10 ^ d → n < 4611686018427387904 → s.size + d ≤ 1000 → ∃ t, Ev (fun k => laws_markText.l0 k (n : Int) s) t
  | 0, n, s, hn, _, hs => by
    refine ⟨(⟨#[109]⟩ : ByteArray) ++ s, Ev.succ ?_⟩
    simp only [laws_markText.l0]
    exact Ev.neg (by omega) (Ev.pos (by omega) (Ev.now _))
  | d + 1, n, s, hn, hb, hs => by
    by_cases h0 : n = 0
    · refine ⟨(⟨#[109]⟩ : ByteArray) ++ s, Ev.succ ?_⟩
      simp only [laws_markText.l0]
      exact Ev.neg (by omega) (Ev.pos (by omega) (Ev.now _))
    · have e0 : (strOfNums [(wrap64 (48 + (Int.tmod (n : Int) 10))) % 256]).size = 1 := strOfNums_one _
      have hq : n / 10 < 10 ^ d := by rw [Nat.pow_succ] at hn; omega
      obtain ⟨t, ht⟩ := markText_l0 d (n / 10) (strOfNums [(wrap64 (48 + (Int.tmod (n : Int) 10))) % 256] ++ s) hq (by omega) (by rw [ByteArray.size_append, e0]; omega)
      have e2 : Aside0 (wrap64 (Int.tdiv (n : Int) 10) = ((n / 10 : Nat) : Int)) := ⟨by
        rw [show (10 : Int) = ((10 : Nat) : Int) from rfl, ← Int.ofNat_tdiv]; exact w64 (by omega) (by omega)⟩
      refine ⟨t, Ev.succ ?_⟩
      simp only [laws_markText.l0, e2.out]
      exact Ev.pos (by omega) (Ev.known (fun _ => rfl) (Ev.pos (by rw [e0]; omega) ht))
theorem marks : ∃ mt : Nat → ByteArray, ∀ n : Nat, n ≤ 1048577 → Ev (fun k => laws_markText.f k (n : Int)) (mt n) := by
  have h : ∀ n : Nat, ∃ t, n ≤ 1048577 → Ev (fun k => laws_markText.f k (n : Int)) t := by
    intro n
    by_cases hn : n ≤ 1048577
    · by_cases h0 : n = 0
      · exact ⟨_, fun _ => Ev.pos (by omega) (Ev.now _)⟩
      · obtain ⟨t, ht⟩ := markText_l0 7 n ⟨#[]⟩ (by omega) (by omega) (by decide)
        exact ⟨t, fun _ => Ev.neg (by omega) ht⟩
    · exact ⟨ByteArray.empty, fun h => absurd h hn⟩
  exact ⟨fun n => (h n).choose, fun n hn => (h n).choose_spec hn⟩
/-- n texts, all different -/
def marked (mt : Nat → ByteArray) (n : Nat) : List ByteArray := (List.range n).map fun j => mt (j + 1)
theorem marked_length (mt : Nat → ByteArray) (n : Nat) : (marked mt n).length = n := by simp [marked]
theorem markS_l0 (mt : Nat → ByteArray) (hmt : ∀ n : Nat, n ≤ 1048577 → Ev (fun k => laws_markText.f k (n : Int)) (mt n)) (n : Nat) (hn : n ≤ 1048576) : ∀ (d i : Nat) (xs : List ByteArray), i + d = n → xs.length = n → xs.take i = (marked mt n).take i → Ev (fun k => laws_markStringS.l0 k xs ((i + 1 : Nat) : Int) (i : Int)) (((n + 1 : Nat) : Int), marked mt n)
  | 0, i, xs, hd, hx, ht => by
    refine Ev.succ ?_
    simp only [laws_markStringS.l0]
    refine Ev.neg (by omega) (Ev.pure ?_)
    have := marked_length mt n
    rw [List.take_of_length_le (by omega), List.take_of_length_le (by omega)] at ht
    rw [ht, show i = n by omega]
  | d + 1, i, xs, hd, hx, ht => by
    have hlen := marked_length mt n
    have h1 : i < (marked mt n).length := by omega
    have ih := markS_l0 mt hmt n hn d (i + 1) (xs.set i (mt (i + 1))) (by omega) (by simp [hx]) (by
      have h2 : i < (xs.set i (mt (i + 1))).length := by simp; omega
      rw [List.take_succ_eq_append_getElem h2, List.take_succ_eq_append_getElem h1, List.take_set, List.set_eq_of_length_le (by simp; omega), ht]
      simp [marked])
    refine Ev.succ ?_
    simp only [laws_markStringS.l0, w1 (show 0 ≤ (i : Int) by omega) (show (i : Int) < 9223372036854775807 by omega), w1 (show 0 ≤ ((i + 1 : Nat) : Int) by omega) (show ((i + 1 : Nat) : Int) < 9223372036854775807 by omega)]
    exact Ev.pos (by omega) (Ev.bind (hmt (i + 1) (by omega)) (Ev.pos (by omega) ih))
theorem markS_ev {mt : Nat → ByteArray} (hmt : ∀ n : Nat, n ≤ 1048577 → Ev (fun k => laws_markText.f k (n : Int)) (mt n)) (xs : List ByteArray) (hn : xs.length ≤ 1048576) : Ev (fun k => laws_markStringS.f k xs 1) (((xs.length + 1 : Nat) : Int), marked mt xs.length) :=
  markS_l0 mt hmt xs.length hn xs.length 0 xs (by omega) rfl rfl

theorem heldS_l0 (mt : Nat → ByteArray) (hmt : ∀ n : Nat, n ≤ 1048577 → Ev (fun k => laws_markText.f k (n : Int)) (mt n)) (n : Nat) (hn : n ≤ 1048576) : ∀ (d i : Nat), i + d = n → Ev (fun k => laws_heldStringS.l0 k (marked mt n) ((i + 1 : Nat) : Int) (i : Int)) ((n + 1 : Nat) : Int)
  | 0, i, hd => by
    have hlen := marked_length mt n
    refine Ev.succ ?_
    simp only [laws_heldStringS.l0]
    exact Ev.neg (by omega) (Ev.pure (by rw [show i = n by omega]))
  | d + 1, i, hd => by
    have hlen := marked_length mt n
    have h1 : i < (marked mt n).length := by omega
    have ih := heldS_l0 mt hmt n hn d (i + 1) (by omega)
    refine Ev.succ ?_
    simp only [laws_heldStringS.l0, rdOf_nat _ i h1, w1 (show 0 ≤ (i : Int) by omega) (show (i : Int) < 9223372036854775807 by omega), w1 (show 0 ≤ ((i + 1 : Nat) : Int) by omega) (show ((i + 1 : Nat) : Int) < 9223372036854775807 by omega)]
    exact Ev.pos (by omega) (Ev.pos (by omega) (Ev.bind (hmt (i + 1) (by omega)) (Ev.pos (by simp [marked]) ih)))
theorem heldS_ev {mt : Nat → ByteArray} (hmt : ∀ n : Nat, n ≤ 1048577 → Ev (fun k => laws_markText.f k (n : Int)) (mt n)) (n : Nat) (hn : n ≤ 1048576) : Ev (fun k => laws_heldStringS.f k (marked mt n) 1) ((n + 1 : Nat) : Int) :=
  heldS_l0 mt hmt n hn n 0 (by omega)

theorem spec_in (a b c : Int) : spec_l1In.f a b c = some (decide (b ≤ a ∧ a ≤ c)) := by
  unfold spec_l1In.f
  by_cases h : a ≥ b
  · rw [if_pos h]; simp [h]
  · rw [if_neg h]; simp; omega

theorem impl_in_eq (a b c : Int) : impl_in.f a b c = some (decide (b ≤ a ∧ a ≤ c)) := by
  unfold impl_in.f
  by_cases h : b ≤ a
  · rw [if_pos h]; simp [h]
  · rw [if_neg h]; simp [h]

theorem bt_nat (s : ByteArray) (i : Nat) (h : i < s.data.toList.length) : bt s (i : Int) = ((s.data.toList[i]).toNat : Int) := by
  have h' : i < s.size := by have e : s.size = s.data.toList.length := Array.length_toList.symm; omega
  unfold bt
  rw [dif_pos (show (i : Int).toNat < s.size by simpa using h')]
  simp [ByteArray.getElem_eq_getElem_data]
theorem size_data (s : ByteArray) : s.size = s.data.toList.length := Array.length_toList.symm
theorem letter_test (c : UInt8) : ((c.toNat : Int) < 97 ∨ ((c.toNat : Int) - 97) % 256 ≥ 3) ↔ isLetter c = false := by
  have := c.toNat_lt
  unfold isLetter
  rw [decide_eq_false_iff_not]
  omega
theorem wdIs_l0 (s : ByteArray) (hs : s.size < 4611686018427387904) : ∀ (d i : Nat), i + d = s.data.toList.length → Ev (fun k => spec_wdIs.l0 k s (i : Int)) ((s.data.toList.drop i).all isLetter)
  | 0, i, hd => by
    refine Ev.succ ?_
    simp only [spec_wdIs.l0]
    exact Ev.neg (by rw [size_data]; omega) (Ev.pure (by rw [List.drop_of_length_le (by omega)]; rfl))
  | d + 1, i, hd => by
    have h1 : i < s.data.toList.length := by omega
    have ih := wdIs_l0 s hs d (i + 1) (by omega)
    have ht := letter_test s.data.toList[i]
    have hsz := size_data s
    rw [List.drop_eq_getElem_cons h1, List.all_cons]
    refine Ev.succ ?_
    simp only [spec_wdIs.l0, bt_nat s i h1, w1 (show 0 ≤ (i : Int) by omega) (show (i : Int) < 9223372036854775807 by omega)]
    refine Ev.pos (by omega) (Ev.pos (by omega) (Ev.cases (fun h => ?_) (fun h => Ev.cases (fun h' => ?_) (fun h' => ?_))))
    · rw [ht.1 (Or.inl h)]; exact Ev.now _
    · rw [ht.1 (Or.inr h')]; exact Ev.now _
    · have : isLetter s.data.toList[i] = true := by
        cases hl : isLetter s.data.toList[i]
        · exact absurd (ht.2 hl) (by omega)
        · rfl
      rw [this, Bool.true_and]; exact ih
theorem wdIs_ev (s : ByteArray) (hs : s.size < 4611686018427387904) : Ev (fun k => spec_wdIs.f k s) (s.data.toList.all isLetter) := by
  have h := wdIs_l0 s hs s.data.toList.length 0 (by omega)
  simpa [spec_wdIs.f] using h

/-- a word of a set -/
def short (s : ByteArray) : Bool := decide (1 ≤ s.size ∧ s.size ≤ 8) && s.data.toList.all isLetter
theorem wdShort_ev (s : ByteArray) : Ev (fun k => spec_wdShort.f k s) (short s) := by
  unfold spec_wdShort.f short
  refine Ev.known (fun _ => spec_in _ _ _) (Ev.cases (fun h => ?_) (fun h => ?_))
  · have h' := of_decide_eq_true h
    rw [decide_eq_true (show 1 ≤ s.size ∧ s.size ≤ 8 by omega), Bool.true_and]
    exact Ev.bind (wdIs_ev s (by omega)) (Ev.now _)
  · rw [decide_eq_false (show ¬ (1 ≤ s.size ∧ s.size ≤ 8) by intro hh; exact h (decide_eq_true (by omega))), Bool.false_and]
    exact Ev.now _
theorem isShort_eq (s : ByteArray) : impl_isShort.f s = some (short s) := by
  unfold impl_isShort.f impl_isWord.f short
  by_cases h : 1 ≤ s.size ∧ s.size ≤ 8
  · rw [decide_eq_true h, decide_eq_true (show s.size ≤ 60 by omega)]
    cases s.data.toList.all isLetter
    · rfl
    · simp [impl_in_eq]; omega
  · rw [decide_eq_false h]
    cases (decide (s.size ≤ 60) && s.data.toList.all isLetter)
    · rfl
    · simp [impl_in_eq]; omega
theorem bytesLess_cmp : ∀ (x y : List UInt8), Op.bytesLess x y = decide (Lib.compareBytes x y < 0)
  | [], [] => by simp [Op.bytesLess, Lib.compareBytes]
  | _ :: _, [] => by simp [Op.bytesLess, Lib.compareBytes]
  | [], _ :: _ => by simp [Op.bytesLess, Lib.compareBytes]
  | a :: x, b :: y => by
    rw [Op.bytesLess, bytesLess_cmp x y, Lib.compareBytes]
    by_cases h1 : a < b
    · simp [h1]
    · by_cases h2 : b < a
      · have : (a == b) = false := by
          rw [beq_eq_false_iff_ne]; rintro rfl; exact h1 h2
        simp [h1, h2, this]
      · have : a = b := by
          have h1' : ¬ a.toNat < b.toNat := h1
          have h2' : ¬ b.toNat < a.toNat := h2
          exact UInt8.toNat_inj.1 (by omega)
        subst this; simp [h1]
theorem bytesLess_irrefl : ∀ (x : List UInt8), Op.bytesLess x x = false
  | [] => rfl
  | a :: x => by rw [Op.bytesLess, bytesLess_irrefl x]; simp
theorem bytesLess_trans : ∀ (x y z : List UInt8), Op.bytesLess x y = true → Op.bytesLess y z = true → Op.bytesLess x z = true
  | _, [], _ => by simp [Op.bytesLess]
  | _, _ :: _, [] => by simp [Op.bytesLess]
  | [], _ :: _, _ :: _ => by simp [Op.bytesLess]
  | a :: x, b :: y, c :: z => by
    have ih := bytesLess_trans x y z
    simp only [Op.bytesLess, Bool.or_eq_true, decide_eq_true_eq, Bool.and_eq_true, beq_iff_eq]
    intro h1 h2
    rcases h1 with h1 | ⟨rfl, h1⟩
    · rcases h2 with h2 | ⟨rfl, h2⟩
      · exact Or.inl (UInt8.lt_trans h1 h2)
      · exact Or.inl h1
    · rcases h2 with h2 | ⟨rfl, h2⟩
      · exact Or.inl h2
      · exact Or.inr ⟨rfl, ih h1 h2⟩
/-- the order of words: by length, then by letters -/
def wless (a b : ByteArray) : Bool := decide (a.size < b.size) || (decide (a.size = b.size) && Op.bytesLess a.data.toList b.data.toList)
theorem wless_irrefl (a : ByteArray) : wless a a = false := by unfold wless; rw [bytesLess_irrefl]; simp
theorem wless_trans (a b c : ByteArray) (h1 : wless a b = true) (h2 : wless b c = true) : wless a c = true := by
  unfold wless at *
  simp only [Bool.or_eq_true, decide_eq_true_eq, Bool.and_eq_true] at *
  rcases h1 with h1 | ⟨h1, g1⟩ <;> rcases h2 with h2 | ⟨h2, g2⟩
  · left; omega
  · left; omega
  · left; omega
  · exact Or.inr ⟨by omega, bytesLess_trans _ _ _ g1 g2⟩
theorem wdLess_eq (a b : ByteArray) : spec_wdLess.f a b = some (wless a b) := by
  unfold spec_wdLess.f wless
  by_cases h : a.size < b.size
  · rw [if_pos (by omega)]; simp [h]
  · rw [if_neg (by omega)]
    by_cases h' : a.size = b.size
    · rw [if_pos (by omega)]; simp [h', ByteArray.toList_eq]
    · rw [if_neg (by omega)]; simp [h, h']
theorem or2 (a b : Int) : Ev (fun k => cmp_Or_int.f k [a, b]) (if a = 0 then b else a) := by
  refine ⟨3, fun k hk => ?_⟩
  obtain ⟨k, rfl⟩ : ∃ m, k = m + 3 := ⟨k - 3, by omega⟩
  by_cases ha : a = 0 <;> by_cases hb : b = 0 <;> simp [cmp_Or_int.f, cmp_Or_int.l0, rd, wrap64, ha, hb]
theorem compareWords_ev (a b : ByteArray) : ∃ c, Ev (fun k => impl_compareWords.f k a b) c ∧ wless a b = decide (c < 0) := by
  have hn : ∀ x : Int, cmp_isNaN_int.f x = some false := fun x => by simp [cmp_isNaN_int.f]
  have hc : cmp_Compare_int.f (a.size : Int) (b.size : Int) = some (if a.size < b.size then -1 else if b.size < a.size then 1 else 0) := by
    unfold cmp_Compare_int.f
    simp only [hn, Option.bind_some]
    rw [if_neg (by simp), if_neg (by simp)]
    by_cases h1 : a.size < b.size
    · rw [if_pos (by omega), if_pos h1]
    · rw [if_neg (by omega), if_neg h1]
      by_cases h2 : b.size < a.size
      · rw [if_pos (by omega), if_pos h2]
      · rw [if_neg (by omega), if_neg h2]
  refine ⟨_, Ev.known (fun _ => hc) (Ev.known (fun _ => rfl) (Ev.bind (or2 _ _) (Ev.now _))), ?_⟩
  unfold wless
  rw [bytesLess_cmp]
  by_cases h1 : a.size < b.size
  · simp [h1]
  · by_cases h2 : b.size < a.size
    · rw [if_neg h1, if_pos h2]; simp [h1, show ¬ a.size = b.size by omega]
    · rw [if_neg h1, if_neg h2]; simp [h1, show a.size = b.size by omega]
/-- a set: words of the right size, one by one in order -/
def SetUpto (l : List ByteArray) (i : Nat) : Prop := ∀ (j : Nat) (h : j < l.length), i ≤ j → short l[j] = true ∧ (0 < j → wless l[j - 1] l[j] = true)
theorem set_l0 (l : List ByteArray) (hl : l.length ≤ 1048576) : ∀ (d i : Nat), i + d = l.length → ∃ b, Ev (fun k => spec_wdSet.l0 k l l (l.length : Int) (i : Int)) b ∧ Ev (fun k => impl_isSet.l0 k l l (l.length : Int) (i : Int)) (b && decide (l.length ≤ 12)) ∧ (b = true → SetUpto l i)
  | 0, i, hd => by
    refine ⟨true, Ev.succ ?_, Ev.succ ?_, fun _ j h hj => by omega⟩
    · simp only [spec_wdSet.l0]; exact Ev.neg (by omega) (Ev.now _)
    · simp only [impl_isSet.l0]; refine Ev.neg (by omega) (Ev.pure ?_); rw [Bool.true_and]; exact decide_eq_decide.2 (by omega)
  | d + 1, i, hd => by
    have h1 : i < l.length := by omega
    obtain ⟨b, e1, e2, hb⟩ := set_l0 l hl d (i + 1) (by omega)
    have s1 := wdShort_ev l[i]
    have s2 := isShort_eq l[i]
    cases hs : short l[i]
    · rw [hs] at s1 s2
      refine ⟨false, Ev.succ ?_, Ev.succ ?_, fun h => by cases h⟩
      · simp only [spec_wdSet.l0, rdOf_nat l i h1]
        exact Ev.pos (by omega) (Ev.pos (by omega) (Ev.pos (by omega) (Ev.bind s1 (Ev.neg (by simp) (Ev.now _)))))
      · simp only [impl_isSet.l0, rdOf_nat l i h1]
        exact Ev.pos (by omega) (Ev.pos (by omega) (Ev.pos (by omega) (Ev.known (fun _ => s2) (Ev.neg (by simp) (Ev.now _)))))
    · rw [hs] at s1 s2
      by_cases h0 : i = 0
      · refine ⟨b, Ev.succ ?_, Ev.succ ?_, fun h j hj hij => ?_⟩
        · simp only [spec_wdSet.l0, rdOf_nat l i h1, w1 (show 0 ≤ (i : Int) by omega) (show (i : Int) < 9223372036854775807 by omega)]
          exact Ev.pos (by omega) (Ev.pos (by omega) (Ev.pos (by omega) (Ev.bind s1 (Ev.pos rfl (Ev.neg (by omega) e1)))))
        · simp only [impl_isSet.l0, rdOf_nat l i h1, w1 (show 0 ≤ (i : Int) by omega) (show (i : Int) < 9223372036854775807 by omega)]
          exact Ev.pos (by omega) (Ev.pos (by omega) (Ev.pos (by omega) (Ev.known (fun _ => s2) (Ev.pos rfl (Ev.neg (by omega) e2)))))
        · by_cases he : i = j
          · subst he; exact ⟨hs, fun h => by omega⟩
          · exact hb h j hj (by omega)
      · obtain ⟨c, hc, hw⟩ := compareWords_ev l[i - 1] l[i]
        have e3 : Aside0 (wrap64 ((i : Int) - 1) = ((i - 1 : Nat) : Int)) := ⟨by rw [w64 (by omega) (by omega)]; omega⟩
        have l1 := wdLess_eq l[i - 1] l[i]
        refine ⟨wless l[i - 1] l[i] && b, Ev.succ ?_, Ev.succ ?_, fun h j hj hij => ?_⟩
        · simp only [spec_wdSet.l0, rdOf_nat l i h1, e3.out, rdOf_nat l (i - 1) (by omega), w1 (show 0 ≤ (i : Int) by omega) (show (i : Int) < 9223372036854775807 by omega)]
          refine Ev.pos (by omega) (Ev.pos (by omega) (Ev.pos (by omega) (Ev.bind s1 (Ev.pos rfl (Ev.pos (by omega) (Ev.pos (by omega) (Ev.pos (by omega) (Ev.known (fun _ => l1) (Ev.cases (fun h => ?_) (fun h => ?_))))))))))
          · rw [h, Bool.true_and]; exact e1
          · rw [Bool.eq_false_iff.mpr h, Bool.false_and]; exact Ev.now _
        · simp only [impl_isSet.l0, rdOf_nat l i h1, e3.out, rdOf_nat l (i - 1) (by omega), w1 (show 0 ≤ (i : Int) by omega) (show (i : Int) < 9223372036854775807 by omega)]
          refine Ev.pos (by omega) (Ev.pos (by omega) (Ev.pos (by omega) (Ev.known (fun _ => s2) (Ev.pos rfl (Ev.pos (by omega) (Ev.pos (by omega) (Ev.pos (by omega) (Ev.bind hc (Ev.cases (fun h => ?_) (fun h => ?_))))))))))
          · rw [hw, decide_eq_false (by omega)]; exact Ev.now _
          · rw [hw, decide_eq_true (by omega)]; exact e2
        · simp only [Bool.and_eq_true] at h
          by_cases he : i = j
          · subst he; exact ⟨hs, fun _ => h.1⟩
          · exact hb h.2 j hj (by omega)
/-- what a set is -/
structure IsSet (l : List ByteArray) : Prop where
  few : l.length ≤ 12
  each : SetUpto l 0
theorem isSet_same (l : List ByteArray) (hl : l.length ≤ 1048576) : ∃ b, Ev (fun k => spec_wdSet.f k l) b ∧ Ev (fun k => impl_isSet.f k l) b ∧ (b = true → IsSet l) := by
  obtain ⟨b, h1, h2, hb⟩ := set_l0 l hl l.length 0 (by omega)
  unfold spec_wdSet.f impl_isSet.f
  by_cases h12 : l.length ≤ 12
  · rw [decide_eq_true h12, Bool.and_true] at h2
    exact ⟨b, Ev.neg (by omega) h1, h2, fun h => ⟨h12, hb h⟩⟩
  · rw [decide_eq_false h12, Bool.and_false] at h2
    exact ⟨false, Ev.pos (by omega) (Ev.now _), h2, fun h => by cases h⟩
theorem IsSet.lt {l : List ByteArray} (h : IsSet l) : ∀ (j i : Nat) (hj : j < l.length) (hi : i < j), wless l[i] l[j] = true
  | 0, i, hj, hi => by omega
  | j + 1, i, hj, hi => by
    have h1 := (h.each (j + 1) hj (by omega)).2 (by omega)
    by_cases e : i = j
    · subst e; exact h1
    · exact wless_trans _ _ _ (h.lt j i (by omega) (by omega)) h1
theorem IsSet.short {l : List ByteArray} (h : IsSet l) (w : ByteArray) (hw : w ∈ l) : Pure.short w = true := by
  obtain ⟨i, hi, rfl⟩ := List.getElem_of_mem hw
  exact (h.each i hi (by omega)).1
theorem IsSet.size {l : List ByteArray} (h : IsSet l) (w : ByteArray) (hw : w ∈ l) : 1 ≤ w.size ∧ w.size ≤ 8 := by
  have := h.short w hw
  unfold Pure.short at this
  simp only [Bool.and_eq_true, decide_eq_true_eq] at this
  exact this.1

/-- a text's letters -/
abbrev ch (s : ByteArray) : List UInt8 := s.data.toList
theorem ch_length (s : ByteArray) : (ch s).length = s.size := Array.length_toList
theorem ch_extract (s : ByteArray) (a b : Nat) : ch (s.extract a b) = ((ch s).drop a).take (b - a) := by
  simp [ch, ByteArray.data_extract, Array.toList_extract, List.extract_eq_take_drop]
theorem ch_drop (s : ByteArray) (a : Nat) : ch (s.extract a s.size) = (ch s).drop a := by
  rw [ch_extract, List.take_of_length_le]; simp only [List.length_drop, ch_length]; omega
theorem begins_test (a w : ByteArray) (h : w.size ≤ a.size) : ((a.extract 0 w.size).toList == w.toList) = (ch w).isPrefixOf (ch a) := by
  rw [ByteArray.toList_eq, ByteArray.toList_eq]
  change (ch (a.extract 0 w.size) == ch w) = _
  rw [ch_extract, List.drop_zero, Nat.sub_zero, ← ch_length w, Bool.eq_iff_iff, beq_iff_eq, List.isPrefixOf_iff_prefix, List.prefix_iff_eq_take]
  exact eq_comm
theorem prefix_long (a w : ByteArray) (h : ¬ w.size ≤ a.size) : (ch w).isPrefixOf (ch a) = false := by
  rw [Bool.eq_false_iff]
  intro hp
  have := (List.isPrefixOf_iff_prefix.1 hp).length_le
  rw [ch_length, ch_length] at this
  exact h this
theorem wdBegins_eq (a w : ByteArray) : spec_wdBegins.f a w = some ((ch w).isPrefixOf (ch a)) := by
  unfold spec_wdBegins.f
  by_cases h : w.size ≤ a.size
  · rw [if_pos (by omega), if_pos (by omega), begins_test a w h]
  · rw [if_neg (by omega), prefix_long a w h]
theorem toList_ch (s : ByteArray) : s.toList = ch s := ByteArray.toList_eq s
theorem chNe (l : List ByteArray) (hne : ∀ w ∈ l, 1 ≤ w.size) : ∀ t ∈ l.map ch, t ≠ [] := fun t ht => by
  obtain ⟨w, hw, rfl⟩ := List.mem_map.1 ht
  intro e; have := hne w hw; have := ch_length w; rw [e] at this; simp at this; omega

/-- a loop from the first place to the last one, with what is so at each place -/
theorem Ev.loop {R : Type} (g : Nat → Nat → Option R) (n : Nat) (r : R) (hstep : ∀ i, i < n → Ev (g (i + 1)) r → Ev (g i) r) (hend : Ev (g n) r) : Ev (g 0) r := by
  have h : ∀ d i, i + d = n → Ev (g i) r := by
    intro d
    induction d with
    | zero => intro i hi; rw [show i = n by omega]; exact hend
    | succ d ih => intro i hi; exact hstep i (by omega) (ih (i + 1) (by omega))
  exact h n 0 (by omega)

/-- a text out of its letters -/
def bx (x : List UInt8) : ByteArray := ⟨x.toArray⟩
theorem ch_bx (x : List UInt8) : ch (bx x) = x := by simp [ch, bx]
theorem bx_ch (s : ByteArray) : bx (ch s) = s := by simp [ch, bx]
theorem ch_inj' {a b : ByteArray} (h : ch a = ch b) : a = b := ByteArray.ext (Array.toList_inj.1 h)
theorem map_ch_bx (l : List (List UInt8)) : (l.map bx).map ch = l := by simp [Function.comp_def, ch_bx]
theorem map_bx_ch (l : List ByteArray) : (l.map ch).map bx = l := by simp [Function.comp_def, bx_ch]
theorem bx_size (x : List UInt8) : (bx x).size = x.length := by rw [← ch_length, ch_bx]
/-- words in order, each once, as texts -/
def bas (M : List (List UInt8)) : List ByteArray := (ordL M).map bx
theorem ordL_congr {M N : List (List UInt8)} (h : ∀ x, x ∈ M ↔ x ∈ N) : ordL M = ordL N := rises_unique _ _ (ordL_rises M) (ordL_rises N) (fun x => by rw [mem_ordL, mem_ordL]; exact h x)
theorem bas_congr {M N : List (List UInt8)} (h : ∀ x, x ∈ M ↔ x ∈ N) : bas M = bas N := by unfold bas; rw [ordL_congr h]
theorem ch_bas (M : List (List UInt8)) : (bas M).map ch = ordL M := map_ch_bx _
theorem bas_of (r : List ByteArray) (M : List (List UInt8)) (hr : (r.map ch).Pairwise fun x y => wcmp x y < 0) (hm : ∀ x, x ∈ r.map ch ↔ x ∈ M) : r = bas M := by
  unfold bas
  rw [← rises_unique (r.map ch) (ordL M) hr (ordL_rises M) (fun x => by rw [hm, mem_ordL]), map_bx_ch]
theorem ordL_len (M : List (List UInt8)) : (ordL M).length ≤ M.length := by
  unfold ordL Lib.compact Lib.compactUpTo
  rw [List.length_map]
  refine Nat.le_trans (List.length_filter_le _ _) ?_
  rw [List.length_range, (sortW_perm M).length_eq]
  exact Nat.le_refl _
theorem bas_len (M : List (List UInt8)) : (bas M).length ≤ M.length := by unfold bas; rw [List.length_map]; exact ordL_len M
theorem ordL_ordL (M : List (List UInt8)) : ordL (ordL M) = ordL M := ordL_congr (fun x => mem_ordL M x)
theorem bas_nil : bas [] = [] := (bas_of [] [] (by simp) (by simp)).symm
theorem bas_one (x : List UInt8) : bas [x] = [bx x] := by
  symm
  exact bas_of _ _ (by simp) (by intro y; simp [ch_bx])
theorem ordL_nodup (M : List (List UInt8)) : (ordL M).Nodup := (ordL_rises M).imp fun {a b} h e => by rw [e, wcmp_self] at h; omega
theorem wless_wcmp (a b : ByteArray) : wless a b = decide (wcmp (ch a) (ch b) < 0) := by
  unfold wless wcmp
  rw [ch_length, ch_length, bytesLess_cmp]
  by_cases h1 : a.size < b.size
  · simp [h1]
  · by_cases h2 : b.size < a.size
    · simp [h1, h2, show ¬ a.size = b.size by omega]
    · simp [h1, show a.size = b.size by omega]
theorem ordered_eq (l : List ByteArray) (h : l.length ≤ 8796093021952) : impl_ordered.f l = some (bas (l.map ch)) := by
  unfold impl_ordered.f
  rw [if_pos h]; rfl

theorem wdPut_l0 (L : List ByteArray) (s : ByteArray) (hL : L.length ≤ 8796093000000) (hr : (L.map ch).Pairwise fun x y => wcmp x y < 0) : ∀ (d i : Nat), i + d = L.length → (∀ j (h : j < L.length), j < i → wcmp (ch L[j]) (ch s) < 0) → ∃ r, Ev (fun k => spec_wdPut.l0 k L s (i : Int)) r ∧ (r.map ch).Pairwise (fun x y => wcmp x y < 0) ∧ ∀ x, x ∈ r.map ch ↔ x ∈ L.map ch ++ [ch s] := by
  have fin : ∀ i, i ≤ L.length → (∀ j (h : j < L.length), j < i → wcmp (ch L[j]) (ch s) < 0) → (∀ j (h : j < L.length), i ≤ j → wcmp (ch s) (ch L[j]) < 0) → ((L.take i ++ [s] ++ L.drop i).map ch).Pairwise (fun x y => wcmp x y < 0) ∧ ∀ x, x ∈ (L.take i ++ [s] ++ L.drop i).map ch ↔ x ∈ L.map ch ++ [ch s] := by
    intro i hi h1 h2
    refine ⟨?_, fun x => ?_⟩
    · rw [List.map_append, List.map_append, List.map_cons, List.map_nil, List.pairwise_append, List.pairwise_append]
      refine ⟨⟨?_, by simp, ?_⟩, ?_, ?_⟩
      · rw [List.map_take]; exact hr.sublist (List.take_sublist _ _)
      · intro a ha b hb
        rw [List.mem_singleton] at hb
        subst hb
        obtain ⟨y, hy, rfl⟩ := List.mem_map.1 ha
        obtain ⟨j, hj, rfl⟩ := List.getElem_of_mem hy
        rw [List.length_take] at hj
        rw [List.getElem_take]
        exact h1 j (by omega) (by omega)
      · rw [List.map_drop]; exact hr.sublist (List.drop_sublist _ _)
      · intro a ha b hb
        obtain ⟨y, hy, rfl⟩ := List.mem_map.1 hb
        obtain ⟨j, hj, rfl⟩ := List.getElem_of_mem hy
        rw [List.length_drop] at hj
        rw [List.getElem_drop]
        have hb' := h2 (i + j) (by omega) (by omega)
        rcases List.mem_append.1 ha with ha | ha
        · obtain ⟨y, hy, rfl⟩ := List.mem_map.1 ha
          obtain ⟨j', hj', rfl⟩ := List.getElem_of_mem hy
          rw [List.length_take] at hj'
          rw [List.getElem_take]
          exact wcmp_trans _ _ _ (h1 j' (by omega) (by omega)) hb'
        · rw [List.mem_singleton] at ha
          subst ha
          exact hb'
    · have := List.take_append_drop i L
      constructor
      · intro hx
        obtain ⟨y, hy, rfl⟩ := List.mem_map.1 hx
        rcases List.mem_append.1 hy with hy | hy
        · rcases List.mem_append.1 hy with hy | hy
          · exact List.mem_append_left _ (List.mem_map.2 ⟨y, List.mem_of_mem_take hy, rfl⟩)
          · rw [List.mem_singleton] at hy; subst hy; exact List.mem_append_right _ (by simp)
        · exact List.mem_append_left _ (List.mem_map.2 ⟨y, List.mem_of_mem_drop hy, rfl⟩)
      · intro hx
        rcases List.mem_append.1 hx with hx | hx
        · obtain ⟨y, hy, rfl⟩ := List.mem_map.1 hx
          refine List.mem_map.2 ⟨y, ?_, rfl⟩
          rw [← this] at hy
          rcases List.mem_append.1 hy with hy | hy
          · exact List.mem_append_left _ (List.mem_append_left _ hy)
          · exact List.mem_append_right _ hy
        · rw [List.mem_singleton] at hx; subst hx
          exact List.mem_map.2 ⟨s, List.mem_append_left _ (List.mem_append_right _ (by simp)), rfl⟩
  intro d
  induction d with
  | zero =>
    intro i hd h1
    obtain ⟨p, q⟩ := fin i (by omega) h1 (fun j hj h => by omega)
    refine ⟨_, Ev.succ ?_, p, q⟩
    simp only [spec_wdPut.l0, Int.toNat_natCast, Option.bind_some]
    exact Ev.neg (by omega) (Ev.pos (by omega) (Ev.pos (by omega) (Ev.pos (by simp; omega) (Ev.pos (by simp; omega) (Ev.pos (by simp; omega) (Ev.pure (by simp)))))))
  | succ d ih =>
    intro i hd h1
    have hi : i < L.length := by omega
    have hw := wless_wcmp L[i] s
    by_cases hl : wcmp (ch L[i]) (ch s) < 0
    · obtain ⟨r, r1, r2, r3⟩ := ih (i + 1) (by omega) (fun j hj h => by
        by_cases e : j = i
        · subst e; exact hl
        · exact h1 j hj (by omega))
      refine ⟨r, Ev.succ ?_, r2, r3⟩
      simp only [spec_wdPut.l0, rdOf_nat L i hi, w1 (show 0 ≤ (i : Int) by omega) (show (i : Int) < 9223372036854775807 by omega)]
      exact Ev.pos (by omega) (Ev.pos (by omega) (Ev.known (fun _ => wdLess_eq _ _) (Ev.pos (by rw [hw]; simpa using hl) r1)))
    · by_cases he : ch L[i] = ch s
      · refine ⟨L, Ev.succ ?_, hr, fun x => ?_⟩
        · simp only [spec_wdPut.l0, rdOf_nat L i hi, toList_ch]
          exact Ev.pos (by omega) (Ev.pos (by omega) (Ev.known (fun _ => wdLess_eq _ _) (Ev.neg (by rw [hw]; simpa using hl) (Ev.pos he (Ev.now _)))))
        · rw [List.mem_append, List.mem_singleton]
          constructor
          · exact Or.inl
          · rintro (h | rfl)
            · exact h
            · exact List.mem_map.2 ⟨L[i], List.getElem_mem hi, he⟩
      · have hgt : wcmp (ch s) (ch L[i]) < 0 := by
          have := wcmp_anti (ch L[i]) (ch s)
          have h0 : wcmp (ch L[i]) (ch s) ≠ 0 := fun h => he (wcmp_zero _ _ h)
          omega
        obtain ⟨p, q⟩ := fin i (by omega) h1 (fun j hj h => by
          by_cases e : j = i
          · subst e; exact hgt
          · have := List.pairwise_iff_getElem.1 hr i j (by simpa using hi) (by simpa using hj) (by omega)
            rw [List.getElem_map, List.getElem_map] at this
            exact wcmp_trans _ _ _ hgt this)
        refine ⟨_, Ev.succ ?_, p, q⟩
        simp only [spec_wdPut.l0, rdOf_nat L i hi, toList_ch, Int.toNat_natCast, Option.bind_some]
        exact Ev.pos (by omega) (Ev.pos (by omega) (Ev.known (fun _ => wdLess_eq _ _) (Ev.neg (by rw [hw]; simpa using hl) (Ev.neg he (Ev.pos (by omega) (Ev.pos (by simp; omega) (Ev.pos (by simp; omega) (Ev.pos (by simp; omega) (Ev.pure (by simp))))))))))
theorem wdPut_ev (M : List (List UInt8)) (s : ByteArray) (hM : M.length ≤ 8796093000000) : Ev (fun k => spec_wdPut.f k (bas M) s) (bas (M ++ [ch s])) := by
  have hl := bas_len M
  obtain ⟨r, r1, r2, r3⟩ := wdPut_l0 (bas M) s (by omega) (by rw [ch_bas]; exact ordL_rises M) (bas M).length 0 (by omega) (fun j _ h => by omega)
  rw [← bas_of r (M ++ [ch s]) r2 (fun x => by rw [r3, ch_bas, List.mem_append, List.mem_append, mem_ordL])]
  exact r1

/-- what is left if words are put behind each other until they begin with a text -/
def cov (W : List (List UInt8)) (s : List UInt8) : List (List UInt8) :=
  W.flatMap fun t => if s.isPrefixOf t then [t.drop s.length] else if h : t ≠ [] ∧ t.isPrefixOf s = true then cov W (s.drop t.length) else []
termination_by s.length
decreasing_by
  have h1 : t.length ≠ 0 := by intro e; exact h.1 (List.eq_nil_of_length_eq_zero e)
  have h2 : t.length ≤ s.length := (List.isPrefixOf_iff_prefix.1 h.2).length_le
  simp only [List.length_drop]
  omega
/-- what one word adds -/
def covT (W : List (List UInt8)) (s t : List UInt8) : List (List UInt8) := if s.isPrefixOf t then [t.drop s.length] else if t ≠ [] ∧ t.isPrefixOf s = true then cov W (s.drop t.length) else []
theorem cov_eq (W : List (List UInt8)) (s : List UInt8) : cov W s = W.flatMap (covT W s) := by
  rw [cov]
  rfl
/-- all ends of words -/
def sufs (W : List (List UInt8)) : List (List UInt8) := W.flatMap fun t => (List.range 9).map fun a => t.drop a
theorem mem_sufs {W : List (List UInt8)} (h8 : ∀ t ∈ W, t.length ≤ 8) {t : List UInt8} (ht : t ∈ W) (a : Nat) : t.drop a ∈ sufs W := by
  refine List.mem_flatMap.2 ⟨t, ht, List.mem_map.2 ⟨min a 8, by simp; omega, ?_⟩⟩
  have := h8 t ht
  by_cases h : a ≤ 8
  · rw [Nat.min_eq_left h]
  · rw [Nat.min_eq_right (by omega), List.drop_of_length_le (by omega), List.drop_of_length_le (by omega)]
theorem sufs_drop {W : List (List UInt8)} (h8 : ∀ t ∈ W, t.length ≤ 8) {x : List UInt8} (hx : x ∈ sufs W) (a : Nat) : x.drop a ∈ sufs W := by
  obtain ⟨t, ht, hx⟩ := List.mem_flatMap.1 hx
  obtain ⟨b, -, rfl⟩ := List.mem_map.1 hx
  rw [List.drop_drop]
  exact mem_sufs h8 ht _
theorem sufs_small {W : List (List UInt8)} (h8 : ∀ t ∈ W, t.length ≤ 8) {x : List UInt8} (hx : x ∈ sufs W) : x.length ≤ 8 := by
  obtain ⟨t, ht, hx⟩ := List.mem_flatMap.1 hx
  obtain ⟨b, -, rfl⟩ := List.mem_map.1 hx
  have := h8 t ht
  simp; omega
theorem flatMap_len {α β : Type} (f : α → List β) (c : Nat) : ∀ l : List α, (∀ x ∈ l, (f x).length ≤ c) → (l.flatMap f).length ≤ l.length * c
  | [], _ => by simp
  | x :: l, h => by
    have h1 := h x (by simp)
    have h2 := flatMap_len f c l (fun y hy => h y (by simp [hy]))
    rw [List.flatMap_cons, List.length_append, List.length_cons, Nat.succ_mul]
    omega
theorem sufs_len (W : List (List UInt8)) : (sufs W).length ≤ W.length * 9 := flatMap_len _ 9 W (fun t _ => by simp)
theorem cov_len (W : List (List UInt8)) (hW : W.length ≤ 12) : ∀ (n : Nat) (s : List UInt8), s.length = n → (cov W s).length ≤ 12 ^ (n + 1) := by
  intro n
  induction n using Nat.strongRecOn with
  | _ n ih =>
    intro s hs
    rw [cov_eq]
    have h1 : ∀ t ∈ W, (covT W s t).length ≤ 12 ^ n := by
      intro t _
      have hp : 1 ≤ 12 ^ n := Nat.one_le_pow _ _ (by omega)
      unfold covT
      split
      · simpa using hp
      · split
        · rename_i h
          have h1 : 0 < t.length := List.length_pos_iff.2 h.1
          have h2 : t.length ≤ s.length := (List.isPrefixOf_iff_prefix.1 h.2).length_le
          refine Nat.le_trans (ih (s.drop t.length).length (by simp only [List.length_drop]; omega) _ rfl) (Nat.pow_le_pow_right (by omega) ?_)
          simp only [List.length_drop]; omega
        · simp
    have h2 := flatMap_len (covT W s) (12 ^ n) W h1
    rw [Nat.pow_succ]
    exact Nat.le_trans h2 (by rw [Nat.mul_comm]; exact Nat.mul_le_mul_left _ hW)
theorem cov_mem (W : List (List UInt8)) (h8 : ∀ t ∈ W, t.length ≤ 8) : ∀ (n : Nat) (s : List UInt8), s.length = n → ∀ x ∈ cov W s, x ∈ sufs W := by
  intro n
  induction n using Nat.strongRecOn with
  | _ n ih =>
    intro s hs x hx
    rw [cov_eq] at hx
    obtain ⟨t, ht, hx⟩ := List.mem_flatMap.1 hx
    unfold covT at hx
    split at hx
    · rw [List.mem_singleton] at hx; subst hx; exact mem_sufs h8 ht _
    · split at hx
      · rename_i h
        have h1 : 0 < t.length := List.length_pos_iff.2 h.1
        have h2 : t.length ≤ s.length := (List.isPrefixOf_iff_prefix.1 h.2).length_le
        exact ih (s.drop t.length).length (by simp only [List.length_drop]; omega) _ rfl x hx
      · cases hx
/-- what is left behind a word that is put on the first side -/
def beh (W : List (List UInt8)) (w left : List UInt8) : List (List UInt8) := if w.isPrefixOf left then [left.drop w.length] else if left.isPrefixOf w then cov W (w.drop left.length) else []
theorem beh_mem (W : List (List UInt8)) (h8 : ∀ t ∈ W, t.length ≤ 8) (w left : List UInt8) (hl : left ∈ sufs W) : ∀ x ∈ beh W w left, x ∈ sufs W := by
  intro x hx
  unfold beh at hx
  split at hx
  · rw [List.mem_singleton] at hx; subst hx; exact sufs_drop h8 hl _
  · split at hx
    · exact cov_mem W h8 _ _ rfl x hx
    · cases hx
theorem beh_len (W : List (List UInt8)) (hW : W.length ≤ 12) (w left : List UInt8) (hw : w.length ≤ 8) : (beh W w left).length ≤ 5159780352 := by
  unfold beh
  split
  · simp
  · split
    · refine Nat.le_trans (cov_len W hW _ _ rfl) (Nat.le_trans (Nat.pow_le_pow_right (by omega) (show (w.drop left.length).length + 1 ≤ 9 by simp; omega)) (by decide))
    · simp
/-- the rests one word later -/
def nxt (W R : List (List UInt8)) : List (List UInt8) := R.flatMap fun r => W.flatMap fun w => beh W w r
theorem nxt_mem (W : List (List UInt8)) (h8 : ∀ t ∈ W, t.length ≤ 8) (R : List (List UInt8)) (hR : ∀ x ∈ R, x ∈ sufs W) : ∀ x ∈ nxt W R, x ∈ sufs W := by
  intro x hx
  obtain ⟨r, hr, hx⟩ := List.mem_flatMap.1 hx
  obtain ⟨w, hw, hx⟩ := List.mem_flatMap.1 hx
  exact beh_mem W h8 w r (hR r hr) x hx
theorem nodup_le' {α : Type} [DecidableEq α] : ∀ (M N : List α), M.Nodup → M ⊆ N → M.length ≤ N.length
  | [], _, _, _ => Nat.zero_le _
  | x :: M, N, hn, hs => by
    have hx : x ∈ N := hs (by simp)
    have hn' := List.nodup_cons.1 hn
    have := nodup_le' M (N.erase x) hn'.2 (fun y hy => (List.mem_erase_of_ne (by rintro rfl; exact hn'.1 hy)).2 (hs (by simp [hy])))
    have h1 := List.length_erase_of_mem hx
    have h2 := List.length_pos_of_mem hx
    simp only [List.length_cons]
    omega
theorem ord_few (W : List (List UInt8)) (hW : W.length ≤ 12) (M : List (List UInt8)) (hM : ∀ x ∈ M, x ∈ sufs W) : (ordL M).length ≤ 108 := by
  have h1 := nodup_le' (ordL M) (sufs W) (ordL_nodup M) (fun x hx => hM x ((mem_ordL M x).1 hx))
  have h2 := sufs_len W
  omega
theorem nxt_len (W : List (List UInt8)) (hW : W.length ≤ 12) (h8 : ∀ t ∈ W, t.length ≤ 8) (R : List (List UInt8)) (hR : R.length ≤ 108) : (nxt W R).length ≤ 6687075336192 := by
  have h1 : ∀ r ∈ R, (W.flatMap fun w => beh W w r).length ≤ 61917364224 := fun r _ => by
    refine Nat.le_trans (flatMap_len _ 5159780352 W (fun w hw => beh_len W hW w r (h8 w hw))) ?_
    omega
  refine Nat.le_trans (flatMap_len _ 61917364224 R h1) ?_
  omega

theorem slHasPrefix_eq (a w : ByteArray) : stringslite_HasPrefix.f a w = some ((ch w).isPrefixOf (ch a)) := by
  unfold stringslite_HasPrefix.f
  by_cases h : w.size ≤ a.size
  · rw [if_pos (by omega), if_pos (by omega), if_pos (by omega), begins_test a w h]
  · rw [if_neg (by omega), prefix_long a w h]
theorem cutPrefix_eq (a w : ByteArray) : strings_CutPrefix.f a w = some (if (ch w).isPrefixOf (ch a) then (bx ((ch a).drop w.size), true) else (a, false)) := by
  unfold strings_CutPrefix.f stringslite_CutPrefix.f
  rw [slHasPrefix_eq]
  cases hp : (ch w).isPrefixOf (ch a)
  · simp
  · have hle := (List.isPrefixOf_iff_prefix.1 hp).length_le
    rw [ch_length, ch_length] at hle
    have : a.extract w.size a.size = bx ((ch a).drop w.size) := by rw [← ch_drop, bx_ch]
    simp [hle, this]
theorem impl_cover_ev (l : List ByteArray) (hl : l.length ≤ 12) (hne : ∀ w ∈ l, 1 ≤ w.size) (h8 : ∀ w ∈ l, w.size ≤ 8) : ∀ (n : Nat) (f : ByteArray), f.size = n → n ≤ 8 → 1 ≤ n → Ev (fun k => impl_cover.f k l f) ((cov (l.map ch) (ch f)).map bx) := by
  intro n
  induction n using Nat.strongRecOn with
  | _ n ih =>
    intro f hf hn8 hn1
    have hW : (l.map ch).length ≤ 12 := by simpa using hl
    have hbound : ∀ i, (((l.map ch).take i).flatMap (covT (l.map ch) (ch f))).length ≤ 5159780352 := fun i => by
      refine Nat.le_trans ?_ (show (cov (l.map ch) (ch f)).length ≤ 5159780352 from Nat.le_trans (cov_len _ hW _ _ rfl) (Nat.le_trans (Nat.pow_le_pow_right (by omega) (show (ch f).length + 1 ≤ 9 by rw [ch_length]; omega)) (by decide)))
      rw [cov_eq, ← List.take_append_drop i (l.map ch), List.flatMap_append, List.length_append, List.take_append_drop]
      omega
    refine Ev.succ ?_
    simp only [impl_cover.f]
    refine Ev.loop (fun i k => impl_cover.l0 k l f ((((l.map ch).take i).flatMap (covT (l.map ch) (ch f))).map bx) l (l.length : Int) (i : Int)) l.length _ (fun i hi hnext => ?_) ?_
    · have hb := hbound i
      have hb' := hbound (i + 1)
      have hi' : i < (l.map ch).length := by simpa using hi
      rw [List.take_succ_eq_append_getElem hi', List.flatMap_append, List.flatMap_cons, List.flatMap_nil, List.append_nil, List.map_append, List.getElem_map] at hnext
      rw [List.take_succ_eq_append_getElem hi', List.flatMap_append, List.flatMap_cons, List.flatMap_nil, List.append_nil, List.length_append, List.getElem_map] at hb'
      have hw1 := hne l[i] (List.getElem_mem hi)
      refine Ev.succ ?_
      simp only [impl_cover.l0, rdOf_nat l i hi, w1 (show 0 ≤ (i : Int) by omega) (show (i : Int) < 9223372036854775807 by omega)]
      refine Ev.pos (by omega) (Ev.pos (by omega) (Ev.pos (by omega) (Ev.known (fun _ => cutPrefix_eq _ _) ?_)))
      by_cases hp : (ch f).isPrefixOf (ch l[i]) = true
      · have e : covT (l.map ch) (ch f) (ch l[i]) = [(ch l[i]).drop f.size] := by unfold covT; rw [if_pos hp, ch_length]
        rw [e] at hnext hb'
        simp only [if_pos hp]
        exact Ev.pos (by simp) (Ev.pos (by simpa using (by omega : (((l.map ch).take i).flatMap (covT (l.map ch) (ch f))).length < 8796093022208)) hnext)
      · simp only [if_neg hp]
        refine Ev.neg (by simp) (Ev.known (fun _ => cutPrefix_eq _ _) ?_)
        by_cases hq : (ch l[i]).isPrefixOf (ch f) = true
        · have hle := (List.isPrefixOf_iff_prefix.1 hq).length_le
          rw [ch_length, ch_length] at hle
          have hlt : l[i].size < f.size := by
            rcases Nat.lt_or_ge l[i].size f.size with h | h
            · exact h
            · exfalso
              have e := (List.isPrefixOf_iff_prefix.1 hq).eq_of_length (by rw [ch_length, ch_length]; omega)
              exact hp (by rw [e]; exact List.isPrefixOf_iff_prefix.2 (List.prefix_refl _))
          have e : covT (l.map ch) (ch f) (ch l[i]) = cov (l.map ch) ((ch f).drop l[i].size) := by
            unfold covT
            rw [if_neg hp, if_pos ⟨fun e => by have := ch_length l[i]; rw [e] at this; simp at this; omega, hq⟩, ch_length]
          rw [e] at hnext hb'
          simp only [if_pos hq]
          have hrec := ih (f.size - l[i].size) (by omega) (bx ((ch f).drop l[i].size)) (by rw [bx_size, List.length_drop, ch_length]) (by omega) (by omega)
          rw [ch_bx] at hrec
          exact Ev.pos (by simp) (Ev.bind hrec (Ev.pos (by simp only [List.length_map]; omega) hnext))
        · have e : covT (l.map ch) (ch f) (ch l[i]) = [] := by
            unfold covT
            rw [if_neg hp, if_neg (fun h => hq h.2)]
          rw [e] at hnext
          simp only [if_neg hq]
          refine Ev.neg (by simp) ?_
          simpa using hnext
    · refine Ev.succ ?_
      simp only [impl_cover.l0]
      exact Ev.neg (by omega) (Ev.pure (by rw [List.take_of_length_le (by simp), cov_eq]))
theorem impl_behind_ev (l : List ByteArray) (hl : l.length ≤ 12) (hne : ∀ w ∈ l, 1 ≤ w.size) (h8 : ∀ w ∈ l, w.size ≤ 8) (w left : ByteArray) (hw : w.size ≤ 8) : Ev (fun k => impl_behind.f k l w left) ((beh (l.map ch) (ch w) (ch left)).map bx) := by
  unfold impl_behind.f beh
  refine Ev.known (fun _ => cutPrefix_eq _ _) ?_
  by_cases hp : (ch w).isPrefixOf (ch left) = true
  · simp only [if_pos hp]
    exact Ev.pos (by simp) (Ev.pure (by simp [ch_length]))
  · simp only [if_neg hp]
    refine Ev.neg (by simp) (Ev.known (fun _ => cutPrefix_eq _ _) ?_)
    by_cases hq : (ch left).isPrefixOf (ch w) = true
    · have hle := (List.isPrefixOf_iff_prefix.1 hq).length_le
      rw [ch_length, ch_length] at hle
      have hlt : left.size < w.size := by
        rcases Nat.lt_or_ge left.size w.size with h | h
        · exact h
        · exfalso
          have e := (List.isPrefixOf_iff_prefix.1 hq).eq_of_length (by rw [ch_length, ch_length]; omega)
          exact hp (by rw [e]; exact List.isPrefixOf_iff_prefix.2 (List.prefix_refl _))
      simp only [if_pos hq]
      have hrec := impl_cover_ev l hl hne h8 (w.size - left.size) (bx ((ch w).drop left.size)) (by rw [bx_size, List.length_drop, ch_length]) (by omega) (by omega)
      rw [ch_bx] at hrec
      exact Ev.pos (by simp) (Ev.bind hrec (Ev.pure (by rw [ch_length])))
    · simp only [if_neg hq]
      exact Ev.neg (by simp) (Ev.now _)
theorem impl_nextRests_ev (l : List ByteArray) (hl : l.length ≤ 12) (hne : ∀ w ∈ l, 1 ≤ w.size) (h8 : ∀ w ∈ l, w.size ≤ 8) (R : List ByteArray) (hR : R.length ≤ 108) : Ev (fun k => impl_nextRests.f k l R) (bas (nxt (l.map ch) (R.map ch))) := by
  have hW : (l.map ch).length ≤ 12 := by simpa using hl
  have h8' : ∀ t ∈ l.map ch, t.length ≤ 8 := fun t ht => by obtain ⟨w, hw, rfl⟩ := List.mem_map.1 ht; rw [ch_length]; exact h8 w hw
  have hin : ∀ (r : List UInt8) (j : Nat), (((l.map ch).take j).flatMap fun w => beh (l.map ch) w r).length ≤ 61917364224 := fun r j => by
    refine Nat.le_trans (flatMap_len _ 5159780352 _ (fun w hw => beh_len _ hW w r (h8' w (List.mem_of_mem_take hw)))) ?_
    have : ((l.map ch).take j).length ≤ 12 := Nat.le_trans (List.length_take_le' _ _) hW
    omega
  have hout : ∀ i, (nxt (l.map ch) ((R.map ch).take i)).length ≤ 6687075336192 := fun i => nxt_len _ hW h8' _ (Nat.le_trans (List.length_take_le' _ _) (by simpa using hR))
  unfold impl_nextRests.f
  refine Ev.loop (fun i k => impl_nextRests.l0 k l ((nxt (l.map ch) ((R.map ch).take i)).map bx) R (R.length : Int) (i : Int)) R.length _ (fun i hi hnext => ?_) ?_
  · have hb := hout i
    have hi' : i < (R.map ch).length := by simpa using hi
    rw [List.take_succ_eq_append_getElem hi'] at hnext
    unfold nxt at hnext hb ⊢
    rw [List.flatMap_append, List.flatMap_cons, List.flatMap_nil, List.append_nil, List.getElem_map] at hnext
    refine Ev.succ ?_
    simp only [impl_nextRests.l0, rdOf_nat R i hi]
    refine Ev.pos (by omega) (Ev.pos (by omega) (Ev.pos (by omega) ?_))
    refine Ev.loop (fun j k => impl_nextRests.l1 k l (((((R.map ch).take i).flatMap fun r => (l.map ch).flatMap fun w => beh (l.map ch) w r) ++ (((l.map ch).take j).flatMap fun w => beh (l.map ch) w (ch R[i]))).map bx) R[i] R (R.length : Int) (i : Int) l (l.length : Int) (j : Int)) l.length _ (fun j hj hnext => ?_) ?_ |> fun h => by simpa using h
    · have hc := hin (ch R[i]) j
      have hc' := hin (ch R[i]) (j + 1)
      have hj' : j < (l.map ch).length := by simpa using hj
      rw [List.take_succ_eq_append_getElem hj', List.flatMap_append, List.flatMap_cons, List.flatMap_nil, List.append_nil, List.getElem_map, ← List.append_assoc, List.map_append] at hnext
      rw [List.take_succ_eq_append_getElem hj', List.flatMap_append, List.flatMap_cons, List.flatMap_nil, List.append_nil, List.getElem_map, List.length_append] at hc'
      refine Ev.succ ?_
      simp only [impl_nextRests.l1, rdOf_nat l j hj, w1 (show 0 ≤ (j : Int) by omega) (show (j : Int) < 9223372036854775807 by omega)]
      exact Ev.pos (by omega) (Ev.pos (by omega) (Ev.pos (by omega) (Ev.bind (impl_behind_ev l hl hne h8 l[j] R[i] (h8 _ (List.getElem_mem hj))) (Ev.pos (by simp only [List.length_map, List.length_append]; omega) hnext))))
    · refine Ev.succ ?_
      simp only [impl_nextRests.l1, w1 (show 0 ≤ (i : Int) by omega) (show (i : Int) < 9223372036854775807 by omega)]
      refine Ev.neg (by omega) ?_
      rw [List.take_of_length_le (l := l.map ch) (by simp)]
      exact hnext
  · have hb := hout R.length
    refine Ev.succ ?_
    simp only [impl_nextRests.l0]
    refine Ev.neg (by omega) ?_
    rw [List.take_of_length_le (by simp)] at hb ⊢
    refine Ev.known (fun _ => ordered_eq _ (by simp only [List.length_map]; omega)) (Ev.pure ?_)
    rw [map_ch_bx]

/-- words put one by one into what is in order -/
theorem chB_at (M : List (List UInt8)) (i : Nat) (h : i < (bas M).length) : ch (bas M)[i] = (ordL M)[i]'(by unfold bas at h; simpa using h) := by
  have e : (bas M)[i] = bx ((ordL M)[i]'(by unfold bas at h; simpa using h)) := by simp [bas]
  rw [e, ch_bx]
theorem mem_take_succ_ord (N M : List (List UInt8)) (i : Nat) (h : i < (ordL M).length) : bas (N ++ (ordL M).take i ++ [(ordL M)[i]]) = bas (N ++ (ordL M).take (i + 1)) := by
  rw [List.take_succ_eq_append_getElem h, List.append_assoc]
theorem bas_all (N M : List (List UInt8)) : bas (N ++ (ordL M).take (ordL M).length) = bas (N ++ M) := by
  rw [List.take_length]
  exact bas_congr (fun x => by rw [List.mem_append, List.mem_append, mem_ordL])
theorem spec_dlCover_ev (l : List ByteArray) (hl : l.length ≤ 12) (hne : ∀ w ∈ l, 1 ≤ w.size) (h8 : ∀ w ∈ l, w.size ≤ 8) : ∀ (n : Nat) (f : ByteArray), f.size = n → n ≤ 8 → 1 ≤ n → Ev (fun k => spec_dlCover.f k l f) (bas (cov (l.map ch) (ch f))) := by
  intro n
  induction n using Nat.strongRecOn with
  | _ n ih =>
    intro f hf hn8 hn1
    have hW : (l.map ch).length ≤ 12 := by simpa using hl
    have hbound : ∀ i, (((l.map ch).take i).flatMap (covT (l.map ch) (ch f))).length ≤ 5159780352 := fun i => by
      refine Nat.le_trans ?_ (show (cov (l.map ch) (ch f)).length ≤ 5159780352 from Nat.le_trans (cov_len _ hW _ _ rfl) (Nat.le_trans (Nat.pow_le_pow_right (by omega) (show (ch f).length + 1 ≤ 9 by rw [ch_length]; omega)) (by decide)))
      rw [cov_eq, ← List.take_append_drop i (l.map ch), List.flatMap_append, List.length_append, List.take_append_drop]
      omega
    refine Ev.succ ?_
    simp only [spec_dlCover.f]
    refine Ev.neg (by rw [toList_ch]; intro e; have := ch_length f; rw [e] at this; simp at this; omega) ?_
    have start : ([] : List ByteArray) = bas (((l.map ch).take 0).flatMap (covT (l.map ch) (ch f))) := by rw [List.take_zero, List.flatMap_nil, bas_nil]
    rw [start]
    refine Ev.loop (fun i k => spec_dlCover.l0 k l f (bas (((l.map ch).take i).flatMap (covT (l.map ch) (ch f)))) l (l.length : Int) (i : Int)) l.length _ (fun i hi hnext => ?_) ?_
    · have hb := hbound i
      have hb' := hbound (i + 1)
      have hi' : i < (l.map ch).length := by simpa using hi
      rw [List.take_succ_eq_append_getElem hi', List.flatMap_append, List.flatMap_cons, List.flatMap_nil, List.append_nil, List.getElem_map] at hnext
      rw [List.take_succ_eq_append_getElem hi', List.flatMap_append, List.flatMap_cons, List.flatMap_nil, List.append_nil, List.length_append, List.getElem_map] at hb'
      have hw1 := hne l[i] (List.getElem_mem hi)
      obtain ⟨N, hN⟩ : ∃ N, N = ((l.map ch).take i).flatMap (covT (l.map ch) (ch f)) := ⟨_, rfl⟩
      rw [← hN] at hb hb' hnext ⊢
      refine Ev.succ ?_
      simp only [spec_dlCover.l0, rdOf_nat l i hi, Int.toNat_natCast, w1 (show 0 ≤ (i : Int) by omega) (show (i : Int) < 9223372036854775807 by omega)]
      refine Ev.pos (by omega) (Ev.pos (by omega) (Ev.pos (by omega) (Ev.known (fun _ => wdBegins_eq _ _) (Ev.cases (fun hp => ?_) (fun hp => Ev.known (fun _ => wdBegins_eq _ _) (Ev.cases (fun hq => ?_) (fun hq => ?_)))))))
      · have hle := (List.isPrefixOf_iff_prefix.1 hp).length_le
        rw [ch_length, ch_length] at hle
        have e : covT (l.map ch) (ch f) (ch l[i]) = [(ch l[i]).drop f.size] := by unfold covT; rw [if_pos hp, ch_length]
        rw [e] at hnext
        have hput := wdPut_ev N (l[i].extract f.size l[i].size) (by omega)
        rw [ch_drop] at hput
        exact Ev.pos (by omega) (Ev.pos (by omega) (Ev.bind hput hnext))
      · have hle := (List.isPrefixOf_iff_prefix.1 hq).length_le
        rw [ch_length, ch_length] at hle
        have hlt : l[i].size < f.size := by
          rcases Nat.lt_or_ge l[i].size f.size with h | h
          · exact h
          · exfalso
            have e := (List.isPrefixOf_iff_prefix.1 hq).eq_of_length (by rw [ch_length, ch_length]; omega)
            exact hp (by rw [e]; exact List.isPrefixOf_iff_prefix.2 (List.prefix_refl _))
        have e : covT (l.map ch) (ch f) (ch l[i]) = cov (l.map ch) ((ch f).drop l[i].size) := by
          unfold covT
          rw [if_neg hp, if_pos ⟨fun e => by have := ch_length l[i]; rw [e] at this; simp at this; omega, hq⟩, ch_length]
        rw [e] at hnext hb'
        have hrec := ih (f.size - l[i].size) (by omega) (f.extract l[i].size f.size) (by simp) (by omega) (by omega)
        rw [ch_drop] at hrec
        obtain ⟨M, hM⟩ : ∃ M, M = cov (l.map ch) ((ch f).drop l[i].size) := ⟨_, rfl⟩
        rw [← hM] at hrec hnext hb'
        have hlen : (bas M).length = (ordL M).length := by unfold bas; simp
        have hole := ordL_len M
        refine Ev.pos (by omega) (Ev.pos (by omega) (Ev.bind hrec ?_))
        have s0 : bas N = bas (N ++ (ordL M).take 0) := by rw [List.take_zero, List.append_nil]
        rw [s0]
        refine Ev.loop (fun j k => spec_dlCover.l1 k l f (bas (N ++ (ordL M).take j)) l (l.length : Int) (i : Int) (bas M) ((bas M).length : Int) (j : Int)) (bas M).length _ (fun j hj hnext => ?_) ?_
        · have hj' : j < (ordL M).length := by omega
          refine Ev.succ ?_
          simp only [spec_dlCover.l1, rdOf_nat (bas M) j hj, w1 (show 0 ≤ (j : Int) by omega) (show (j : Int) < 9223372036854775807 by omega)]
          have hput := wdPut_ev (N ++ (ordL M).take j) (bas M)[j] (by rw [List.length_append, List.length_take]; omega)
          rw [chB_at M j hj, mem_take_succ_ord N M j hj'] at hput
          exact Ev.pos (by omega) (Ev.pos (by omega) (Ev.pos (by omega) (Ev.bind hput hnext)))
        · refine Ev.succ ?_
          simp only [spec_dlCover.l1, w1 (show 0 ≤ (i : Int) by omega) (show (i : Int) < 9223372036854775807 by omega)]
          refine Ev.neg (by omega) ?_
          rw [hlen, bas_all]
          exact hnext
      · have e : covT (l.map ch) (ch f) (ch l[i]) = [] := by
          unfold covT
          rw [if_neg hp, if_neg (fun h => hq h.2)]
        rw [e, List.append_nil] at hnext
        exact hnext
    · refine Ev.succ ?_
      simp only [spec_dlCover.l0]
      exact Ev.neg (by omega) (Ev.pure (by rw [List.take_of_length_le (by simp), cov_eq]))
theorem spec_dlBegin_ev (l : List ByteArray) (hl : l.length ≤ 12) (hne : ∀ w ∈ l, 1 ≤ w.size) (h8 : ∀ w ∈ l, w.size ≤ 8) (s t : ByteArray) (hs : s.size ≤ 8) : Ev (fun k => spec_dlBegin.f k l s t) (bas (beh (l.map ch) (ch s) (ch t))) := by
  unfold spec_dlBegin.f beh
  refine Ev.known (fun _ => wdBegins_eq _ _) (Ev.cases (fun hp => ?_) (fun hp => Ev.known (fun _ => wdBegins_eq _ _) (Ev.cases (fun hq => ?_) (fun hq => ?_))))
  · have hle := (List.isPrefixOf_iff_prefix.1 hp).length_le
    rw [ch_length, ch_length] at hle
    rw [if_pos hp]
    exact Ev.pos (by omega) (Ev.pos (by omega) (Ev.pure (by rw [bas_one, ch_length, ← ch_drop, bx_ch])))
  · have hle := (List.isPrefixOf_iff_prefix.1 hq).length_le
    rw [ch_length, ch_length] at hle
    have hlt : t.size < s.size := by
      rcases Nat.lt_or_ge t.size s.size with h | h
      · exact h
      · exfalso
        have e := (List.isPrefixOf_iff_prefix.1 hq).eq_of_length (by rw [ch_length, ch_length]; omega)
        exact hp (by rw [e]; exact List.isPrefixOf_iff_prefix.2 (List.prefix_refl _))
    rw [if_neg hp, if_pos hq]
    have hrec := spec_dlCover_ev l hl hne h8 (s.size - t.size) (s.extract t.size s.size) (by simp) (by omega) (by omega)
    rw [ch_drop] at hrec
    exact Ev.pos (by omega) (Ev.pos (by omega) (Ev.bind hrec (Ev.pure (by rw [ch_length]))))
  · rw [if_neg hp, if_neg hq, bas_nil]
    exact Ev.now _
theorem spec_dlNext_ev (l : List ByteArray) (hl : l.length ≤ 12) (hne : ∀ w ∈ l, 1 ≤ w.size) (h8 : ∀ w ∈ l, w.size ≤ 8) (R : List ByteArray) (hR : R.length ≤ 108) : Ev (fun k => spec_dlNext.f k l R) (bas (nxt (l.map ch) (R.map ch))) := by
  have hW : (l.map ch).length ≤ 12 := by simpa using hl
  have h8' : ∀ t ∈ l.map ch, t.length ≤ 8 := fun t ht => by obtain ⟨w, hw, rfl⟩ := List.mem_map.1 ht; rw [ch_length]; exact h8 w hw
  have hin : ∀ (r : List UInt8) (j : Nat), (((l.map ch).take j).flatMap fun w => beh (l.map ch) w r).length ≤ 61917364224 := fun r j => by
    refine Nat.le_trans (flatMap_len _ 5159780352 _ (fun w hw => beh_len _ hW w r (h8' w (List.mem_of_mem_take hw)))) ?_
    have : ((l.map ch).take j).length ≤ 12 := Nat.le_trans (List.length_take_le' _ _) hW
    omega
  have hout : ∀ i, (nxt (l.map ch) ((R.map ch).take i)).length ≤ 6687075336192 := fun i => nxt_len _ hW h8' _ (Nat.le_trans (List.length_take_le' _ _) (by simpa using hR))
  unfold spec_dlNext.f
  have start : ([] : List ByteArray) = bas (nxt (l.map ch) ((R.map ch).take 0)) := by unfold nxt; rw [List.take_zero, List.flatMap_nil, bas_nil]
  rw [start]
  refine Ev.loop (fun i k => spec_dlNext.l0 k l (bas (nxt (l.map ch) ((R.map ch).take i))) R (R.length : Int) (i : Int)) R.length _ (fun i hi hnext => ?_) ?_
  · have hb := hout i
    have hi' : i < (R.map ch).length := by simpa using hi
    rw [List.take_succ_eq_append_getElem hi'] at hnext
    unfold nxt at hnext hb ⊢
    rw [List.flatMap_append, List.flatMap_cons, List.flatMap_nil, List.append_nil, List.getElem_map] at hnext
    obtain ⟨N, hN⟩ : ∃ N, N = ((R.map ch).take i).flatMap fun r => (l.map ch).flatMap fun w => beh (l.map ch) w r := ⟨_, rfl⟩
    rw [← hN] at hb hnext ⊢
    refine Ev.succ ?_
    simp only [spec_dlNext.l0, rdOf_nat R i hi]
    refine Ev.pos (by omega) (Ev.pos (by omega) (Ev.pos (by omega) ?_))
    have s0 : bas N = bas (N ++ ((l.map ch).take 0).flatMap fun w => beh (l.map ch) w (ch R[i])) := by rw [List.take_zero, List.flatMap_nil, List.append_nil]
    rw [s0]
    refine Ev.loop (fun j k => spec_dlNext.l1 k l (bas (N ++ ((l.map ch).take j).flatMap fun w => beh (l.map ch) w (ch R[i]))) R[i] R (R.length : Int) (i : Int) l (l.length : Int) (j : Int)) l.length _ (fun j hj hnext => ?_) ?_
    · have hc := hin (ch R[i]) j
      have hc' := hin (ch R[i]) (j + 1)
      have hj' : j < (l.map ch).length := by simpa using hj
      rw [List.take_succ_eq_append_getElem hj', List.flatMap_append, List.flatMap_cons, List.flatMap_nil, List.append_nil, List.getElem_map, ← List.append_assoc] at hnext
      rw [List.take_succ_eq_append_getElem hj', List.flatMap_append, List.flatMap_cons, List.flatMap_nil, List.append_nil, List.getElem_map, List.length_append] at hc'
      have hw8 := h8 _ (List.getElem_mem hj)
      obtain ⟨N', hN'⟩ : ∃ N', N' = N ++ ((l.map ch).take j).flatMap fun w => beh (l.map ch) w (ch R[i]) := ⟨_, rfl⟩
      have hbN : N'.length ≤ 6748992700416 := by rw [hN', List.length_append]; omega
      rw [← hN'] at hnext ⊢
      refine Ev.succ ?_
      simp only [spec_dlNext.l1, rdOf_nat l j hj, Int.toNat_natCast, w1 (show 0 ≤ (j : Int) by omega) (show (j : Int) < 9223372036854775807 by omega)]
      unfold beh at hnext hc'
      refine Ev.pos (by omega) (Ev.pos (by omega) (Ev.pos (by omega) (Ev.known (fun _ => wdBegins_eq _ _) (Ev.cases (fun hp => ?_) (fun hp => Ev.known (fun _ => wdBegins_eq _ _) (Ev.cases (fun hq => ?_) (fun hq => ?_)))))))
      · have hle := (List.isPrefixOf_iff_prefix.1 hp).length_le
        rw [ch_length, ch_length] at hle
        rw [if_pos hp, ch_length] at hnext
        have hput := wdPut_ev N' (R[i].extract l[j].size R[i].size) (by omega)
        rw [ch_drop] at hput
        exact Ev.pos (by omega) (Ev.pos (by omega) (Ev.bind hput hnext))
      · have hle := (List.isPrefixOf_iff_prefix.1 hq).length_le
        rw [ch_length, ch_length] at hle
        have hlt : R[i].size < l[j].size := by
          rcases Nat.lt_or_ge R[i].size l[j].size with h | h
          · exact h
          · exfalso
            have e := (List.isPrefixOf_iff_prefix.1 hq).eq_of_length (by rw [ch_length, ch_length]; omega)
            exact hp (by rw [e]; exact List.isPrefixOf_iff_prefix.2 (List.prefix_refl _))
        rw [if_neg hp, if_pos hq, ch_length] at hnext hc'
        have hrec := spec_dlCover_ev l hl hne h8 (l[j].size - R[i].size) (l[j].extract R[i].size l[j].size) (by simp) (by omega) (by omega)
        rw [ch_drop] at hrec
        obtain ⟨M, hM⟩ : ∃ M, M = cov (l.map ch) ((ch l[j]).drop R[i].size) := ⟨_, rfl⟩
        rw [← hM] at hrec hnext hc'
        have hlen : (bas M).length = (ordL M).length := by unfold bas; simp
        have hole := ordL_len M
        refine Ev.pos (by omega) (Ev.pos (by omega) (Ev.bind hrec ?_))
        have s0 : bas N' = bas (N' ++ (ordL M).take 0) := by rw [List.take_zero, List.append_nil]
        rw [s0]
        refine Ev.loop (fun q k => spec_dlNext.l2 k l (bas (N' ++ (ordL M).take q)) R[i] R (R.length : Int) (i : Int) l (l.length : Int) (j : Int) (bas M) ((bas M).length : Int) (q : Int)) (bas M).length _ (fun q hq' hnext => ?_) ?_
        · have hq2 : q < (ordL M).length := by omega
          refine Ev.succ ?_
          simp only [spec_dlNext.l2, rdOf_nat (bas M) q hq', w1 (show 0 ≤ (q : Int) by omega) (show (q : Int) < 9223372036854775807 by omega)]
          have hput := wdPut_ev (N' ++ (ordL M).take q) (bas M)[q] (by rw [List.length_append, List.length_take]; omega)
          rw [chB_at M q hq', mem_take_succ_ord N' M q hq2] at hput
          exact Ev.pos (by omega) (Ev.pos (by omega) (Ev.pos (by omega) (Ev.bind hput hnext)))
        · refine Ev.succ ?_
          simp only [spec_dlNext.l2, w1 (show 0 ≤ (j : Int) by omega) (show (j : Int) < 9223372036854775807 by omega)]
          refine Ev.neg (by omega) ?_
          rw [hlen, bas_all]
          exact hnext
      · rw [if_neg hp, if_neg hq, List.append_nil] at hnext
        exact hnext
    · refine Ev.succ ?_
      simp only [spec_dlNext.l1, w1 (show 0 ≤ (i : Int) by omega) (show (i : Int) < 9223372036854775807 by omega)]
      refine Ev.neg (by omega) ?_
      rw [List.take_of_length_le (l := l.map ch) (by simp)]
      exact hnext
  · have hb := hout R.length
    refine Ev.succ ?_
    simp only [spec_dlNext.l0]
    exact Ev.neg (by omega) (Ev.pure (by rw [List.take_of_length_le (by simp)]))
/-- two different places of a list -/
def duos (n : Nat) : List (Nat × Nat) := (List.range n).flatMap fun i => (List.range n).flatMap fun j => if i = j then [] else [(i, j)]
theorem wlt (l : List ByteArray) (h8 : ∀ w ∈ l, w.size ≤ 8) : ∀ t ∈ l.map ch, t.length ≤ 8 := fun t ht => by obtain ⟨w, hw, rfl⟩ := List.mem_map.1 ht; rw [ch_length]; exact h8 w hw
theorem suf_self (l : List ByteArray) (h8 : ∀ w ∈ l, w.size ≤ 8) (w : ByteArray) (hw : w ∈ l) : ch w ∈ sufs (l.map ch) := by
  have := mem_sufs (wlt l h8) (List.mem_map.2 ⟨w, hw, rfl⟩) 0
  simpa using this
theorem restsOf_ev (l : List ByteArray) (hl : l.length ≤ 12) (hne : ∀ w ∈ l, 1 ≤ w.size) (h8 : ∀ w ∈ l, w.size ≤ 8) (i j : Nat) (hi : i < l.length) (hj : j < l.length) : Ev (fun k => impl_restsOf.f k l (i : Int) (j : Int)) (bas (beh (l.map ch) (ch l[i]) (ch l[j]))) := by
  unfold impl_restsOf.f
  rw [rdOf_nat l i hi, rdOf_nat l j hj]
  have hb := beh_len (l.map ch) (by simpa using hl) (ch l[i]) (ch l[j]) (by rw [ch_length]; exact h8 _ (List.getElem_mem hi))
  refine Ev.pos (by omega) (Ev.pos (by omega) (Ev.pos (by omega) (Ev.pos (by omega) (Ev.bind (impl_behind_ev l hl hne h8 l[i] l[j] (h8 _ (List.getElem_mem hi))) (Ev.known (fun _ => ordered_eq _ (by simp only [List.length_map]; omega)) (Ev.pure ?_))))))
  rw [map_ch_bx]
/-- the rests so many words later -/
def aft (W : List (List UInt8)) : Nat → List (List UInt8) → List (List UInt8)
  | 0, M => M
  | d + 1, M => aft W d (nxt W (ordL M))
theorem impl_after_l0 (l : List ByteArray) (hl : l.length ≤ 12) (hne : ∀ w ∈ l, 1 ≤ w.size) (h8 : ∀ w ∈ l, w.size ≤ 8) (n : Nat) (hn : n ≤ 1000) : ∀ (d i : Nat) (M : List (List UInt8)), i + d = n → (∀ x ∈ M, x ∈ sufs (l.map ch)) → Ev (fun k => impl_after.l0 k l (bas M) (n : Int) (i : Int)) (bas (aft (l.map ch) d M))
  | 0, i, M, hd, hM => by
    refine Ev.succ ?_
    simp only [impl_after.l0]
    exact Ev.neg (by omega) (Ev.now _)
  | d + 1, i, M, hd, hM => by
    have hf := ord_few (l.map ch) (by simpa using hl) M hM
    have hlen : (bas M).length = (ordL M).length := by unfold bas; simp
    have hnx := impl_nextRests_ev l hl hne h8 (bas M) (by omega)
    rw [ch_bas] at hnx
    have ih := impl_after_l0 l hl hne h8 n hn d (i + 1) (nxt (l.map ch) (ordL M)) (by omega) (nxt_mem _ (wlt l h8) _ (fun x hx => hM x ((mem_ordL M x).1 hx)))
    refine Ev.succ ?_
    simp only [impl_after.l0, w1 (show 0 ≤ (i : Int) by omega) (show (i : Int) < 9223372036854775807 by omega)]
    exact Ev.pos (by omega) (Ev.bind hnx ih)
theorem impl_after_ev (l : List ByteArray) (hl : l.length ≤ 12) (hne : ∀ w ∈ l, 1 ≤ w.size) (h8 : ∀ w ∈ l, w.size ≤ 8) (n : Nat) (hn : n ≤ 1000) (M : List (List UInt8)) (hM : ∀ x ∈ M, x ∈ sufs (l.map ch)) : Ev (fun k => impl_after.f k l (bas M) (n : Int)) (bas (aft (l.map ch) n M)) :=
  impl_after_l0 l hl hne h8 n hn n 0 M (by omega) hM
theorem isDelay_eq (d : Int) : impl_isDelay.f d = some (decide (0 ≤ d ∧ d ≤ 20)) := by
  unfold impl_isDelay.f; rw [impl_in_eq]; rfl
theorem dlAsked_ev (l : List ByteArray) (d : Int) {b : Bool} (h : Ev (fun k => spec_wdSet.f k l) b) : Ev (fun k => spec_dlAsked.f k l d) (b && decide (0 ≤ d ∧ d ≤ 20)) := by
  unfold spec_dlAsked.f
  cases b with
  | false => exact Ev.bind h (Ev.neg (by simp) (Ev.now _))
  | true => exact Ev.bind h (Ev.pos rfl (Ev.known (fun _ => spec_in _ _ _) (Ev.now _)))

/-- all rests of two different words -/
def fst (W : List (List UInt8)) : List (List UInt8) := (duos W.length).flatMap fun p => beh W (W.getD p.1 []) (W.getD p.2 [])
/-- one row of places -/
def duoRow (n i j : Nat) : List (Nat × Nat) := (List.range j).flatMap fun j => if i = j then [] else [(i, j)]
def duoRows (n i : Nat) : List (Nat × Nat) := (List.range i).flatMap fun i => duoRow n i n
theorem duos_eq (n : Nat) : duos n = duoRows n n := rfl
theorem duoRow_succ (n i j : Nat) : duoRow n i (j + 1) = duoRow n i j ++ (if i = j then [] else [(i, j)]) := by
  unfold duoRow; rw [List.range_succ, List.flatMap_append]; simp
theorem duoRows_succ (n i : Nat) : duoRows n (i + 1) = duoRows n i ++ duoRow n i n := by
  unfold duoRows; rw [List.range_succ, List.flatMap_append]; simp
theorem duoRow_len (n i j : Nat) : (duoRow n i j).length ≤ j := by
  have := flatMap_len (fun j => if i = j then ([] : List (Nat × Nat)) else [(i, j)]) 1 (List.range j) (fun x _ => by split <;> simp)
  simpa [duoRow] using this
theorem duoRows_len (n i : Nat) : (duoRows n i).length ≤ i * n := by
  have := flatMap_len (fun i => duoRow n i n) n (List.range i) (fun x _ => duoRow_len n x n)
  simpa [duoRows] using this
/-- what the places give -/
def duoBeh (W : List (List UInt8)) (P : List (Nat × Nat)) : List (List UInt8) := P.flatMap fun p => beh W (W.getD p.1 []) (W.getD p.2 [])
theorem getD_map_ch (l : List ByteArray) (i : Nat) (h : i < l.length) : (l.map ch).getD i [] = ch l[i] := by
  rw [List.getD_eq_getElem?_getD, List.getElem?_map, List.getElem?_eq_getElem h]; rfl
theorem duoBeh_len (l : List ByteArray) (hl : l.length ≤ 12) (h8 : ∀ w ∈ l, w.size ≤ 8) (P : List (Nat × Nat)) (hP : P.length ≤ 144) : (duoBeh (l.map ch) P).length ≤ 743008370688 := by
  refine Nat.le_trans (flatMap_len _ 5159780352 P (fun p _ => beh_len _ (by simpa using hl) _ _ ?_)) (by omega)
  by_cases h : p.1 < l.length
  · rw [getD_map_ch l p.1 h, ch_length]; exact h8 _ (List.getElem_mem h)
  · rw [List.getD_eq_getElem?_getD, List.getElem?_eq_none (by simpa using h)]; simp
theorem fst_mem (l : List ByteArray) (h8 : ∀ w ∈ l, w.size ≤ 8) (P : List (Nat × Nat)) (hP : ∀ p ∈ P, p.2 < l.length) : ∀ x ∈ duoBeh (l.map ch) P, x ∈ sufs (l.map ch) := by
  intro x hx
  obtain ⟨p, hp, hx⟩ := List.mem_flatMap.1 hx
  refine beh_mem _ (wlt l h8) _ _ ?_ x hx
  rw [getD_map_ch l p.2 (hP p hp)]
  exact suf_self l h8 _ (List.getElem_mem _)
theorem duoRow_mem (n i j : Nat) (h : j ≤ n) : ∀ p ∈ duoRow n i j, p.1 = i ∧ p.2 < n := by
  intro p hp
  obtain ⟨q, hq, hp⟩ := List.mem_flatMap.1 hp
  have := List.mem_range.1 hq
  split at hp
  · cases hp
  · rw [List.mem_singleton] at hp; subst hp; exact ⟨rfl, by simp only; omega⟩
theorem duoRows_mem (n i : Nat) (h : i ≤ n) : ∀ p ∈ duoRows n i, p.1 < n ∧ p.2 < n := by
  intro p hp
  obtain ⟨q, hq, hp⟩ := List.mem_flatMap.1 hp
  have := List.mem_range.1 hq
  have := duoRow_mem n q n (Nat.le_refl _) p hp
  exact ⟨by omega, this.2⟩
theorem duoBeh_append (W : List (List UInt8)) (P Q : List (Nat × Nat)) : duoBeh W (P ++ Q) = duoBeh W P ++ duoBeh W Q := by unfold duoBeh; rw [List.flatMap_append]
theorem spec_dlFirst_ev (l : List ByteArray) (hl : l.length ≤ 12) (hne : ∀ w ∈ l, 1 ≤ w.size) (h8 : ∀ w ∈ l, w.size ≤ 8) : Ev (fun k => spec_dlFirst.f k l) (bas (duoBeh (l.map ch) (duoRows l.length l.length))) := by
  unfold spec_dlFirst.f
  have start : ([] : List ByteArray) = bas (duoBeh (l.map ch) (duoRows l.length 0)) := by simp [duoRows, duoBeh, bas_nil]
  rw [start]
  refine Ev.loop (fun i k => spec_dlFirst.l0 k l (bas (duoBeh (l.map ch) (duoRows l.length i))) l (l.length : Int) (i : Int)) l.length _ (fun i hi hnext => ?_) ?_
  · have hP : (duoRows l.length i).length + l.length ≤ 144 := by
      have := duoRows_len l.length i
      have : i * l.length ≤ 11 * l.length := Nat.mul_le_mul_right _ (by omega)
      omega
    rw [duoRows_succ, duoBeh_append] at hnext
    obtain ⟨N, hN⟩ : ∃ N, N = duoBeh (l.map ch) (duoRows l.length i) := ⟨_, rfl⟩
    have hNl : N.length ≤ 743008370688 := by rw [hN]; exact duoBeh_len l hl h8 _ (by omega)
    rw [← hN] at hnext ⊢
    refine Ev.succ ?_
    simp only [spec_dlFirst.l0, rdOf_nat l i hi]
    refine Ev.pos (by omega) (Ev.pos (by omega) (Ev.pos (by omega) ?_))
    have s0 : bas N = bas (N ++ duoBeh (l.map ch) (duoRow l.length i 0)) := by simp [duoRow, duoBeh]
    rw [s0]
    refine Ev.loop (fun j k => spec_dlFirst.l1 k l (bas (N ++ duoBeh (l.map ch) (duoRow l.length i j))) (i : Int) l[i] l (l.length : Int) (i : Int) l (l.length : Int) (j : Int)) l.length _ (fun j hj hnext => ?_) ?_
    · obtain ⟨N', hN'⟩ : ∃ N', N' = N ++ duoBeh (l.map ch) (duoRow l.length i j) := ⟨_, rfl⟩
      have hNl' : N'.length ≤ 1486016741376 := by
        have := duoBeh_len l hl h8 (duoRow l.length i j) (by have := duoRow_len l.length i j; omega)
        rw [hN', List.length_append]; omega
      rw [duoRow_succ, duoBeh_append, ← List.append_assoc, ← hN'] at hnext
      rw [← hN']
      refine Ev.succ ?_
      simp only [spec_dlFirst.l1, rdOf_nat l j hj, w1 (show 0 ≤ (j : Int) by omega) (show (j : Int) < 9223372036854775807 by omega)]
      by_cases hij : i = j
      · rw [if_pos hij] at hnext
        refine Ev.pos (by omega) (Ev.pos (by omega) (Ev.pos (by omega) (Ev.pos (by omega) ?_)))
        simpa [duoBeh] using hnext
      · rw [if_neg hij] at hnext
        have hb := spec_dlBegin_ev l hl hne h8 l[i] l[j] (h8 _ (List.getElem_mem hi))
        have e : duoBeh (l.map ch) [(i, j)] = beh (l.map ch) (ch l[i]) (ch l[j]) := by simp only [duoBeh, List.flatMap_cons, List.flatMap_nil, List.append_nil]; rw [getD_map_ch l i hi, getD_map_ch l j hj]
        rw [e] at hnext
        have hbl := beh_len (l.map ch) (by simpa using hl) (ch l[i]) (ch l[j]) (by rw [ch_length]; exact h8 _ (List.getElem_mem hi))
        obtain ⟨M, hM⟩ : ∃ M, M = beh (l.map ch) (ch l[i]) (ch l[j]) := ⟨_, rfl⟩
        rw [← hM] at hb hnext hbl
        have hlen : (bas M).length = (ordL M).length := by unfold bas; simp
        have hole := ordL_len M
        refine Ev.pos (by omega) (Ev.pos (by omega) (Ev.pos (by omega) (Ev.neg (by omega) (Ev.bind hb ?_))))
        have s0 : bas N' = bas (N' ++ (ordL M).take 0) := by rw [List.take_zero, List.append_nil]
        rw [s0]
        refine Ev.loop (fun q k => spec_dlFirst.l2 k l (bas (N' ++ (ordL M).take q)) (i : Int) l[i] l (l.length : Int) (i : Int) l (l.length : Int) (j : Int) (bas M) ((bas M).length : Int) (q : Int)) (bas M).length _ (fun q hq' hnext => ?_) ?_
        · have hq2 : q < (ordL M).length := by omega
          refine Ev.succ ?_
          simp only [spec_dlFirst.l2, rdOf_nat (bas M) q hq', w1 (show 0 ≤ (q : Int) by omega) (show (q : Int) < 9223372036854775807 by omega)]
          have hput := wdPut_ev (N' ++ (ordL M).take q) (bas M)[q] (by rw [List.length_append, List.length_take]; omega)
          rw [chB_at M q hq', mem_take_succ_ord N' M q hq2] at hput
          exact Ev.pos (by omega) (Ev.pos (by omega) (Ev.pos (by omega) (Ev.bind hput hnext)))
        · refine Ev.succ ?_
          simp only [spec_dlFirst.l2, w1 (show 0 ≤ (j : Int) by omega) (show (j : Int) < 9223372036854775807 by omega)]
          refine Ev.neg (by omega) ?_
          rw [hlen, bas_all]
          exact hnext
    · refine Ev.succ ?_
      simp only [spec_dlFirst.l1, w1 (show 0 ≤ (i : Int) by omega) (show (i : Int) < 9223372036854775807 by omega)]
      exact Ev.neg (by omega) hnext
  · refine Ev.succ ?_
    simp only [spec_dlFirst.l0]
    exact Ev.neg (by omega) (Ev.now _)
/-- the same, each part in order -/
def duoOrd (W : List (List UInt8)) (P : List (Nat × Nat)) : List (List UInt8) := P.flatMap fun p => ordL (beh W (W.getD p.1 []) (W.getD p.2 []))
theorem duoOrd_mem (W : List (List UInt8)) (P : List (Nat × Nat)) (x : List UInt8) : x ∈ duoOrd W P ↔ x ∈ duoBeh W P := by
  unfold duoOrd duoBeh
  rw [List.mem_flatMap, List.mem_flatMap]
  exact exists_congr fun p => and_congr_right fun _ => mem_ordL _ _
theorem duoOrd_append (W : List (List UInt8)) (P Q : List (Nat × Nat)) : duoOrd W (P ++ Q) = duoOrd W P ++ duoOrd W Q := by unfold duoOrd; rw [List.flatMap_append]
theorem duoOrd_len (l : List ByteArray) (hl : l.length ≤ 12) (h8 : ∀ w ∈ l, w.size ≤ 8) (P : List (Nat × Nat)) (hP : P.length ≤ 144) : (duoOrd (l.map ch) P).length ≤ 743008370688 := by
  refine Nat.le_trans (flatMap_len _ 5159780352 P (fun p _ => Nat.le_trans (ordL_len _) (beh_len _ (by simpa using hl) _ _ ?_))) (by omega)
  by_cases h : p.1 < l.length
  · rw [getD_map_ch l p.1 h, ch_length]; exact h8 _ (List.getElem_mem h)
  · rw [List.getD_eq_getElem?_getD, List.getElem?_eq_none (by simpa using h)]; simp
theorem impl_firstRests_ev (l : List ByteArray) (hl : l.length ≤ 12) (hne : ∀ w ∈ l, 1 ≤ w.size) (h8 : ∀ w ∈ l, w.size ≤ 8) : Ev (fun k => impl_firstRests.f k l) (bas (duoBeh (l.map ch) (duoRows l.length l.length))) := by
  unfold impl_firstRests.f
  have start : ([] : List ByteArray) = (duoOrd (l.map ch) (duoRows l.length 0)).map bx := by simp [duoRows, duoOrd]
  rw [start]
  refine Ev.loop (fun i k => impl_firstRests.l0 k l ((duoOrd (l.map ch) (duoRows l.length i)).map bx) (l.length : Int) (i : Int)) l.length _ (fun i hi hnext => ?_) ?_
  · have hP : (duoRows l.length i).length + l.length ≤ 144 := by
      have := duoRows_len l.length i
      have : i * l.length ≤ 11 * l.length := Nat.mul_le_mul_right _ (by omega)
      omega
    rw [duoRows_succ, duoOrd_append] at hnext
    obtain ⟨N, hN⟩ : ∃ N, N = duoOrd (l.map ch) (duoRows l.length i) := ⟨_, rfl⟩
    have hNl : N.length ≤ 743008370688 := by rw [hN]; exact duoOrd_len l hl h8 _ (by omega)
    rw [← hN] at hnext ⊢
    refine Ev.succ ?_
    simp only [impl_firstRests.l0]
    refine Ev.pos (by omega) ?_
    have s0 : N.map bx = (N ++ duoOrd (l.map ch) (duoRow l.length i 0)).map bx := by simp [duoRow, duoOrd]
    rw [s0]
    refine Ev.loop (fun j k => impl_firstRests.l1 k l ((N ++ duoOrd (l.map ch) (duoRow l.length i j)).map bx) (i : Int) (l.length : Int) (i : Int) (l.length : Int) (j : Int)) l.length _ (fun j hj hnext => ?_) ?_
    · obtain ⟨N', hN'⟩ : ∃ N', N' = N ++ duoOrd (l.map ch) (duoRow l.length i j) := ⟨_, rfl⟩
      have hNl' : N'.length ≤ 1486016741376 := by
        have := duoOrd_len l hl h8 (duoRow l.length i j) (by have := duoRow_len l.length i j; omega)
        rw [hN', List.length_append]; omega
      rw [duoRow_succ, duoOrd_append, ← List.append_assoc, ← hN'] at hnext
      rw [← hN']
      refine Ev.succ ?_
      simp only [impl_firstRests.l1, w1 (show 0 ≤ (j : Int) by omega) (show (j : Int) < 9223372036854775807 by omega)]
      by_cases hij : i = j
      · rw [if_pos hij] at hnext
        refine Ev.pos (by omega) (Ev.pos (by omega) ?_)
        simpa [duoOrd] using hnext
      · rw [if_neg hij] at hnext
        have hr := restsOf_ev l hl hne h8 i j hi hj
        have e : duoOrd (l.map ch) [(i, j)] = ordL (beh (l.map ch) (ch l[i]) (ch l[j])) := by simp only [duoOrd, List.flatMap_cons, List.flatMap_nil, List.append_nil]; rw [getD_map_ch l i hi, getD_map_ch l j hj]
        rw [e, List.map_append] at hnext
        have hbl := beh_len (l.map ch) (by simpa using hl) (ch l[i]) (ch l[j]) (by rw [ch_length]; exact h8 _ (List.getElem_mem hi))
        have hbb := bas_len (beh (l.map ch) (ch l[i]) (ch l[j]))
        exact Ev.pos (by omega) (Ev.neg (by omega) (Ev.bind hr (Ev.pos (by simp only [List.length_map]; omega) hnext)))
    · refine Ev.succ ?_
      simp only [impl_firstRests.l1, w1 (show 0 ≤ (i : Int) by omega) (show (i : Int) < 9223372036854775807 by omega)]
      exact Ev.neg (by omega) hnext
  · have hP : (duoRows l.length l.length).length ≤ 144 := by
      have := duoRows_len l.length l.length
      have : l.length * l.length ≤ 12 * 12 := Nat.mul_le_mul hl hl
      omega
    have hNl := duoOrd_len l hl h8 _ hP
    refine Ev.succ ?_
    simp only [impl_firstRests.l0]
    refine Ev.neg (by omega) (Ev.known (fun _ => ordered_eq _ (by simp only [List.length_map]; omega)) (Ev.pure ?_))
    rw [map_ch_bx]
    exact bas_congr (fun x => duoOrd_mem _ _ x)
/-- the rests after no words stand among the ends -/
theorem firsts_mem (l : List ByteArray) (h8 : ∀ w ∈ l, w.size ≤ 8) : ∀ x ∈ duoBeh (l.map ch) (duoRows l.length l.length), x ∈ sufs (l.map ch) :=
  fst_mem l h8 _ (fun p hp => (duoRows_mem _ _ (Nat.le_refl _) p hp).2)

theorem spec_dlAfter_l0 (l : List ByteArray) (hl : l.length ≤ 12) (hne : ∀ w ∈ l, 1 ≤ w.size) (h8 : ∀ w ∈ l, w.size ≤ 8) : ∀ (d : Nat) (M : List (List UInt8)), d ≤ 1000 → (∀ x ∈ M, x ∈ sufs (l.map ch)) → Ev (fun k => spec_dlAfter.l0 k l (d : Int) (bas M)) (bas (aft (l.map ch) d M))
  | 0, M, hd, hM => by
    refine Ev.succ ?_
    simp only [spec_dlAfter.l0]
    exact Ev.neg (by omega) (Ev.now _)
  | d + 1, M, hd, hM => by
    have hf := ord_few (l.map ch) (by simpa using hl) M hM
    have hlen : (bas M).length = (ordL M).length := by unfold bas; simp
    have hnx := spec_dlNext_ev l hl hne h8 (bas M) (by omega)
    rw [ch_bas] at hnx
    have ih := spec_dlAfter_l0 l hl hne h8 d (nxt (l.map ch) (ordL M)) (by omega) (nxt_mem _ (wlt l h8) _ (fun x hx => hM x ((mem_ordL M x).1 hx)))
    have e : Aside0 (wrap64 (((d + 1 : Nat) : Int) - 1) = (d : Int)) := ⟨by rw [w64 (by omega) (by omega)]; omega⟩
    refine Ev.succ ?_
    simp only [spec_dlAfter.l0, e.out]
    exact Ev.pos (by omega) (Ev.bind hnx ih)
theorem spec_dlAfter_ev (l : List ByteArray) (hl : l.length ≤ 12) (hne : ∀ w ∈ l, 1 ≤ w.size) (h8 : ∀ w ∈ l, w.size ≤ 8) (d : Nat) (hd : d ≤ 1000) : Ev (fun k => spec_dlAfter.f k l (d : Int)) (bas (aft (l.map ch) d (duoBeh (l.map ch) (duoRows l.length l.length)))) := by
  unfold spec_dlAfter.f
  exact Ev.bind (spec_dlFirst_ev l hl hne h8) (spec_dlAfter_l0 l hl hne h8 d _ hd (firsts_mem l h8))

theorem aft_mem (W : List (List UInt8)) (h8 : ∀ t ∈ W, t.length ≤ 8) : ∀ (d : Nat) (M : List (List UInt8)), (∀ x ∈ M, x ∈ sufs W) → ∀ x ∈ aft W d M, x ∈ sufs W
  | 0, M, h => h
  | d + 1, M, h => aft_mem W h8 d _ (nxt_mem W h8 _ (fun x hx => h x ((mem_ordL M x).1 hx)))
theorem impl_RestsAfter_f (l : List ByteArray) (d : Int) {b : Bool} (hb : b = true → IsSet l) (h2 : Ev (fun k => impl_isSet.f k l) b) : Ev (fun k => impl_RestsAfter.f k l d) (if b && decide (0 ≤ d ∧ d ≤ 20) then (bas (aft (l.map ch) d.toNat (duoBeh (l.map ch) (duoRows l.length l.length))), true) else ([], false)) := by
  have g2 := isDelay_eq d
  unfold impl_RestsAfter.f
  cases b with
  | false => exact Ev.bind h2 (Ev.neg (by simp) (Ev.now _))
  | true =>
    cases hg : decide (0 ≤ d ∧ d ≤ 20) with
    | false => rw [hg] at g2; exact Ev.bind h2 (Ev.pos rfl (Ev.known (fun _ => g2) (Ev.neg (by simp) (Ev.now _))))
    | true =>
      have hset := hb rfl
      have hd := of_decide_eq_true hg
      rw [hg] at g2
      obtain ⟨n, rfl⟩ : ∃ n : Nat, d = (n : Int) := ⟨d.toNat, by omega⟩
      have hne := fun w hw => (hset.size w hw).1
      have h8 := fun w hw => (hset.size w hw).2
      exact Ev.bind h2 (Ev.pos rfl (Ev.known (fun _ => g2) (Ev.pos rfl (Ev.bind (impl_firstRests_ev l hset.few hne h8) (Ev.bind (impl_after_ev l hset.few hne h8 n (by omega) _ (firsts_mem l h8)) (Ev.now _))))))

theorem restsAfter_same (l : List ByteArray) (d : Int) (hl : l.length ≤ 1048576) : ∃ r, Ev (fun k => spec_RestsAfter.f k l d) r ∧ Ev (fun k => impl_RestsAfter.f k l d) r ∧ r.1.length ≤ 1000 := by
  obtain ⟨b, h1, h2, hb⟩ := isSet_same l hl
  have g1 := dlAsked_ev l d h1
  have ra := impl_RestsAfter_f l d hb h2
  unfold spec_RestsAfter.f
  cases hc : (b && decide (0 ≤ d ∧ d ≤ 20)) with
  | false =>
    rw [hc] at g1 ra
    exact ⟨([], false), Ev.bind g1 (Ev.neg (by simp) (Ev.now _)), ra, by simp⟩
  | true =>
    rw [hc] at g1 ra
    simp only [Bool.and_eq_true, decide_eq_true_eq] at hc
    have hset := hb hc.1
    obtain ⟨n, rfl⟩ : ∃ n : Nat, d = (n : Int) := ⟨d.toNat, by omega⟩
    have h8 := fun w hw => (hset.size w hw).2
    have sp := spec_dlAfter_ev l hset.few (fun w hw => (hset.size w hw).1) h8 n (by omega)
    refine ⟨_, Ev.bind g1 (Ev.pos rfl (Ev.bind sp (Ev.now _))), ra, ?_⟩
    have := ord_few (l.map ch) (by simpa using hset.few) _ (aft_mem (l.map ch) (wlt l h8) n _ (firsts_mem l h8))
    simp only [bas, List.length_map]
    exact Nat.le_trans this (by omega)
theorem FnExactRestsAfter : laws_FnExactRestsAfter.Pure := by
  intro l s hl hs h
  refine Ev.rounds ?_
  unfold laws_FnExactRestsAfter.f
  obtain ⟨z, hz, hzz⟩ := szS_ev l hl hs
  refine Ev.bind hz (Ev.cases (fun _ => Ev.now _) (fun hzn => ?_))
  obtain ⟨hl', -⟩ := hzz (by omega)
  obtain ⟨mt, hmt⟩ := marks
  obtain ⟨r, h1, h2, h3⟩ := restsAfter_same l s hl'
  refine Ev.bind (toS_ev l hl') (Ev.bind h1 (Ev.bind (toS_ev l hl') (Ev.bind h2 (Ev.bind (eqS_ev r.1 (by omega)) (Ev.pos rfl ?_)))))
  refine Ev.succ ?_
  simp only [laws_FnExactRestsAfter.j0]
  refine Ev.neg (by simp) (Ev.bind (toS_ev l hl') (Ev.bind (eqS_ev l hl') (Ev.pos rfl (Ev.bind (markS_ev hmt l hl') (Ev.neg (by omega) (Ev.bind (eqS_ev r.1 (by omega)) (Ev.pos rfl ?_)))))))
  refine Ev.succ ?_
  simp only [laws_FnExactRestsAfter.j1]
  refine Ev.neg (by simp) (Ev.bind (markS_ev hmt r.1 (by omega)) (Ev.bind (heldS_ev hmt r.1.length (by omega)) (Ev.neg (by omega) (Ev.pos rfl (Ev.bind (toS_ev l hl') (Ev.bind h2 (Ev.bind (eqS_ev r.1 (by omega)) (Ev.pos rfl ?_))))))))
  refine Ev.succ ?_
  simp only [laws_FnExactRestsAfter.j2]
  exact Ev.neg (by simp) (Ev.bind (heldS_ev hmt r.1.length (by omega)) (Ev.neg (by omega) (Ev.pos rfl (Ev.now _))))
end Go.Proofs.YtdhdboeflncmiaaDoor.Pure
