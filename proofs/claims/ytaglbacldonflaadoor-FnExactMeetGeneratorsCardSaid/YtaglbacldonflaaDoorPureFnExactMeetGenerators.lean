/- MeetGenerators of the program and of the reference answer alike for all arguments, and leave them as they were: no condition. -/
import Derived.Test.YtaglbacldonflaaDoorXFnExactMeetGeneratorsxp
namespace Go.Proofs.YtaglbacldonflaaDoor.Pure
set_option linter.unusedSimpArgs false
set_option linter.unusedVariables false
open Go.RowKit Go.Proofs.YtaglbacldonflaaDoor.Hand Go.Proofs.YtaglbacldonflaaDoor.XFnExactMeetGenerators Go.Proofs.YtaglbacldonflaaDoorW.PrintWords Go.Proofs.YtaglbacldonflaaDoorW.PrintLast Go.Proofs.YtaglbacldonflaaDoorW.PrintMore

theorem w1 {i : Int} (h0 : 0 ≤ i) (h : i < 9223372036854775807) : wrap64 (i + 1) = i + 1 := by unfold wrap64; omega
theorem w64 {i : Int} (h0 : -9223372036854775808 ≤ i) (h : i < 9223372036854775808) : wrap64 i = i := by unfold wrap64; omega
theorem rd_nat (l : List Int) (i : Nat) (h : i < l.length) : rd l (i : Int) = l[i] := by
  unfold rd; simp [List.getD_eq_getElem?_getD, h]
theorem Ev.pos {α : Type} {c : Prop} [Decidable c] {g g' : Nat → Option α} {r : α} (h : c) (k : Ev g r) : Ev (fun n => if c then g n else g' n) r :=
  Ev.congr (fun n => if_pos h) k
theorem Ev.neg {α : Type} {c : Prop} [Decidable c] {g g' : Nat → Option α} {r : α} (h : ¬ c) (k : Ev g' r) : Ev (fun n => if c then g n else g' n) r :=
  Ev.congr (fun n => if_neg h) k
theorem Ev.cases {α : Type} {c : Prop} [Decidable c] {g g' : Nat → Option α} {r : α} (h : c → Ev g r) (k : ¬ c → Ev g' r) : Ev (fun n => if c then g n else g' n) r := by
  by_cases e : c
  · exact Ev.pos e (h e)
  · exact Ev.neg e (k e)
/-- a call whose answer is known at every number of rounds -/
theorem Ev.known {α β : Type} {g : Nat → Option α} {f : Nat → α → Option β} {a : α} {r : β} (h : ∀ n, g n = some a) (k : Ev (fun n => f n a) r) : Ev (fun n => (g n).bind (f n)) r :=
  Ev.bind ⟨0, fun n _ => h n⟩ k
/-- one bind of two, joined with what follows -/
theorem Ev.pure {α : Type} {r q : α} (h : r = q) : Ev (fun _ => some r) q := h ▸ Ev.now r
theorem Ev.succ {α : Type} {g : Nat → Option α} {r : α} (h : Ev (fun k => g (k + 1)) r) : Ev g r := Ev.step (f := fun k => g (k + 1)) (fun _ => rfl) h

theorem rdOf_nat (l : List ByteArray) (i : Nat) (h : i < l.length) : rdOf ByteArray.empty l (i : Int) = l[i] := by
  unfold rdOf; simp [List.getD_eq_getElem?_getD, h]

theorem maxLen_le : maxLen ≤ 9223372036854775807 := by unfold maxLen; omega
theorem szS_l0 (l : List ByteArray) (hl : l.length ≤ 9223372036854775807) (hs : ∀ s ∈ l, s.size ≤ 9223372036854775807) : ∀ (d i : Nat) (b : Int), i + d = l.length → 0 ≤ b → b ≤ 1048576 → ∃ r, Ev (fun k => laws_szStringS.l0 k l b (i : Int)) r ∧ (0 ≤ r → r ≤ 1048576 ∧ ∀ s ∈ l.drop i, s.size ≤ 1048576)
  | 0, i, b, hd, h0, hb => by
    refine ⟨b, Ev.succ ?_, fun _ => ⟨hb, fun s h => ?_⟩⟩
    · simp only [laws_szStringS.l0]; exact Ev.neg (by omega) (Ev.now _)
    · rw [List.drop_of_length_le (by omega)] at h; cases h
  | d + 1, i, b, hd, h0, hb => by
    have h1 : i < l.length := by omega
    have h2 := hs _ (List.getElem_mem h1)
    have e : Aside0 (wrap64 (b - (l[i].size : Int)) = b - (l[i].size : Int)) := ⟨w64 (by omega) (by omega)⟩
    by_cases hc : b - (l[i].size : Int) < 0
    · refine ⟨-1, Ev.succ ?_, fun h => by omega⟩
      simp only [laws_szStringS.l0, rdOf_nat l i h1, e.out]
      exact Ev.pos (by omega) (Ev.pos (by omega) (Ev.pos hc (Ev.now _)))
    · obtain ⟨r, hr, hh⟩ := szS_l0 l hl hs d (i + 1) (b - (l[i].size : Int)) (by omega) (by omega) (by omega)
      refine ⟨r, Ev.succ ?_, fun h => ⟨(hh h).1, fun s hm => ?_⟩⟩
      · simp only [laws_szStringS.l0, rdOf_nat l i h1, e.out, w1 (show 0 ≤ (i : Int) by omega) (show (i : Int) < 9223372036854775807 by omega)]
        exact Ev.pos (by omega) (Ev.pos (by omega) (Ev.neg hc hr))
      · rw [List.drop_eq_getElem_cons h1] at hm
        rcases List.mem_cons.1 hm with rfl | hm
        · omega
        · exact (hh h).2 s hm
theorem szS_ev (l : List ByteArray) (hl : l.length ≤ maxLen) (hs : ∀ s ∈ l, s.size ≤ maxLen) : ∃ r, Ev (fun k => laws_szStringS.f k l 1048576) r ∧ (0 ≤ r → l.length ≤ 1048576 ∧ r ≤ 1048576 ∧ ∀ s ∈ l, s.size ≤ 1048576) := by
  have hm := maxLen_le
  have e : Aside0 (wrap64 (1048576 - (l.length : Int)) = 1048576 - (l.length : Int)) := ⟨w64 (by omega) (by omega)⟩
  unfold laws_szStringS.f
  rw [e.out]
  by_cases hc : 1048576 - (l.length : Int) < 0
  · exact ⟨-1, Ev.pos hc (Ev.now _), fun h => by omega⟩
  · obtain ⟨r, hr, hh⟩ := szS_l0 l (by omega) (fun s h => Nat.le_trans (hs s h) hm) l.length 0 (1048576 - (l.length : Int)) (by omega) (by omega) (by omega)
    exact ⟨r, Ev.neg hc hr, fun h => ⟨by omega, (hh h).1, by simpa using (hh h).2⟩⟩
theorem toS_l0 (l : List ByteArray) (hl : l.length ≤ 1048576) : ∀ (d i : Nat) (xs : List ByteArray), i + d = l.length → xs.length = l.length → xs.take i = l.take i → Ev (fun k => laws_toStringS.l0 k l xs (i : Int)) l
  | 0, i, xs, hd, hx, ht => by
    refine Ev.step (f := fun _ => some xs) (fun k => ?_) (Ev.pure ?_)
    · simp only [laws_toStringS.l0]; rw [if_neg (by omega)]
    · rw [List.take_of_length_le (by omega), List.take_of_length_le (by omega)] at ht; exact ht
  | d + 1, i, xs, hd, hx, ht => by
    refine Ev.step (f := fun k => laws_toStringS.l0 k l (xs.set i (rdOf ByteArray.empty l i)) ((i + 1 : Nat) : Int)) (fun k => ?_) (toS_l0 l hl d (i + 1) _ (by omega) (by simp [hx]) ?_)
    · simp only [laws_toStringS.l0]; rw [if_pos (by omega), if_pos (by omega), if_pos (by omega), w1 (by omega) (by omega)]; simp
    · have h1 : i < l.length := by omega
      have h2 : i < (xs.set i (rdOf ByteArray.empty l i)).length := by simp; omega
      have e := rdOf_nat l i h1
      rw [List.take_succ_eq_append_getElem h2, List.take_succ_eq_append_getElem h1, List.take_set, List.set_eq_of_length_le (by simp; omega), ht]
      simp [e]
theorem toS_ev (l : List ByteArray) (hl : l.length ≤ 1048576) : Ev (fun k => laws_toStringS.f k l) l := by
  unfold laws_toStringS.f
  refine Ev.pos (by omega) (Ev.pos (by omega) ?_)
  have h := toS_l0 l hl l.length 0 (List.replicate l.length ⟨#[]⟩) (by omega) (by simp) (by simp)
  simpa using h
theorem eqS_l0 (l : List ByteArray) (hl : l.length ≤ 1048576) : ∀ (d i : Nat), i + d = l.length → Ev (fun k => laws_eqStringS.l0 k l l (i : Int)) true
  | 0, i, hd => Ev.step (f := fun _ => some true) (fun k => by simp only [laws_eqStringS.l0]; rw [if_neg (by omega)]) (Ev.now _)
  | d + 1, i, hd => by
    refine Ev.step (f := fun k => laws_eqStringS.l0 k l l ((i + 1 : Nat) : Int)) (fun k => ?_) (eqS_l0 l hl d (i + 1) (by omega))
    simp only [laws_eqStringS.l0]; rw [if_pos (by omega), if_pos (by omega), if_pos (by omega), if_pos trivial, w1 (by omega) (by omega)]; simp
theorem eqS_ev (l : List ByteArray) (hl : l.length ≤ 1048576) : Ev (fun k => laws_eqStringS.f k l l) true := by
  unfold laws_eqStringS.f
  exact Ev.pos rfl (by simpa using eqS_l0 l hl l.length 0 (by omega))


theorem strOfNums_one (x : Int) : (strOfNums [x]).size = 1 := by simp [strOfNums, ByteArray.size]
theorem markText_l0 : ∀ (d n : Nat) (s : ByteArray), n < 10 ^ d → n < 4611686018427387904 → s.size + d ≤ 1000 → ∃ t, Ev (fun k => laws_markText.l0 k (n : Int) s) t
  | 0, n, s, hn, _, hs => by
    refine ⟨(⟨#[109]⟩ : ByteArray) ++ s, Ev.succ ?_⟩
    simp only [laws_markText.l0]
    exact Ev.neg (by omega) (Ev.pos (by omega) (Ev.now _))
  | d + 1, n, s, hn, hb, hs => by
    by_cases h0 : n = 0
    · refine ⟨(⟨#[109]⟩ : ByteArray) ++ s, Ev.succ ?_⟩
      simp only [laws_markText.l0]
      exact Ev.neg (by omega) (Ev.pos (by omega) (Ev.now _))
    · have e0 : (strOfNums [(wrap64 (48 + (Int.tmod (n : Int) 10))) % 256]).size = 1 := strOfNums_one _
      have hq : n / 10 < 10 ^ d := by rw [Nat.pow_succ] at hn; omega
      obtain ⟨t, ht⟩ := markText_l0 d (n / 10) (strOfNums [(wrap64 (48 + (Int.tmod (n : Int) 10))) % 256] ++ s) hq (by omega) (by rw [ByteArray.size_append, e0]; omega)
      have e2 : Aside0 (wrap64 (Int.tdiv (n : Int) 10) = ((n / 10 : Nat) : Int)) := ⟨by
        rw [show (10 : Int) = ((10 : Nat) : Int) from rfl, ← Int.ofNat_tdiv]; exact w64 (by omega) (by omega)⟩
      refine ⟨t, Ev.succ ?_⟩
      simp only [laws_markText.l0, e2.out]
      exact Ev.pos (by omega) (Ev.known (fun _ => rfl) (Ev.pos (by rw [e0]; omega) ht))
theorem marks : ∃ mt : Nat → ByteArray, ∀ n : Nat, n ≤ 1048577 → Ev (fun k => laws_markText.f k (n : Int)) (mt n) := by
  have h : ∀ n : Nat, ∃ t, n ≤ 1048577 → Ev (fun k => laws_markText.f k (n : Int)) t := by
    intro n
    by_cases hn : n ≤ 1048577
    · by_cases h0 : n = 0
      · exact ⟨_, fun _ => Ev.pos (by omega) (Ev.now _)⟩
      · obtain ⟨t, ht⟩ := markText_l0 7 n ⟨#[]⟩ (by omega) (by omega) (by decide)
        exact ⟨t, fun _ => Ev.neg (by omega) ht⟩
    · exact ⟨ByteArray.empty, fun h => absurd h hn⟩
  exact ⟨fun n => (h n).choose, fun n hn => (h n).choose_spec hn⟩
/-- n texts, all different -/
def marked (mt : Nat → ByteArray) (n : Nat) : List ByteArray := (List.range n).map fun j => mt (j + 1)
theorem marked_length (mt : Nat → ByteArray) (n : Nat) : (marked mt n).length = n := by simp [marked]
theorem markS_l0 (mt : Nat → ByteArray) (hmt : ∀ n : Nat, n ≤ 1048577 → Ev (fun k => laws_markText.f k (n : Int)) (mt n)) (n : Nat) (hn : n ≤ 1048576) : ∀ (d i : Nat) (xs : List ByteArray), i + d = n → xs.length = n → xs.take i = (marked mt n).take i → Ev (fun k => laws_markStringS.l0 k xs ((i + 1 : Nat) : Int) (i : Int)) (((n + 1 : Nat) : Int), marked mt n)
  | 0, i, xs, hd, hx, ht => by
    refine Ev.succ ?_
    simp only [laws_markStringS.l0]
    refine Ev.neg (by omega) (Ev.pure ?_)
    have := marked_length mt n
    rw [List.take_of_length_le (by omega), List.take_of_length_le (by omega)] at ht
    rw [ht, show i = n by omega]
  | d + 1, i, xs, hd, hx, ht => by
    have hlen := marked_length mt n
    have h1 : i < (marked mt n).length := by omega
    have ih := markS_l0 mt hmt n hn d (i + 1) (xs.set i (mt (i + 1))) (by omega) (by simp [hx]) (by
      have h2 : i < (xs.set i (mt (i + 1))).length := by simp; omega
      rw [List.take_succ_eq_append_getElem h2, List.take_succ_eq_append_getElem h1, List.take_set, List.set_eq_of_length_le (by simp; omega), ht]
      simp [marked])
    refine Ev.succ ?_
    simp only [laws_markStringS.l0, w1 (show 0 ≤ (i : Int) by omega) (show (i : Int) < 9223372036854775807 by omega), w1 (show 0 ≤ ((i + 1 : Nat) : Int) by omega) (show ((i + 1 : Nat) : Int) < 9223372036854775807 by omega)]
    exact Ev.pos (by omega) (Ev.bind (hmt (i + 1) (by omega)) (Ev.pos (by omega) ih))
theorem markS_ev {mt : Nat → ByteArray} (hmt : ∀ n : Nat, n ≤ 1048577 → Ev (fun k => laws_markText.f k (n : Int)) (mt n)) (xs : List ByteArray) (hn : xs.length ≤ 1048576) : Ev (fun k => laws_markStringS.f k xs 1) (((xs.length + 1 : Nat) : Int), marked mt xs.length) :=
  markS_l0 mt hmt xs.length hn xs.length 0 xs (by omega) rfl rfl

theorem heldS_l0 (mt : Nat → ByteArray) (hmt : ∀ n : Nat, n ≤ 1048577 → Ev (fun k => laws_markText.f k (n : Int)) (mt n)) (n : Nat) (hn : n ≤ 1048576) : ∀ (d i : Nat), i + d = n → Ev (fun k => laws_heldStringS.l0 k (marked mt n) ((i + 1 : Nat) : Int) (i : Int)) ((n + 1 : Nat) : Int)
  | 0, i, hd => by
    have hlen := marked_length mt n
    refine Ev.succ ?_
    simp only [laws_heldStringS.l0]
    exact Ev.neg (by omega) (Ev.pure (by rw [show i = n by omega]))
  | d + 1, i, hd => by
    have hlen := marked_length mt n
    have h1 : i < (marked mt n).length := by omega
    have ih := heldS_l0 mt hmt n hn d (i + 1) (by omega)
    refine Ev.succ ?_
    simp only [laws_heldStringS.l0, rdOf_nat _ i h1, w1 (show 0 ≤ (i : Int) by omega) (show (i : Int) < 9223372036854775807 by omega), w1 (show 0 ≤ ((i + 1 : Nat) : Int) by omega) (show ((i + 1 : Nat) : Int) < 9223372036854775807 by omega)]
    exact Ev.pos (by omega) (Ev.pos (by omega) (Ev.bind (hmt (i + 1) (by omega)) (Ev.pos (by simp [marked]) ih)))
theorem heldS_ev {mt : Nat → ByteArray} (hmt : ∀ n : Nat, n ≤ 1048577 → Ev (fun k => laws_markText.f k (n : Int)) (mt n)) (n : Nat) (hn : n ≤ 1048576) : Ev (fun k => laws_heldStringS.f k (marked mt n) 1) ((n + 1 : Nat) : Int) :=
  heldS_l0 mt hmt n hn n 0 (by omega)

theorem spec_in (a b c : Int) : spec_l1In.f a b c = some (decide (b ≤ a ∧ a ≤ c)) := by
  unfold spec_l1In.f
  by_cases h : a ≥ b
  · rw [if_pos h]; simp [h]
  · rw [if_neg h]; simp; omega

theorem impl_in_eq (a b c : Int) : impl_in.f a b c = some (decide (b ≤ a ∧ a ≤ c)) := by
  unfold impl_in.f
  by_cases h : b ≤ a
  · rw [if_pos h]; simp [h]
  · rw [if_neg h]; simp [h]

theorem bt_nat (s : ByteArray) (i : Nat) (h : i < s.data.toList.length) : bt s (i : Int) = ((s.data.toList[i]).toNat : Int) := by
  have h' : i < s.size := by have e : s.size = s.data.toList.length := Array.length_toList.symm; omega
  unfold bt
  rw [dif_pos (show (i : Int).toNat < s.size by simpa using h')]
  simp [ByteArray.getElem_eq_getElem_data]
theorem size_data (s : ByteArray) : s.size = s.data.toList.length := Array.length_toList.symm
theorem letter_test (c : UInt8) : ((c.toNat : Int) < 97 ∨ ((c.toNat : Int) - 97) % 256 ≥ 3) ↔ isLetter c = false := by
  have := c.toNat_lt
  unfold isLetter
  rw [decide_eq_false_iff_not]
  omega
theorem wdIs_l0 (s : ByteArray) (hs : s.size < 4611686018427387904) : ∀ (d i : Nat), i + d = s.data.toList.length → Ev (fun k => spec_wdIs.l0 k s (i : Int)) ((s.data.toList.drop i).all isLetter)
  | 0, i, hd => by
    refine Ev.succ ?_
    simp only [spec_wdIs.l0]
    exact Ev.neg (by rw [size_data]; omega) (Ev.pure (by rw [List.drop_of_length_le (by omega)]; rfl))
  | d + 1, i, hd => by
    have h1 : i < s.data.toList.length := by omega
    have ih := wdIs_l0 s hs d (i + 1) (by omega)
    have ht := letter_test s.data.toList[i]
    have hsz := size_data s
    rw [List.drop_eq_getElem_cons h1, List.all_cons]
    refine Ev.succ ?_
    simp only [spec_wdIs.l0, bt_nat s i h1, w1 (show 0 ≤ (i : Int) by omega) (show (i : Int) < 9223372036854775807 by omega)]
    refine Ev.pos (by omega) (Ev.pos (by omega) (Ev.cases (fun h => ?_) (fun h => Ev.cases (fun h' => ?_) (fun h' => ?_))))
    · rw [ht.1 (Or.inl h)]; exact Ev.now _
    · rw [ht.1 (Or.inr h')]; exact Ev.now _
    · have : isLetter s.data.toList[i] = true := by
        cases hl : isLetter s.data.toList[i]
        · exact absurd (ht.2 hl) (by omega)
        · rfl
      rw [this, Bool.true_and]; exact ih
theorem wdIs_ev (s : ByteArray) (hs : s.size < 4611686018427387904) : Ev (fun k => spec_wdIs.f k s) (s.data.toList.all isLetter) := by
  have h := wdIs_l0 s hs s.data.toList.length 0 (by omega)
  simpa [spec_wdIs.f] using h

/-- a word of a set -/
def short (s : ByteArray) : Bool := decide (1 ≤ s.size ∧ s.size ≤ 8) && s.data.toList.all isLetter
theorem wdShort_ev (s : ByteArray) : Ev (fun k => spec_wdShort.f k s) (short s) := by
  unfold spec_wdShort.f short
  refine Ev.known (fun _ => spec_in _ _ _) (Ev.cases (fun h => ?_) (fun h => ?_))
  · have h' := of_decide_eq_true h
    rw [decide_eq_true (show 1 ≤ s.size ∧ s.size ≤ 8 by omega), Bool.true_and]
    exact Ev.bind (wdIs_ev s (by omega)) (Ev.now _)
  · rw [decide_eq_false (show ¬ (1 ≤ s.size ∧ s.size ≤ 8) by intro hh; exact h (decide_eq_true (by omega))), Bool.false_and]
    exact Ev.now _
theorem isShort_eq (s : ByteArray) : impl_isShort.f s = some (short s) := by
  unfold impl_isShort.f impl_isWord.f short
  by_cases h : 1 ≤ s.size ∧ s.size ≤ 8
  · rw [decide_eq_true h, decide_eq_true (show s.size ≤ 60 by omega)]
    cases s.data.toList.all isLetter
    · rfl
    · simp [impl_in_eq]; omega
  · rw [decide_eq_false h]
    cases (decide (s.size ≤ 60) && s.data.toList.all isLetter)
    · rfl
    · simp [impl_in_eq]; omega
theorem bytesLess_cmp : ∀ (x y : List UInt8), Op.bytesLess x y = decide (Lib.compareBytes x y < 0)
  | [], [] => by simp [Op.bytesLess, Lib.compareBytes]
  | _ :: _, [] => by simp [Op.bytesLess, Lib.compareBytes]
  | [], _ :: _ => by simp [Op.bytesLess, Lib.compareBytes]
  | a :: x, b :: y => by
    rw [Op.bytesLess, bytesLess_cmp x y, Lib.compareBytes]
    by_cases h1 : a < b
    · simp [h1]
    · by_cases h2 : b < a
      · have : (a == b) = false := by
          rw [beq_eq_false_iff_ne]; rintro rfl; exact h1 h2
        simp [h1, h2, this]
      · have : a = b := by
          have h1' : ¬ a.toNat < b.toNat := h1
          have h2' : ¬ b.toNat < a.toNat := h2
          exact UInt8.toNat_inj.1 (by omega)
        subst this; simp [h1]
theorem bytesLess_irrefl : ∀ (x : List UInt8), Op.bytesLess x x = false
  | [] => rfl
  | a :: x => by rw [Op.bytesLess, bytesLess_irrefl x]; simp
theorem bytesLess_trans : ∀ (x y z : List UInt8), Op.bytesLess x y = true → Op.bytesLess y z = true → Op.bytesLess x z = true
  | _, [], _ => by simp [Op.bytesLess]
  | _, _ :: _, [] => by simp [Op.bytesLess]
  | [], _ :: _, _ :: _ => by simp [Op.bytesLess]
  | a :: x, b :: y, c :: z => by
    have ih := bytesLess_trans x y z
    simp only [Op.bytesLess, Bool.or_eq_true, decide_eq_true_eq, Bool.and_eq_true, beq_iff_eq]
    intro h1 h2
    rcases h1 with h1 | ⟨rfl, h1⟩
    · rcases h2 with h2 | ⟨rfl, h2⟩
      · exact Or.inl (UInt8.lt_trans h1 h2)
      · exact Or.inl h1
    · rcases h2 with h2 | ⟨rfl, h2⟩
      · exact Or.inl h2
      · exact Or.inr ⟨rfl, ih h1 h2⟩
/-- the order of words: by length, then by letters -/
def wless (a b : ByteArray) : Bool := decide (a.size < b.size) || (decide (a.size = b.size) && Op.bytesLess a.data.toList b.data.toList)
theorem wless_irrefl (a : ByteArray) : wless a a = false := by unfold wless; rw [bytesLess_irrefl]; simp
theorem wless_trans (a b c : ByteArray) (h1 : wless a b = true) (h2 : wless b c = true) : wless a c = true := by
  unfold wless at *
  simp only [Bool.or_eq_true, decide_eq_true_eq, Bool.and_eq_true] at *
  rcases h1 with h1 | ⟨h1, g1⟩ <;> rcases h2 with h2 | ⟨h2, g2⟩
  · left; omega
  · left; omega
  · left; omega
  · exact Or.inr ⟨by omega, bytesLess_trans _ _ _ g1 g2⟩
theorem wdLess_eq (a b : ByteArray) : spec_wdLess.f a b = some (wless a b) := by
  unfold spec_wdLess.f wless
  by_cases h : a.size < b.size
  · rw [if_pos (by omega)]; simp [h]
  · rw [if_neg (by omega)]
    by_cases h' : a.size = b.size
    · rw [if_pos (by omega)]; simp [h', ByteArray.toList_eq]
    · rw [if_neg (by omega)]; simp [h, h']
theorem or2 (a b : Int) : Ev (fun k => cmp_Or_int.f k [a, b]) (if a = 0 then b else a) := by
  refine ⟨3, fun k hk => ?_⟩
  obtain ⟨k, rfl⟩ : ∃ m, k = m + 3 := ⟨k - 3, by omega⟩
  by_cases ha : a = 0 <;> by_cases hb : b = 0 <;> simp [cmp_Or_int.f, cmp_Or_int.l0, rd, wrap64, ha, hb]
theorem compareWords_ev (a b : ByteArray) : ∃ c, Ev (fun k => impl_compareWords.f k a b) c ∧ wless a b = decide (c < 0) := by
  have hn : ∀ x : Int, cmp_isNaN_int.f x = some false := fun x => by simp [cmp_isNaN_int.f]
  have hc : cmp_Compare_int.f (a.size : Int) (b.size : Int) = some (if a.size < b.size then -1 else if b.size < a.size then 1 else 0) := by
    unfold cmp_Compare_int.f
    simp only [hn, Option.bind_some]
    rw [if_neg (by simp), if_neg (by simp)]
    by_cases h1 : a.size < b.size
    · rw [if_pos (by omega), if_pos h1]
    · rw [if_neg (by omega), if_neg h1]
      by_cases h2 : b.size < a.size
      · rw [if_pos (by omega), if_pos h2]
      · rw [if_neg (by omega), if_neg h2]
  refine ⟨_, Ev.known (fun _ => hc) (Ev.known (fun _ => rfl) (Ev.bind (or2 _ _) (Ev.now _))), ?_⟩
  unfold wless
  rw [bytesLess_cmp]
  by_cases h1 : a.size < b.size
  · simp [h1]
  · by_cases h2 : b.size < a.size
    · rw [if_neg h1, if_pos h2]; simp [h1, show ¬ a.size = b.size by omega]
    · rw [if_neg h1, if_neg h2]; simp [h1, show a.size = b.size by omega]
/-- a set: words of the right size, one by one in order -/
def SetUpto (l : List ByteArray) (i : Nat) : Prop := ∀ (j : Nat) (h : j < l.length), i ≤ j → short l[j] = true ∧ (0 < j → wless l[j - 1] l[j] = true)
theorem set_l0 (l : List ByteArray) (hl : l.length ≤ 1048576) : ∀ (d i : Nat), i + d = l.length → ∃ b, Ev (fun k => spec_wdSet.l0 k l l (l.length : Int) (i : Int)) b ∧ Ev (fun k => impl_isSet.l0 k l l (l.length : Int) (i : Int)) (b && decide (l.length ≤ 12)) ∧ (b = true → SetUpto l i)
  | 0, i, hd => by
    refine ⟨true, Ev.succ ?_, Ev.succ ?_, fun _ j h hj => by omega⟩
    · simp only [spec_wdSet.l0]; exact Ev.neg (by omega) (Ev.now _)
    · simp only [impl_isSet.l0]; refine Ev.neg (by omega) (Ev.pure ?_); rw [Bool.true_and]; exact decide_eq_decide.2 (by omega)
  | d + 1, i, hd => by
    have h1 : i < l.length := by omega
    obtain ⟨b, e1, e2, hb⟩ := set_l0 l hl d (i + 1) (by omega)
    have s1 := wdShort_ev l[i]
    have s2 := isShort_eq l[i]
    cases hs : short l[i]
    · rw [hs] at s1 s2
      refine ⟨false, Ev.succ ?_, Ev.succ ?_, fun h => by cases h⟩
      · simp only [spec_wdSet.l0, rdOf_nat l i h1]
        exact Ev.pos (by omega) (Ev.pos (by omega) (Ev.pos (by omega) (Ev.bind s1 (Ev.neg (by simp) (Ev.now _)))))
      · simp only [impl_isSet.l0, rdOf_nat l i h1]
        exact Ev.pos (by omega) (Ev.pos (by omega) (Ev.pos (by omega) (Ev.known (fun _ => s2) (Ev.neg (by simp) (Ev.now _)))))
    · rw [hs] at s1 s2
      by_cases h0 : i = 0
      · refine ⟨b, Ev.succ ?_, Ev.succ ?_, fun h j hj hij => ?_⟩
        · simp only [spec_wdSet.l0, rdOf_nat l i h1, w1 (show 0 ≤ (i : Int) by omega) (show (i : Int) < 9223372036854775807 by omega)]
          exact Ev.pos (by omega) (Ev.pos (by omega) (Ev.pos (by omega) (Ev.bind s1 (Ev.pos rfl (Ev.neg (by omega) e1)))))
        · simp only [impl_isSet.l0, rdOf_nat l i h1, w1 (show 0 ≤ (i : Int) by omega) (show (i : Int) < 9223372036854775807 by omega)]
          exact Ev.pos (by omega) (Ev.pos (by omega) (Ev.pos (by omega) (Ev.known (fun _ => s2) (Ev.pos rfl (Ev.neg (by omega) e2)))))
        · by_cases he : i = j
          · subst he; exact ⟨hs, fun h => by omega⟩
          · exact hb h j hj (by omega)
      · obtain ⟨c, hc, hw⟩ := compareWords_ev l[i - 1] l[i]
        have e3 : Aside0 (wrap64 ((i : Int) - 1) = ((i - 1 : Nat) : Int)) := ⟨by rw [w64 (by omega) (by omega)]; omega⟩
        have l1 := wdLess_eq l[i - 1] l[i]
        refine ⟨wless l[i - 1] l[i] && b, Ev.succ ?_, Ev.succ ?_, fun h j hj hij => ?_⟩
        · simp only [spec_wdSet.l0, rdOf_nat l i h1, e3.out, rdOf_nat l (i - 1) (by omega), w1 (show 0 ≤ (i : Int) by omega) (show (i : Int) < 9223372036854775807 by omega)]
          refine Ev.pos (by omega) (Ev.pos (by omega) (Ev.pos (by omega) (Ev.bind s1 (Ev.pos rfl (Ev.pos (by omega) (Ev.pos (by omega) (Ev.pos (by omega) (Ev.known (fun _ => l1) (Ev.cases (fun h => ?_) (fun h => ?_))))))))))
          · rw [h, Bool.true_and]; exact e1
          · rw [Bool.eq_false_iff.mpr h, Bool.false_and]; exact Ev.now _
        · simp only [impl_isSet.l0, rdOf_nat l i h1, e3.out, rdOf_nat l (i - 1) (by omega), w1 (show 0 ≤ (i : Int) by omega) (show (i : Int) < 9223372036854775807 by omega)]
          refine Ev.pos (by omega) (Ev.pos (by omega) (Ev.pos (by omega) (Ev.known (fun _ => s2) (Ev.pos rfl (Ev.pos (by omega) (Ev.pos (by omega) (Ev.pos (by omega) (Ev.bind hc (Ev.cases (fun h => ?_) (fun h => ?_))))))))))
          · rw [hw, decide_eq_false (by omega)]; exact Ev.now _
          · rw [hw, decide_eq_true (by omega)]; exact e2
        · simp only [Bool.and_eq_true] at h
          by_cases he : i = j
          · subst he; exact ⟨hs, fun _ => h.1⟩
          · exact hb h.2 j hj (by omega)
/-- what a set is -/
structure IsSet (l : List ByteArray) : Prop where
  few : l.length ≤ 12
  each : SetUpto l 0
theorem isSet_same (l : List ByteArray) (hl : l.length ≤ 1048576) : ∃ b, Ev (fun k => spec_wdSet.f k l) b ∧ Ev (fun k => impl_isSet.f k l) b ∧ (b = true → IsSet l) := by
  obtain ⟨b, h1, h2, hb⟩ := set_l0 l hl l.length 0 (by omega)
  unfold spec_wdSet.f impl_isSet.f
  by_cases h12 : l.length ≤ 12
  · rw [decide_eq_true h12, Bool.and_true] at h2
    exact ⟨b, Ev.neg (by omega) h1, h2, fun h => ⟨h12, hb h⟩⟩
  · rw [decide_eq_false h12, Bool.and_false] at h2
    exact ⟨false, Ev.pos (by omega) (Ev.now _), h2, fun h => by cases h⟩
theorem IsSet.lt {l : List ByteArray} (h : IsSet l) : ∀ (j i : Nat) (hj : j < l.length) (hi : i < j), wless l[i] l[j] = true
  | 0, i, hj, hi => by omega
  | j + 1, i, hj, hi => by
    have h1 := (h.each (j + 1) hj (by omega)).2 (by omega)
    by_cases e : i = j
    · subst e; exact h1
    · exact wless_trans _ _ _ (h.lt j i (by omega) (by omega)) h1
theorem IsSet.short {l : List ByteArray} (h : IsSet l) (w : ByteArray) (hw : w ∈ l) : Pure.short w = true := by
  obtain ⟨i, hi, rfl⟩ := List.getElem_of_mem hw
  exact (h.each i hi (by omega)).1
theorem IsSet.size {l : List ByteArray} (h : IsSet l) (w : ByteArray) (hw : w ∈ l) : 1 ≤ w.size ∧ w.size ≤ 8 := by
  have := h.short w hw
  unfold Pure.short at this
  simp only [Bool.and_eq_true, decide_eq_true_eq] at this
  exact this.1

/-- a text's letters -/
abbrev ch (s : ByteArray) : List UInt8 := s.data.toList
theorem ch_length (s : ByteArray) : (ch s).length = s.size := Array.length_toList
theorem ch_extract (s : ByteArray) (a b : Nat) : ch (s.extract a b) = ((ch s).drop a).take (b - a) := by
  simp [ch, ByteArray.data_extract, Array.toList_extract, List.extract_eq_take_drop]
theorem ch_drop (s : ByteArray) (a : Nat) : ch (s.extract a s.size) = (ch s).drop a := by
  rw [ch_extract, List.take_of_length_le]; simp only [List.length_drop, ch_length]; omega
theorem begins_test (a w : ByteArray) (h : w.size ≤ a.size) : ((a.extract 0 w.size).toList == w.toList) = (ch w).isPrefixOf (ch a) := by
  rw [ByteArray.toList_eq, ByteArray.toList_eq]
  change (ch (a.extract 0 w.size) == ch w) = _
  rw [ch_extract, List.drop_zero, Nat.sub_zero, ← ch_length w, Bool.eq_iff_iff, beq_iff_eq, List.isPrefixOf_iff_prefix, List.prefix_iff_eq_take]
  exact eq_comm
theorem prefix_long (a w : ByteArray) (h : ¬ w.size ≤ a.size) : (ch w).isPrefixOf (ch a) = false := by
  rw [Bool.eq_false_iff]
  intro hp
  have := (List.isPrefixOf_iff_prefix.1 hp).length_le
  rw [ch_length, ch_length] at this
  exact h this
theorem toList_ch (s : ByteArray) : s.toList = ch s := ByteArray.toList_eq s
theorem chNe (l : List ByteArray) (hne : ∀ w ∈ l, 1 ≤ w.size) : ∀ t ∈ l.map ch, t ≠ [] := fun t ht => by
  obtain ⟨w, hw, rfl⟩ := List.mem_map.1 ht
  intro e; have := hne w hw; have := ch_length w; rw [e] at this; simp at this; omega

theorem wdBegins_eq (a w : ByteArray) : spec_wdBegins.f a w = some ((ch w).isPrefixOf (ch a)) := by
  unfold spec_wdBegins.f
  by_cases h : w.size ≤ a.size
  · rw [if_pos (by omega), if_pos (by omega), begins_test a w h]
  · rw [if_neg (by omega), prefix_long a w h]

theorem hasPrefix_eq (a w : ByteArray) : strings_HasPrefix.f a w = some ((ch w).isPrefixOf (ch a)) := by
  unfold strings_HasPrefix.f stringslite_HasPrefix.f
  by_cases h : w.size ≤ a.size
  · rw [if_pos (by omega), if_pos (by omega), if_pos (by omega), begins_test a w h]; rfl
  · rw [if_neg (by omega), prefix_long a w h]; rfl

theorem wrap_add (a b : Int) : wrap64 (wrap64 a + wrap64 b) = wrap64 (a + b) := by unfold wrap64; omega
theorem wrap_zero : wrap64 0 = 0 := by unfold wrap64; omega
theorem wrap_one : wrap64 1 = 1 := by unfold wrap64; omega
/-- how often a text is written with words -/
def cnt (W : List (List UInt8)) (s : List UInt8) : Nat :=
  if s = [] then 1 else (W.map fun w => if h : w ≠ [] ∧ w.isPrefixOf s = true then cnt W (s.drop w.length) else 0).sum
termination_by s.length
decreasing_by
  have h1 : w.length ≠ 0 := by intro e; exact h.1 (List.eq_nil_of_length_eq_zero e)
  have h2 : w.length ≤ s.length := (List.isPrefixOf_iff_prefix.1 h.2).length_le
  simp only [List.length_drop]
  omega
/-- what one word adds to the count -/
def term (W : List (List UInt8)) (s w : List UInt8) : Nat := if w ≠ [] ∧ w.isPrefixOf s = true then cnt W (s.drop w.length) else 0
theorem cnt_nil (W : List (List UInt8)) : cnt W [] = 1 := by rw [cnt]; simp
theorem cnt_ne (W : List (List UInt8)) (s : List UInt8) (h : s ≠ []) : cnt W s = (W.map (term W s)).sum := by
  rw [cnt, if_neg h]
  rfl
theorem cnt_le (W : List (List UInt8)) (c : Nat) (hc : W.length ≤ c) (h0c : 0 < c) : ∀ (n : Nat) (s : List UInt8), s.length = n → cnt W s ≤ c ^ n := by
  intro n
  induction n using Nat.strongRecOn with
  | _ n ih =>
    intro s hs
    by_cases h0 : s = []
    · subst h0; subst hs; rw [cnt_nil]; simp
    · rw [cnt_ne W s h0]
      have hn : 0 < n := by rw [← hs]; exact List.length_pos_iff.2 h0
      have h1 : ∀ w, term W s w ≤ c ^ (n - 1) := by
        intro w
        unfold term
        by_cases hw : w ≠ [] ∧ w.isPrefixOf s = true
        · rw [if_pos hw]
          have h1 : 0 < w.length := List.length_pos_iff.2 hw.1
          have h2 : w.length ≤ s.length := (List.isPrefixOf_iff_prefix.1 hw.2).length_le
          exact Nat.le_trans (ih _ (by simp only [List.length_drop]; omega) _ rfl) (Nat.pow_le_pow_right h0c (by simp only [List.length_drop]; omega))
        · rw [if_neg hw]; exact Nat.zero_le _
      have h2 : ∀ (V : List (List UInt8)), (V.map (term W s)).sum ≤ V.length * c ^ (n - 1) := by
        intro V
        induction V with
        | nil => simp
        | cons v V ihV => rw [List.map_cons, List.sum_cons, List.length_cons, Nat.succ_mul]; have := h1 v; omega
      calc (W.map (term W s)).sum ≤ W.length * c ^ (n - 1) := h2 W
        _ ≤ c * c ^ (n - 1) := Nat.mul_le_mul_right _ hc
        _ = c ^ n := by rw [Nat.mul_comm, ← Nat.pow_succ]; congr 1; omega

theorem cnt_take (W : List (List UInt8)) (s : List UInt8) (i : Nat) (h : i < W.length) : ((W.take (i + 1)).map (term W s)).sum = ((W.take i).map (term W s)).sum + term W s W[i] := by
  rw [List.take_succ_eq_append_getElem h, List.map_append, List.sum_append]; simp
/-- the reference's table while place p is worked at -/
def tabS (W : List (List UInt8)) (s : List UInt8) (p : Nat) (v : Int) : List Int := (List.range (s.length + 1)).map fun j => if j < p then 0 else if j = p then v else wrap64 (cnt W (s.drop j) : Int)
theorem tabS_length (W : List (List UInt8)) (s : List UInt8) (p : Nat) (v : Int) : (tabS W s p v).length = s.length + 1 := by simp [tabS]
theorem tabS_at (W : List (List UInt8)) (s : List UInt8) (p : Nat) (v : Int) (j : Nat) (h : j < s.length + 1) : rd (tabS W s p v) (j : Int) = if j < p then 0 else if j = p then v else wrap64 (cnt W (s.drop j) : Int) := by
  rw [rd_nat _ j (by rw [tabS_length]; exact h)]; simp [tabS]
theorem tabS_set (W : List (List UInt8)) (s : List UInt8) (p : Nat) (v v' : Int) : (tabS W s p v).set p v' = tabS W s p v' := by
  apply List.ext_getElem
  · simp [tabS]
  · intro j h1 h2
    rw [List.getElem_set]
    by_cases e : p = j
    · subst e; simp [tabS]
    · rw [if_neg e]; simp [tabS, show ¬ j = p by omega]
theorem tabS_next (W : List (List UInt8)) (s : List UInt8) (p : Nat) (v : Int) (hv : v = wrap64 (cnt W (s.drop (p + 1)) : Int)) : tabS W s (p + 1) v = tabS W s p 0 := by
  unfold tabS
  apply List.map_congr_left
  intro j _
  subst hv
  by_cases h1 : j < p
  · rw [if_pos (by omega), if_pos h1]
  · by_cases h2 : j = p
    · rw [if_pos (by omega), if_neg h1, if_pos h2]
    · rw [if_neg (by omega), if_neg h1, if_neg h2]
      by_cases h3 : j = p + 1
      · rw [if_pos h3, h3]
      · rw [if_neg h3]
theorem dcCount_l1 (l : List ByteArray) (t : ByteArray) (hl : l.length ≤ 1048576) (hne : ∀ w ∈ l, 1 ≤ w.size) (ht : t.size ≤ 1048576) (p : Nat) (hp : p < t.size) (r : Int)
    (next : Ev (fun k => spec_dcCount.l0 k l t (tabS (l.map ch) (ch t) p (wrap64 (cnt (l.map ch) ((ch t).drop p) : Int))) (wrap64 ((p : Int) - 1))) r) :
    ∀ (d i : Nat), i + d = l.length → Ev (fun k => spec_dcCount.l1 k l t (tabS (l.map ch) (ch t) p (wrap64 (((((l.map ch).take i).map (term (l.map ch) ((ch t).drop p))).sum : Nat) : Int))) (p : Int) l (l.length : Int) (i : Int)) r
  | 0, i, hd => by
    refine Ev.succ ?_
    simp only [spec_dcCount.l1]
    refine Ev.neg (by omega) ?_
    rw [List.take_of_length_le (by simp; omega), ← cnt_ne]
    · exact next
    · intro e
      have : ((ch t).drop p).length = 0 := by rw [e]; rfl
      simp only [List.length_drop, ch_length] at this; omega
  | d + 1, i, hd => by
    have h1 : i < l.length := by omega
    have h1' : i < (l.map ch).length := by simp; omega
    have ih := dcCount_l1 l t hl hne ht p hp r next d (i + 1) (by omega)
    rw [cnt_take _ _ i h1'] at ih
    have hw := hne _ (List.getElem_mem h1)
    have hlen := tabS_length (l.map ch) (ch t) p
    have hct := ch_length t
    have hb := wdBegins_eq (t.extract (p : Nat) t.size) l[i]
    rw [ch_drop] at hb
    refine Ev.succ ?_
    simp only [spec_dcCount.l1, rdOf_nat l i h1, Int.toNat_natCast, w1 (show 0 ≤ (i : Int) by omega) (show (i : Int) < 9223372036854775807 by omega)]
    refine Ev.pos (by omega) (Ev.pos (by omega) (Ev.pos (by omega) (Ev.pos (by omega) (Ev.pos (by omega) (Ev.known (fun _ => hb) (Ev.cases (fun h => ?_) (fun h => ?_)))))))
    · have hle := (List.isPrefixOf_iff_prefix.1 h).length_le
      simp only [List.length_drop, ch_length] at hle
      have e1 : Aside0 (wrap64 ((p : Int) + (l[i].size : Int)) = ((p + l[i].size : Nat) : Int)) := ⟨by rw [w64 (by omega) (by omega)]; omega⟩
      have hterm : term (l.map ch) ((ch t).drop p) (l.map ch)[i] = cnt (l.map ch) ((ch t).drop (p + l[i].size)) := by
        unfold term
        rw [List.getElem_map, if_pos ⟨fun e => by have := ch_length l[i]; rw [e] at this; simp at this; omega, h⟩, List.drop_drop, ch_length]
      simp only [e1.out]
      refine Ev.pos (by rw [hlen]; omega) (Ev.pos (by omega) (Ev.pos (by rw [hlen]; omega) ?_))
      rw [tabS_at _ _ _ _ p (by omega), tabS_at _ _ _ _ (p + l[i].size) (by omega), if_neg (by omega), if_pos rfl, if_neg (by omega), if_neg (by omega), wrap_add, tabS_set, ← hterm]
      rw [Int.natCast_add] at ih
      exact ih
    · have hterm : term (l.map ch) ((ch t).drop p) (l.map ch)[i] = 0 := by
        unfold term
        rw [List.getElem_map, if_neg (fun hh => h hh.2)]
      rw [hterm, Nat.add_zero] at ih
      exact ih
theorem dcCount_l0 (l : List ByteArray) (t : ByteArray) (hl : l.length ≤ 1048576) (hne : ∀ w ∈ l, 1 ≤ w.size) (ht : t.size ≤ 1048576) : ∀ (p : Nat), p ≤ t.size → Ev (fun k => spec_dcCount.l0 k l t (tabS (l.map ch) (ch t) p (wrap64 (cnt (l.map ch) ((ch t).drop p) : Int))) (wrap64 ((p : Int) - 1))) (wrap64 (cnt (l.map ch) (ch t) : Int))
  | 0, hp => by
    refine Ev.succ ?_
    simp only [spec_dcCount.l0, show wrap64 (((0 : Nat) : Int) - 1) = -1 from by unfold wrap64; omega]
    refine Ev.neg (by omega) (Ev.pos (by rw [tabS_length]; omega) (Ev.pure ?_))
    have := tabS_at (l.map ch) (ch t) 0 (wrap64 (cnt (l.map ch) ((ch t).drop 0) : Int)) 0 (by omega)
    simpa using this
  | p + 1, hp => by
    have ih := dcCount_l0 l t hl hne ht p (by omega)
    have h := dcCount_l1 l t hl hne ht p (by omega) _ ih l.length 0 (by omega)
    have e : Aside0 (wrap64 (((p + 1 : Nat) : Int) - 1) = (p : Int)) := ⟨by rw [w64 (by omega) (by omega)]; omega⟩
    refine Ev.succ ?_
    simp only [spec_dcCount.l0, e.out]
    refine Ev.pos (by omega) ?_
    rw [tabS_next _ _ p _ rfl]
    simpa [wrap_zero] using h
theorem dcCount_ev (l : List ByteArray) (t : ByteArray) (hl : l.length ≤ 1048576) (hne : ∀ w ∈ l, 1 ≤ w.size) (ht : t.size ≤ 1048576) : Ev (fun k => spec_dcCount.f k l t) (wrap64 (cnt (l.map ch) (ch t) : Int)) := by
  have h := dcCount_l0 l t hl hne ht t.size (by omega)
  have hct := ch_length t
  have e0 : (List.replicate (t.size + 1) (0 : Int)).set t.size 1 = tabS (l.map ch) (ch t) t.size (wrap64 (cnt (l.map ch) ((ch t).drop t.size) : Int)) := by
    apply List.ext_getElem
    · simp [tabS, hct]
    · intro j h1 h2
      have hj : j < t.size + 1 := by simpa using h1
      rw [List.getElem_set]
      by_cases e : t.size = j
      · subst e
        simp [tabS, List.drop_of_length_le (Nat.le_of_eq hct), cnt_nil, wrap_one]
      · rw [if_neg e]
        simp [tabS, show j < t.size by omega]
  have e1 := w1 (show 0 ≤ (t.size : Int) by omega) (by omega)
  unfold spec_dcCount.f
  rw [e1]
  refine Ev.pos (by omega) (Ev.pos (by omega) (Ev.known (fun _ => rfl) (Ev.pos (by omega) (Ev.pos (by simp; omega) ?_))))
  rw [show ((t.size : Int) + 1).toNat = t.size + 1 by omega, Int.toNat_natCast, e0]
  exact h

/-- the program's table while place p is worked at -/
def tabI (W : List (List UInt8)) (s : List UInt8) (p : Nat) (v : Int) : List Int := (List.range (s.length + 1)).map fun j => if j < p then wrap64 (cnt W (s.drop (s.length - j)) : Int) else if j = p then v else 0
theorem tabI_length (W : List (List UInt8)) (s : List UInt8) (p : Nat) (v : Int) : (tabI W s p v).length = s.length + 1 := by simp [tabI]
theorem tabI_at (W : List (List UInt8)) (s : List UInt8) (p : Nat) (v : Int) (j : Nat) (h : j < s.length + 1) : rd (tabI W s p v) (j : Int) = if j < p then wrap64 (cnt W (s.drop (s.length - j)) : Int) else if j = p then v else 0 := by
  rw [rd_nat _ j (by rw [tabI_length]; exact h)]; simp [tabI]
theorem tabI_set (W : List (List UInt8)) (s : List UInt8) (p : Nat) (v v' : Int) : (tabI W s p v).set p v' = tabI W s p v' := by
  apply List.ext_getElem
  · simp [tabI]
  · intro j h1 h2
    rw [List.getElem_set]
    by_cases e : p = j
    · subst e; simp [tabI]
    · rw [if_neg e]; simp [tabI, show ¬ j = p by omega]
theorem tabI_next (W : List (List UInt8)) (s : List UInt8) (p : Nat) (v : Int) (hv : v = wrap64 (cnt W (s.drop (s.length - p)) : Int)) : tabI W s p v = tabI W s (p + 1) 0 := by
  unfold tabI
  apply List.map_congr_left
  intro j _
  subst hv
  by_cases h1 : j < p
  · rw [if_pos h1, if_pos (by omega)]
  · by_cases h2 : j = p
    · rw [if_neg h1, if_pos h2, if_pos (by omega), h2]
    · rw [if_neg h1, if_neg h2, if_neg (by omega)]
      by_cases h3 : j = p + 1
      · rw [if_pos h3]
      · rw [if_neg h3]
theorem readings_l1 (l : List ByteArray) (t : ByteArray) (hl : l.length ≤ 1048576) (hne : ∀ w ∈ l, 1 ≤ w.size) (ht : t.size ≤ 1048576) (p : Nat) (hp0 : 0 < p) (hp : p ≤ t.size) (r : List Int)
    (next : Ev (fun k => impl_readings.l0 k l t (tabI (l.map ch) (ch t) p (wrap64 (cnt (l.map ch) ((ch t).drop (t.size - p)) : Int))) (wrap64 ((p : Int) + 1))) r) :
    ∀ (d i : Nat), i + d = l.length → Ev (fun k => impl_readings.l1 k l t (tabI (l.map ch) (ch t) p (wrap64 (((((l.map ch).take i).map (term (l.map ch) ((ch t).drop (t.size - p)))).sum : Nat) : Int))) (p : Int) (t.extract (t.size - p) t.size) l (l.length : Int) (i : Int)) r
  | 0, i, hd => by
    refine Ev.succ ?_
    simp only [impl_readings.l1]
    refine Ev.neg (by omega) ?_
    rw [List.take_of_length_le (by simp; omega), ← cnt_ne]
    · exact next
    · intro e
      have : ((ch t).drop (t.size - p)).length = 0 := by rw [e]; rfl
      simp only [List.length_drop, ch_length] at this; omega
  | d + 1, i, hd => by
    have h1 : i < l.length := by omega
    have h1' : i < (l.map ch).length := by simp; omega
    have ih := readings_l1 l t hl hne ht p hp0 hp r next d (i + 1) (by omega)
    rw [cnt_take _ _ i h1'] at ih
    have hw := hne _ (List.getElem_mem h1)
    have hlen := tabI_length (l.map ch) (ch t) p
    have hct := ch_length t
    have hb := hasPrefix_eq (t.extract (t.size - p) t.size) l[i]
    rw [ch_drop] at hb
    refine Ev.succ ?_
    simp only [impl_readings.l1, rdOf_nat l i h1, Int.toNat_natCast, w1 (show 0 ≤ (i : Int) by omega) (show (i : Int) < 9223372036854775807 by omega)]
    refine Ev.pos (by omega) (Ev.pos (by omega) (Ev.pos (by omega) (Ev.known (fun _ => hb) (Ev.cases (fun h => ?_) (fun h => ?_)))))
    · have hle := (List.isPrefixOf_iff_prefix.1 h).length_le
      simp only [List.length_drop, ch_length] at hle
      have e1 : Aside0 (wrap64 ((p : Int) - (l[i].size : Int)) = ((p - l[i].size : Nat) : Int)) := ⟨by rw [w64 (by omega) (by omega)]; omega⟩
      have hterm : term (l.map ch) ((ch t).drop (t.size - p)) (l.map ch)[i] = cnt (l.map ch) ((ch t).drop (t.size - (p - l[i].size))) := by
        unfold term
        rw [List.getElem_map, if_pos ⟨fun e => by have := ch_length l[i]; rw [e] at this; simp at this; omega, h⟩, List.drop_drop, ch_length]
        congr 2; omega
      simp only [e1.out]
      refine Ev.pos (by omega) (Ev.pos (by rw [hlen]; omega) (Ev.pos (by omega) (Ev.pos (by rw [hlen]; omega) ?_)))
      rw [tabI_at _ _ _ _ p (by omega), tabI_at _ _ _ _ (p - l[i].size) (by omega), if_neg (by omega), if_pos rfl, if_pos (by omega), hct, wrap_add, tabI_set, ← hterm]
      rw [Int.natCast_add] at ih
      exact ih
    · have hterm : term (l.map ch) ((ch t).drop (t.size - p)) (l.map ch)[i] = 0 := by
        unfold term
        rw [List.getElem_map, if_neg (fun hh => h hh.2)]
      rw [hterm, Nat.add_zero] at ih
      exact ih
theorem readings_l0 (l : List ByteArray) (t : ByteArray) (hl : l.length ≤ 1048576) (hne : ∀ w ∈ l, 1 ≤ w.size) (ht : t.size ≤ 1048576) : ∀ (d p : Nat), p + d = t.size + 1 → 0 < p → Ev (fun k => impl_readings.l0 k l t (tabI (l.map ch) (ch t) p 0) (p : Int)) (tabI (l.map ch) (ch t) (t.size + 1) 0)
  | 0, p, hd, h0 => by
    refine Ev.succ ?_
    simp only [impl_readings.l0]
    exact Ev.neg (by omega) (Ev.pure (by rw [show p = t.size + 1 by omega]))
  | d + 1, p, hd, h0 => by
    have hct := ch_length t
    have ih := readings_l0 l t hl hne ht d (p + 1) (by omega) (by omega)
    rw [← tabI_next _ _ p _ rfl, hct] at ih
    have h := readings_l1 l t hl hne ht p h0 (by omega) _ (by rw [w1 (by omega) (by omega)]; exact ih) l.length 0 (by omega)
    have e : Aside0 (wrap64 ((t.size : Int) - (p : Int)) = ((t.size - p : Nat) : Int)) := ⟨by rw [w64 (by omega) (by omega)]; omega⟩
    refine Ev.succ ?_
    simp only [impl_readings.l0, e.out, Int.toNat_natCast]
    exact Ev.pos (by omega) (Ev.pos (by omega) (Ev.pos (by omega) (by simpa [wrap_zero] using h)))
theorem readings_ev (l : List ByteArray) (t : ByteArray) (hl : l.length ≤ 1048576) (hne : ∀ w ∈ l, 1 ≤ w.size) (ht : t.size ≤ 1048576) : Ev (fun k => impl_readings.f k l t) (tabI (l.map ch) (ch t) (t.size + 1) 0) := by
  have h := readings_l0 l t hl hne ht t.size 1 (by omega) (by omega)
  have hct := ch_length t
  have e0 : (List.replicate (t.size + 1) (0 : Int)).set 0 1 = tabI (l.map ch) (ch t) 1 0 := by
    apply List.ext_getElem
    · simp [tabI, hct]
    · intro j h1 h2
      rw [List.getElem_set]
      by_cases e : 0 = j
      · subst e
        simp [tabI, List.drop_of_length_le (Nat.le_of_eq hct), cnt_nil, wrap_one]
      · rw [if_neg e]
        simp [tabI, show ¬ j = 0 by omega]
  have e1 := w1 (show 0 ≤ (t.size : Int) by omega) (by omega)
  unfold impl_readings.f
  rw [e1]
  refine Ev.pos (by omega) (Ev.pos (by omega) (Ev.known (fun _ => rfl) (Ev.pos (by simp) ?_)))
  rw [show ((t.size : Int) + 1).toNat = t.size + 1 by omega]
  try rw [show (0 : Int).toNat = 0 from rfl]
  rw [e0]
  exact h
theorem countReadings_ev (l : List ByteArray) (t : ByteArray) (hl : l.length ≤ 1048576) (hne : ∀ w ∈ l, 1 ≤ w.size) (ht : t.size ≤ 1048576) : Ev (fun k => impl_countReadings.f k l t) (wrap64 (cnt (l.map ch) (ch t) : Int)) := by
  have hct := ch_length t
  unfold impl_countReadings.f
  refine Ev.bind (readings_ev l t hl hne ht) (Ev.pos (by omega) (Ev.pos (by rw [tabI_length]; omega) (Ev.pure ?_)))
  rw [tabI_at _ _ _ _ t.size (by omega), if_pos (by omega), hct, Nat.sub_self, List.drop_zero]

/-- one reading of a text, if there is one -/
theorem dcReadings200 (l : List ByteArray) (hl : l.length ≤ 200) (hne : ∀ w ∈ l, 1 ≤ w.size) : ∀ (n : Nat) (t : ByteArray), t.size = n → t.size ≤ 8 → ∃ rs : List (List Int), Ev (fun k => spec_dcReadings.f k l t 1) rs ∧ (rs.length = if cnt (l.map ch) (ch t) = 0 then 0 else 1) ∧ ∀ r ∈ rs, r.length ≤ t.size := by
  intro n
  induction n using Nat.strongRecOn with
  | _ n ih =>
    intro t htn ht
    have hct := ch_length t
    by_cases h0 : t.size = 0
    · refine ⟨[[]], Ev.succ ?_, ?_, by simp⟩
      · simp only [spec_dcReadings.f]
        have : t.toList = [] := by rw [ByteArray.toList_eq]; exact List.eq_nil_of_length_eq_zero (show (ch t).length = 0 by omega)
        exact Ev.pos this (Ev.now _)
      · rw [List.eq_nil_of_length_eq_zero (show (ch t).length = 0 by omega), cnt_nil]; rfl
    · have hne0 : ch t ≠ [] := fun e => by rw [e] at hct; simp at hct; omega
      have loop : ∀ (d i : Nat), i + d = l.length → ∃ rs : List (List Int), Ev (fun k => spec_dcReadings.l0 k l t 1 [] l (l.length : Int) (i : Int)) rs ∧ (rs.length = if (((l.map ch).drop i).map (term (l.map ch) (ch t))).sum = 0 then 0 else 1) ∧ ∀ r ∈ rs, r.length ≤ t.size := by
        intro d
        induction d with
        | zero =>
          intro i hd
          refine ⟨[], Ev.succ ?_, ?_, by simp⟩
          · simp only [spec_dcReadings.l0]; exact Ev.neg (by omega) (Ev.now _)
          · rw [List.drop_of_length_le (by simp; omega)]; rfl
        | succ d ihd =>
          intro i hd
          have h1 : i < l.length := by omega
          have h1' : i < (l.map ch).length := by simp; omega
          obtain ⟨rs, hrs, hlen, hbd⟩ := ihd (i + 1) (by omega)
          have hw := hne _ (List.getElem_mem h1)
          have hb := wdBegins_eq t l[i]
          have hskip : Ev (fun k => spec_dcReadings.j1 k l t 1 [] (i : Int) l[i] l (l.length : Int) (i : Int) true) rs := by
            refine Ev.succ ?_
            simp only [spec_dcReadings.j1, w1 (show 0 ≤ (i : Int) by omega) (show (i : Int) < 9223372036854775807 by omega)]
            exact Ev.pos (by simp) hrs
          rw [List.drop_eq_getElem_cons h1', List.map_cons, List.sum_cons]
          by_cases hp : (ch l[i]).isPrefixOf (ch t) = true
          · have hle := (List.isPrefixOf_iff_prefix.1 hp).length_le
            rw [ch_length, ch_length] at hle
            have hterm : term (l.map ch) (ch t) (l.map ch)[i] = cnt (l.map ch) ((ch t).drop l[i].size) := by
              unfold term
              rw [List.getElem_map, if_pos ⟨fun e => by have := ch_length l[i]; rw [e] at this; simp at this; omega, hp⟩, ch_length]
            have hdc := dcCount_ev l (t.extract l[i].size t.size) (by omega) hne (by simp; omega)
            rw [ch_drop, ← hterm] at hdc
            have hbd2 : term (l.map ch) (ch t) (l.map ch)[i] ≤ 200 ^ 8 := by
              rw [hterm]
              refine Nat.le_trans (cnt_le _ 200 (by simp; omega) (by omega) _ _ rfl) (Nat.pow_le_pow_right (by omega) ?_)
              simp only [List.length_drop, ch_length]; omega
            by_cases hz : term (l.map ch) (ch t) (l.map ch)[i] = 0
            · refine ⟨rs, Ev.succ ?_, ?_, hbd⟩
              · simp only [spec_dcReadings.l0, rdOf_nat l i h1]
                refine Ev.pos (by omega) (Ev.pos (by omega) (Ev.pos (by omega) (Ev.known (fun _ => hb) (Ev.pos hp (Ev.pos (by omega) (Ev.pos (by omega) (Ev.bind hdc ?_)))))))
                rw [hz, show (wrap64 ((0 : Nat) : Int) == 0) = true from by rw [show ((0 : Nat) : Int) = 0 from rfl, wrap_zero]; rfl]
                exact hskip
              · rw [hz, Nat.zero_add]; exact hlen
            · have hsz : (t.extract l[i].size t.size).size = t.size - l[i].size := by simp
              obtain ⟨us, hus, hul, hub⟩ := ih (t.size - l[i].size) (by omega) (t.extract l[i].size t.size) hsz (by omega)
              rw [ch_drop, ← hterm, if_neg hz] at hul
              obtain ⟨u, rfl⟩ : ∃ u, us = [u] := by
                match us, hul with
                | [u], _ => exact ⟨u, rfl⟩
              have hu := hub u (by simp)
              have hrd : rd_L3 [u] 0 = u := rfl
              refine ⟨[[(i : Int)] ++ u], Ev.succ ?_, by rw [if_neg (by omega)]; rfl, by simp; omega⟩
              simp only [spec_dcReadings.l0, rdOf_nat l i h1]
              refine Ev.pos (by omega) (Ev.pos (by omega) (Ev.pos (by omega) (Ev.known (fun _ => hb) (Ev.pos hp (Ev.pos (by omega) (Ev.pos (by omega) (Ev.bind hdc ?_)))))))
              rw [w64 (by omega) (by omega), show (((term (l.map ch) (ch t) (l.map ch)[i] : Nat) : Int) == 0) = false from by rw [beq_eq_false_iff_ne]; omega]
              refine Ev.succ ?_
              simp only [spec_dcReadings.j1, show wrap64 (1 - (([] : List (List Int)).length : Int)) = 1 from by unfold wrap64; simp]
              refine Ev.neg (by simp) (Ev.pos (by omega) (Ev.pos (by omega) (Ev.bind hus ?_)))
              refine Ev.succ ?_
              simp only [spec_dcReadings.l1, hrd]
              refine Ev.pos (by simp) (Ev.pos (by omega) (Ev.pos (by simp) (Ev.pos (by simp) (Ev.known (fun _ => rfl) (Ev.pos (by simp; omega) (Ev.pos (by simp) ?_))))))
              refine Ev.succ ?_
              simp only [spec_dcReadings.l1, show wrap64 (0 + 1) = 1 from by unfold wrap64; omega]
              exact Ev.neg (by simp) (Ev.pos (by simp) (Ev.pure (by simp)))
          · have hterm : term (l.map ch) (ch t) (l.map ch)[i] = 0 := by
              unfold term
              rw [List.getElem_map, if_neg (fun hh => hp hh.2)]
            refine ⟨rs, Ev.succ ?_, by rw [hterm, Nat.zero_add]; exact hlen, hbd⟩
            simp only [spec_dcReadings.l0, rdOf_nat l i h1]
            exact Ev.pos (by omega) (Ev.pos (by omega) (Ev.pos (by omega) (Ev.known (fun _ => hb) (Ev.neg hp hskip))))
      obtain ⟨rs, hrs, hlen, hbd⟩ := loop l.length 0 (by omega)
      refine ⟨rs, Ev.succ ?_, ?_, hbd⟩
      · simp only [spec_dcReadings.f]
        have : ¬ t.toList = [] := by rw [ByteArray.toList_eq]; exact hne0
        exact Ev.neg this hrs
      · rw [cnt_ne _ _ hne0]; exact hlen

theorem sum_at (f : List UInt8 → Nat) (W : List (List UInt8)) (i : Nat) (h : i < W.length) : (W.map f).sum = ((W.take i ++ W.drop (i + 1)).map f).sum + f W[i] := by
  have e : W = W.take i ++ (W[i] :: W.drop (i + 1)) := by rw [← List.drop_eq_getElem_cons h, List.take_append_drop]
  have e2 : (W.map f).sum = ((W.take i ++ (W[i] :: W.drop (i + 1))).map f).sum := by rw [← e]
  rw [e2, List.map_append, List.map_append, List.sum_append, List.sum_append, List.map_cons, List.sum_cons]; omega
theorem cnt_others_short (W : List (List UInt8)) (i : Nat) (h : i < W.length) : ∀ (n : Nat) (s : List UInt8), s.length = n → s.length < W[i].length → cnt W s = cnt (W.take i ++ W.drop (i + 1)) s := by
  intro n
  induction n using Nat.strongRecOn with
  | _ n ih =>
    intro s hs hl
    by_cases h0 : s = []
    · subst h0; rw [cnt_nil, cnt_nil]
    · have hn : 0 < s.length := List.length_pos_iff.2 h0
      rw [cnt_ne _ _ h0, cnt_ne _ _ h0, sum_at _ W i h]
      have e1 : term W s W[i] = 0 := by
        unfold term
        rw [if_neg]
        rintro ⟨_, hp⟩
        have := (List.isPrefixOf_iff_prefix.1 hp).length_le
        omega
      rw [e1, Nat.add_zero]
      congr 1
      apply List.map_congr_left
      intro v _
      unfold term
      by_cases hv : v ≠ [] ∧ v.isPrefixOf s = true
      · rw [if_pos hv, if_pos hv]
        have := List.length_pos_iff.2 hv.1
        exact ih _ (by simp only [List.length_drop]; omega) _ rfl (by simp only [List.length_drop]; omega)
      · rw [if_neg hv, if_neg hv]
theorem cnt_others (W : List (List UInt8)) (i : Nat) (h : i < W.length) (hw : W[i] ≠ []) (hd : ∀ v ∈ W.take i ++ W.drop (i + 1), v ≠ W[i]) : cnt W W[i] = cnt (W.take i ++ W.drop (i + 1)) W[i] + 1 := by
  rw [cnt_ne _ _ hw, cnt_ne _ _ hw, sum_at _ W i h]
  have e1 : term W W[i] W[i] = 1 := by
    unfold term
    rw [if_pos ⟨hw, List.isPrefixOf_iff_prefix.2 (List.prefix_refl _)⟩, List.drop_of_length_le (Nat.le_refl _), cnt_nil]
  rw [e1]
  congr 2
  apply List.map_congr_left
  intro v hm
  unfold term
  by_cases hv : v ≠ [] ∧ v.isPrefixOf W[i] = true
  · rw [if_pos hv, if_pos hv]
    have h1 := List.length_pos_iff.2 hv.1
    have h2 := List.length_pos_iff.2 hw
    exact cnt_others_short W i h _ _ rfl (by simp only [List.length_drop]; omega)
  · rw [if_neg hv, if_neg hv]

/-- a loop from the first place to the last one, with what is so at each place -/
theorem Ev.loop {R : Type} (g : Nat → Nat → Option R) (n : Nat) (r : R) (hstep : ∀ i, i < n → Ev (g (i + 1)) r → Ev (g i) r) (hend : Ev (g n) r) : Ev (g 0) r := by
  have h : ∀ d i, i + d = n → Ev (g i) r := by
    intro d
    induction d with
    | zero => intro i hi; rw [show i = n by omega]; exact hend
    | succ d ih => intro i hi; exact hstep i (by omega) (ih (i + 1) (by omega))
  exact h n 0 (by omega)

/-- a text out of its letters -/
def bx (x : List UInt8) : ByteArray := ⟨x.toArray⟩
theorem ch_bx (x : List UInt8) : ch (bx x) = x := by simp [ch, bx]
theorem bx_ch (s : ByteArray) : bx (ch s) = s := by simp [ch, bx]
theorem ch_inj' {a b : ByteArray} (h : ch a = ch b) : a = b := ByteArray.ext (Array.toList_inj.1 h)
theorem map_ch_bx (l : List (List UInt8)) : (l.map bx).map ch = l := by simp [Function.comp_def, ch_bx]
theorem map_bx_ch (l : List ByteArray) : (l.map ch).map bx = l := by simp [Function.comp_def, bx_ch]
theorem bx_size (x : List UInt8) : (bx x).size = x.length := by rw [← ch_length, ch_bx]
/-- words in order, each once, as texts -/
def bas (M : List (List UInt8)) : List ByteArray := (ordL M).map bx
theorem ordL_congr {M N : List (List UInt8)} (h : ∀ x, x ∈ M ↔ x ∈ N) : ordL M = ordL N := rises_unique _ _ (ordL_rises M) (ordL_rises N) (fun x => by rw [mem_ordL, mem_ordL]; exact h x)
theorem bas_congr {M N : List (List UInt8)} (h : ∀ x, x ∈ M ↔ x ∈ N) : bas M = bas N := by unfold bas; rw [ordL_congr h]
theorem ch_bas (M : List (List UInt8)) : (bas M).map ch = ordL M := map_ch_bx _
theorem bas_of (r : List ByteArray) (M : List (List UInt8)) (hr : (r.map ch).Pairwise fun x y => wcmp x y < 0) (hm : ∀ x, x ∈ r.map ch ↔ x ∈ M) : r = bas M := by
  unfold bas
  rw [← rises_unique (r.map ch) (ordL M) hr (ordL_rises M) (fun x => by rw [hm, mem_ordL]), map_bx_ch]
theorem ordL_len (M : List (List UInt8)) : (ordL M).length ≤ M.length := by
  unfold ordL Lib.compact Lib.compactUpTo
  rw [List.length_map]
  refine Nat.le_trans (List.length_filter_le _ _) ?_
  rw [List.length_range, (sortW_perm M).length_eq]
  exact Nat.le_refl _
theorem bas_len (M : List (List UInt8)) : (bas M).length ≤ M.length := by unfold bas; rw [List.length_map]; exact ordL_len M
theorem ordL_ordL (M : List (List UInt8)) : ordL (ordL M) = ordL M := ordL_congr (fun x => mem_ordL M x)
theorem bas_nil : bas [] = [] := (bas_of [] [] (by simp) (by simp)).symm
theorem bas_one (x : List UInt8) : bas [x] = [bx x] := by
  symm
  exact bas_of _ _ (by simp) (by intro y; simp [ch_bx])
theorem ordL_nodup (M : List (List UInt8)) : (ordL M).Nodup := (ordL_rises M).imp fun {a b} h e => by rw [e, wcmp_self] at h; omega
theorem wless_wcmp (a b : ByteArray) : wless a b = decide (wcmp (ch a) (ch b) < 0) := by
  unfold wless wcmp
  rw [ch_length, ch_length, bytesLess_cmp]
  by_cases h1 : a.size < b.size
  · simp [h1]
  · by_cases h2 : b.size < a.size
    · simp [h1, h2, show ¬ a.size = b.size by omega]
    · simp [h1, show a.size = b.size by omega]
theorem ordered_eq (l : List ByteArray) (h : l.length ≤ 8796093021952) : impl_ordered.f l = some (bas (l.map ch)) := by
  unfold impl_ordered.f
  rw [if_pos h]; rfl

theorem wdPut_l0 (L : List ByteArray) (s : ByteArray) (hL : L.length ≤ 8796093000000) (hr : (L.map ch).Pairwise fun x y => wcmp x y < 0) : ∀ (d i : Nat), i + d = L.length → (∀ j (h : j < L.length), j < i → wcmp (ch L[j]) (ch s) < 0) → ∃ r, Ev (fun k => spec_wdPut.l0 k L s (i : Int)) r ∧ (r.map ch).Pairwise (fun x y => wcmp x y < 0) ∧ ∀ x, x ∈ r.map ch ↔ x ∈ L.map ch ++ [ch s] := by
  have fin : ∀ i, i ≤ L.length → (∀ j (h : j < L.length), j < i → wcmp (ch L[j]) (ch s) < 0) → (∀ j (h : j < L.length), i ≤ j → wcmp (ch s) (ch L[j]) < 0) → ((L.take i ++ [s] ++ L.drop i).map ch).Pairwise (fun x y => wcmp x y < 0) ∧ ∀ x, x ∈ (L.take i ++ [s] ++ L.drop i).map ch ↔ x ∈ L.map ch ++ [ch s] := by
    intro i hi h1 h2
    refine ⟨?_, fun x => ?_⟩
    · rw [List.map_append, List.map_append, List.map_cons, List.map_nil, List.pairwise_append, List.pairwise_append]
      refine ⟨⟨?_, by simp, ?_⟩, ?_, ?_⟩
      · rw [List.map_take]; exact hr.sublist (List.take_sublist _ _)
      · intro a ha b hb
        rw [List.mem_singleton] at hb
        subst hb
        obtain ⟨y, hy, rfl⟩ := List.mem_map.1 ha
        obtain ⟨j, hj, rfl⟩ := List.getElem_of_mem hy
        rw [List.length_take] at hj
        rw [List.getElem_take]
        exact h1 j (by omega) (by omega)
      · rw [List.map_drop]; exact hr.sublist (List.drop_sublist _ _)
      · intro a ha b hb
        obtain ⟨y, hy, rfl⟩ := List.mem_map.1 hb
        obtain ⟨j, hj, rfl⟩ := List.getElem_of_mem hy
        rw [List.length_drop] at hj
        rw [List.getElem_drop]
        have hb' := h2 (i + j) (by omega) (by omega)
        rcases List.mem_append.1 ha with ha | ha
        · obtain ⟨y, hy, rfl⟩ := List.mem_map.1 ha
          obtain ⟨j', hj', rfl⟩ := List.getElem_of_mem hy
          rw [List.length_take] at hj'
          rw [List.getElem_take]
          exact wcmp_trans _ _ _ (h1 j' (by omega) (by omega)) hb'
        · rw [List.mem_singleton] at ha
          subst ha
          exact hb'
    · have := List.take_append_drop i L
      constructor
      · intro hx
        obtain ⟨y, hy, rfl⟩ := List.mem_map.1 hx
        rcases List.mem_append.1 hy with hy | hy
        · rcases List.mem_append.1 hy with hy | hy
          · exact List.mem_append_left _ (List.mem_map.2 ⟨y, List.mem_of_mem_take hy, rfl⟩)
          · rw [List.mem_singleton] at hy; subst hy; exact List.mem_append_right _ (by simp)
        · exact List.mem_append_left _ (List.mem_map.2 ⟨y, List.mem_of_mem_drop hy, rfl⟩)
      · intro hx
        rcases List.mem_append.1 hx with hx | hx
        · obtain ⟨y, hy, rfl⟩ := List.mem_map.1 hx
          refine List.mem_map.2 ⟨y, ?_, rfl⟩
          rw [← this] at hy
          rcases List.mem_append.1 hy with hy | hy
          · exact List.mem_append_left _ (List.mem_append_left _ hy)
          · exact List.mem_append_right _ hy
        · rw [List.mem_singleton] at hx; subst hx
          exact List.mem_map.2 ⟨s, List.mem_append_left _ (List.mem_append_right _ (by simp)), rfl⟩
  intro d
  induction d with
  | zero =>
    intro i hd h1
    obtain ⟨p, q⟩ := fin i (by omega) h1 (fun j hj h => by omega)
    refine ⟨_, Ev.succ ?_, p, q⟩
    simp only [spec_wdPut.l0, Int.toNat_natCast, Option.bind_some]
    exact Ev.neg (by omega) (Ev.pos (by omega) (Ev.pos (by omega) (Ev.pos (by simp; omega) (Ev.pos (by simp; omega) (Ev.pos (by simp; omega) (Ev.pure (by simp)))))))
  | succ d ih =>
    intro i hd h1
    have hi : i < L.length := by omega
    have hw := wless_wcmp L[i] s
    by_cases hl : wcmp (ch L[i]) (ch s) < 0
    · obtain ⟨r, r1, r2, r3⟩ := ih (i + 1) (by omega) (fun j hj h => by
        by_cases e : j = i
        · subst e; exact hl
        · exact h1 j hj (by omega))
      refine ⟨r, Ev.succ ?_, r2, r3⟩
      simp only [spec_wdPut.l0, rdOf_nat L i hi, w1 (show 0 ≤ (i : Int) by omega) (show (i : Int) < 9223372036854775807 by omega)]
      exact Ev.pos (by omega) (Ev.pos (by omega) (Ev.known (fun _ => wdLess_eq _ _) (Ev.pos (by rw [hw]; simpa using hl) r1)))
    · by_cases he : ch L[i] = ch s
      · refine ⟨L, Ev.succ ?_, hr, fun x => ?_⟩
        · simp only [spec_wdPut.l0, rdOf_nat L i hi, toList_ch]
          exact Ev.pos (by omega) (Ev.pos (by omega) (Ev.known (fun _ => wdLess_eq _ _) (Ev.neg (by rw [hw]; simpa using hl) (Ev.pos he (Ev.now _)))))
        · rw [List.mem_append, List.mem_singleton]
          constructor
          · exact Or.inl
          · rintro (h | rfl)
            · exact h
            · exact List.mem_map.2 ⟨L[i], List.getElem_mem hi, he⟩
      · have hgt : wcmp (ch s) (ch L[i]) < 0 := by
          have := wcmp_anti (ch L[i]) (ch s)
          have h0 : wcmp (ch L[i]) (ch s) ≠ 0 := fun h => he (wcmp_zero _ _ h)
          omega
        obtain ⟨p, q⟩ := fin i (by omega) h1 (fun j hj h => by
          by_cases e : j = i
          · subst e; exact hgt
          · have := List.pairwise_iff_getElem.1 hr i j (by simpa using hi) (by simpa using hj) (by omega)
            rw [List.getElem_map, List.getElem_map] at this
            exact wcmp_trans _ _ _ hgt this)
        refine ⟨_, Ev.succ ?_, p, q⟩
        simp only [spec_wdPut.l0, rdOf_nat L i hi, toList_ch, Int.toNat_natCast, Option.bind_some]
        exact Ev.pos (by omega) (Ev.pos (by omega) (Ev.known (fun _ => wdLess_eq _ _) (Ev.neg (by rw [hw]; simpa using hl) (Ev.neg he (Ev.pos (by omega) (Ev.pos (by simp; omega) (Ev.pos (by simp; omega) (Ev.pos (by simp; omega) (Ev.pure (by simp))))))))))
theorem wdPut_ev (M : List (List UInt8)) (s : ByteArray) (hM : M.length ≤ 8796093000000) : Ev (fun k => spec_wdPut.f k (bas M) s) (bas (M ++ [ch s])) := by
  have hl := bas_len M
  obtain ⟨r, r1, r2, r3⟩ := wdPut_l0 (bas M) s (by omega) (by rw [ch_bas]; exact ordL_rises M) (bas M).length 0 (by omega) (fun j _ h => by omega)
  rw [← bas_of r (M ++ [ch s]) r2 (fun x => by rw [r3, ch_bas, List.mem_append, List.mem_append, mem_ordL])]
  exact r1

theorem wdHas_l0 (l : List ByteArray) (s : ByteArray) (hl : l.length ≤ 1048576) : ∀ (d i : Nat), i + d = l.length → Ev (fun k => spec_wdHas.l0 k s l (l.length : Int) (i : Int)) (((l.drop i).map ch).contains (ch s))
  | 0, i, hd => by
    refine Ev.succ ?_
    simp only [spec_wdHas.l0]
    exact Ev.neg (by omega) (Ev.pure (by rw [List.drop_of_length_le (by omega)]; rfl))
  | d + 1, i, hd => by
    have h1 : i < l.length := by omega
    have ih := wdHas_l0 l s hl d (i + 1) (by omega)
    rw [List.drop_eq_getElem_cons h1, List.map_cons, List.contains_cons]
    refine Ev.succ ?_
    simp only [spec_wdHas.l0, rdOf_nat l i h1, toList_ch, w1 (show 0 ≤ (i : Int) by omega) (show (i : Int) < 9223372036854775807 by omega)]
    refine Ev.pos (by omega) (Ev.pos (by omega) (Ev.pos (by omega) (Ev.cases (fun h => ?_) (fun h => ?_))))
    · rw [h]; simp only [BEq.rfl, Bool.true_or]; exact Ev.now _
    · rw [show (ch s == ch l[i]) = false by rw [beq_eq_false_iff_ne]; exact h, Bool.false_or]; exact ih
theorem wdHas_ev (l : List ByteArray) (s : ByteArray) (hl : l.length ≤ 1048576) : Ev (fun k => spec_wdHas.f k l s) ((l.map ch).contains (ch s)) := by
  have := wdHas_l0 l s hl l.length 0 (by omega)
  simpa [spec_wdHas.f] using this

theorem nodupLe {α : Type} [DecidableEq α] : ∀ (M N : List α), M.Nodup → M ⊆ N → M.length ≤ N.length
  | [], _, _, _ => Nat.zero_le _
  | x :: M, N, hn, hs => by
    have hx : x ∈ N := hs (by simp)
    have hn' := List.nodup_cons.1 hn
    have := nodupLe M (N.erase x) hn'.2 (fun y hy => (List.mem_erase_of_ne (by rintro rfl; exact hn'.1 hy)).2 (hs (by simp [hy])))
    have h1 := List.length_erase_of_mem hx
    have h2 := List.length_pos_of_mem hx
    simp only [List.length_cons]
    omega

/-- a word that some words write -/
def Wr (S : List (List UInt8)) (x : List UInt8) : Prop := ∃ ps : List (List UInt8), (∀ p, p ∈ ps → p ∈ S) ∧ x = ps.flatten
theorem Wr.nil (S : List (List UInt8)) : Wr S [] := ⟨[], by simp, rfl⟩
theorem Wr.snoc {S : List (List UInt8)} {x t : List UInt8} (h : Wr S x) (ht : t ∈ S) : Wr S (x ++ t) := by
  obtain ⟨ps, h1, rfl⟩ := h
  refine ⟨ps ++ [t], fun p hp => ?_, by simp⟩
  rcases List.mem_append.1 hp with hp | hp
  · exact h1 p hp
  · rw [List.mem_singleton] at hp; exact hp ▸ ht
theorem Wr.closed {S M : List (List UInt8)} {n : Nat} (h0 : [] ∈ M) (hc : ∀ x, x ∈ M → ∀ t, t ∈ S → x.length + t.length ≤ n → x ++ t ∈ M) : ∀ x, Wr S x → x.length ≤ n → x ∈ M := by
  have h : ∀ (ps : List (List UInt8)), (∀ p, p ∈ ps → p ∈ S) → ∀ x0, x0 ∈ M → (x0 ++ ps.flatten).length ≤ n → x0 ++ ps.flatten ∈ M := by
    intro ps
    induction ps with
    | nil => intro _ x0 h _; simpa using h
    | cons p ps ih =>
      intro hp x0 hx hl
      rw [List.flatten_cons, ← List.append_assoc] at hl ⊢
      refine ih (fun q hq => hp q (List.mem_cons_of_mem _ hq)) (x0 ++ p) (hc x0 hx p (hp p (by simp)) ?_) hl
      simp only [List.length_append] at hl
      omega
  rintro x ⟨ps, hps, rfl⟩ hl
  simpa using h ps hps [] h0 (by simpa using hl)
theorem ch_app (s t : ByteArray) : ch (s ++ t) = ch s ++ ch t := by simp [ch]
theorem hasS_iff (out : List ByteArray) (s : ByteArray) : hasS out s = true ↔ ch s ∈ out.map ch := by
  unfold hasS
  simp only [List.any_eq_true, beq_iff_eq, toList_ch, List.mem_map]
  exact exists_congr fun y => and_congr_right fun _ => eq_comm
theorem wrNext_mem (l : List ByteArray) (n : Nat) (now : List ByteArray) (x : List UInt8) : x ∈ (wrNext l (n : Int) now).map ch ↔ ∃ a, a ∈ now.map ch ∧ ∃ t, t ∈ l.map ch ∧ a.length + t.length ≤ n ∧ x = a ++ t := by
  unfold wrNext wrOf
  simp only [List.mem_map, List.mem_flatMap, List.mem_filter, decide_eq_true_eq]
  constructor
  · rintro ⟨y, ⟨s, hs, t, ⟨ht, hl⟩, rfl⟩, rfl⟩
    exact ⟨ch s, ⟨s, hs, rfl⟩, ch t, ⟨t, ht, rfl⟩, by rw [ch_length, ch_length]; omega, ch_app s t⟩
  · rintro ⟨_, ⟨s, hs, rfl⟩, _, ⟨t, ht, rfl⟩, hl, rfl⟩
    rw [ch_length, ch_length] at hl
    exact ⟨s ++ t, ⟨s, hs, t, ⟨ht, by omega⟩, rfl⟩, ch_app s t⟩
theorem pow9 (d : Nat) (h : d ≤ 9) : 12 ^ d ≤ 5159780352 := Nat.le_trans (Nat.pow_le_pow_right (by omega) h) (by decide)
theorem pow12 (d : Nat) (h : d ≤ 11) : 12 ^ d ≤ 743008370688 := Nat.le_trans (Nat.pow_le_pow_right (by omega) h) (by decide)
/-- what the program's search holds at its round d -/
structure WrInv (l : List ByteArray) (n d : Nat) (now out : List ByteArray) : Prop where
  nl : now.length ≤ 12 ^ d
  ol : out.length ≤ 12 ^ (d + 1)
  nw : ∀ x, x ∈ now.map ch → Wr (l.map ch) x ∧ d ≤ x.length ∧ x.length ≤ n
  ow : ∀ x, x ∈ out.map ch → Wr (l.map ch) x ∧ 1 ≤ x.length ∧ x.length ≤ n
  cl : ∀ x, (x = [] ∨ x ∈ out.map ch) → x ∈ now.map ch ∨ ∀ t, t ∈ l.map ch → x.length + t.length ≤ n → x ++ t ∈ out.map ch
theorem written_run (l : List ByteArray) (n : Nat) (hn : n ≤ 8) (hl : l.length ≤ 12) (h1 : ∀ w ∈ l, 1 ≤ w.size) (h8 : ∀ w ∈ l, w.size ≤ 8) : ∀ (e d : Nat) (now out : List ByteArray), e + d = 9 → WrInv l n d now out →
    ∃ M : List (List UInt8), Ev (fun k => impl_written.l0 k l (n : Int) now out) (bas M) ∧ M.length ≤ 12 ^ 10 ∧ ∀ x, x ∈ M ↔ Wr (l.map ch) x ∧ 1 ≤ x.length ∧ x.length ≤ n := by
  have done : ∀ (d : Nat) (now out : List ByteArray), d ≤ 9 → WrInv l n d now out → now.length = 0 → ∃ M : List (List UInt8), Ev (fun k => impl_written.l0 k l (n : Int) now out) (bas M) ∧ M.length ≤ 12 ^ 10 ∧ ∀ x, x ∈ M ↔ Wr (l.map ch) x ∧ 1 ≤ x.length ∧ x.length ≤ n := by
    intro d now out hd hI h0
    have hp := Nat.pow_le_pow_right (show 0 < 12 by omega) (show d + 1 ≤ 10 by omega)
    have hol := hI.ol
    have hp10 := pow12 10 (by omega)
    refine ⟨out.map ch, Ev.succ ?_, by rw [List.length_map]; omega, fun x => ⟨hI.ow x, fun ⟨hw, hx1, hx2⟩ => ?_⟩⟩
    · simp only [impl_written.l0, ordered_eq out (show out.length ≤ 8796093021952 by omega)]
      exact Ev.pos h0 (Ev.now _)
    · have hnil : now = [] := List.eq_nil_of_length_eq_zero h0
      have := Wr.closed (S := l.map ch) (M := [] :: out.map ch) (n := n) (by simp) (fun y hy t ht hyt => by
        rcases hI.cl y (by simpa using hy) with h | h
        · rw [hnil] at h; simp at h
        · exact List.mem_cons_of_mem _ (h t ht hyt)) x hw hx2
      rcases List.mem_cons.1 this with rfl | h
      · simp at hx1
      · exact h
  intro e
  induction e with
  | zero =>
    intro d now out hed hI
    refine done d now out (by omega) hI ?_
    rcases now with _ | ⟨s, now⟩
    · rfl
    · have := hI.nw (ch s) (by simp)
      omega
  | succ e ih =>
    intro d now out hed hI
    by_cases h0 : now.length = 0
    · exact done d now out (by omega) hI h0
    · have hp0 := pow9 (d + 1) (by omega)
      have hp1 : 12 ^ (d + 1) = 12 ^ d * 12 := Nat.pow_succ ..
      have hp2 : 12 ^ (d + 1 + 1) = 12 ^ (d + 1) * 12 := Nat.pow_succ ..
      have hnl := hI.nl
      have hol := hI.ol
      have hmul : now.length * l.length ≤ 12 ^ d * 12 := Nat.mul_le_mul hnl hl
      have hfit : wrFits l now = true := by
        unfold wrFits
        simp only [Bool.and_eq_true, decide_eq_true_eq, List.all_eq_true]
        refine ⟨⟨by omega, fun s hs => ?_⟩, fun s hs => by have := h8 s hs; omega⟩
        have := (hI.nw (ch s) (List.mem_map.2 ⟨s, hs, rfl⟩)).2.2
        rw [ch_length] at this
        omega
      have hnx := wrNext_len l (n : Int) now
      have hord := ordered_eq (wrNext l (n : Int) now) (by omega)
      obtain ⟨t, ht⟩ : ∃ t, t = bas ((wrNext l (n : Int) now).map ch) := ⟨_, rfl⟩
      have htl : t.length ≤ 12 ^ (d + 1) := by
        have := bas_len ((wrNext l (n : Int) now).map ch)
        rw [List.length_map] at this
        rw [ht]; omega
      have hfl : (t.filter fun s => !hasS out s).length ≤ t.length := List.length_filter_le _ _
      have hfm : ∀ x, x ∈ (t.filter fun s => !hasS out s).map ch ↔ x ∈ (wrNext l (n : Int) now).map ch ∧ ¬ x ∈ out.map ch := by
        intro x
        have hmt : ∀ x, x ∈ t.map ch ↔ x ∈ (wrNext l (n : Int) now).map ch := fun x => by rw [ht, ch_bas, mem_ordL]
        rw [← hmt]
        constructor
        · intro hx
          obtain ⟨s, hs, rfl⟩ := List.mem_map.1 hx
          obtain ⟨hs1, hs2⟩ := List.mem_filter.1 hs
          refine ⟨List.mem_map.2 ⟨s, hs1, rfl⟩, fun hin => ?_⟩
          rw [(hasS_iff out s).2 hin] at hs2
          cases hs2
        · rintro ⟨hx, hno⟩
          obtain ⟨s, hs, rfl⟩ := List.mem_map.1 hx
          refine List.mem_map.2 ⟨s, List.mem_filter.2 ⟨hs, ?_⟩, rfl⟩
          cases hh : hasS out s with
          | false => rfl
          | true => exact absurd ((hasS_iff out s).1 hh) hno
      obtain ⟨M, m1, m2, m3⟩ := ih (d + 1) (t.filter fun s => !hasS out s) (out ++ t.filter fun s => !hasS out s) (by omega) (by
        refine ⟨by omega, by rw [List.length_append]; omega, fun x hx => ?_, fun x hx => ?_, fun x hx => ?_⟩
        · obtain ⟨a, ha, t, ht, hat, rfl⟩ := (wrNext_mem l n now x).1 ((hfm x).1 hx).1
          have hh := hI.nw a ha
          have ht1 : 1 ≤ t.length := by obtain ⟨w, hw, rfl⟩ := List.mem_map.1 ht; rw [ch_length]; exact h1 w hw
          exact ⟨hh.1.snoc ht, by rw [List.length_append]; omega, by rw [List.length_append]; omega⟩
        · rw [List.map_append, List.mem_append] at hx
          rcases hx with hx | hx
          · exact hI.ow x hx
          · obtain ⟨a, ha, t, ht, hat, rfl⟩ := (wrNext_mem l n now x).1 ((hfm x).1 hx).1
            have hh := hI.nw a ha
            have ht1 : 1 ≤ t.length := by obtain ⟨w, hw, rfl⟩ := List.mem_map.1 ht; rw [ch_length]; exact h1 w hw
            exact ⟨hh.1.snoc ht, by rw [List.length_append]; omega, by rw [List.length_append]; omega⟩
        · rw [List.map_append, List.mem_append] at hx
          have old : (x = [] ∨ x ∈ out.map ch) → x ∈ (t.filter fun s => !hasS out s).map ch ∨ ∀ u, u ∈ l.map ch → x.length + u.length ≤ n → x ++ u ∈ (out ++ t.filter fun s => !hasS out s).map ch := by
            intro hx
            right
            intro u hu hxu
            rw [List.map_append, List.mem_append]
            rcases hI.cl x hx with h | h
            · by_cases hin : x ++ u ∈ out.map ch
              · exact Or.inl hin
              · exact Or.inr ((hfm _).2 ⟨(wrNext_mem l n now _).2 ⟨x, h, u, hu, hxu, rfl⟩, hin⟩)
            · exact Or.inl (h u hu hxu)
          rcases hx with hx | hx | hx
          · exact old (Or.inl hx)
          · exact old (Or.inr hx)
          · exact Or.inl hx)
      refine ⟨M, Ev.succ ?_, m2, m3⟩
      simp only [impl_written.l0, hord, Option.bind_some]
      rw [← ht]
      exact Ev.neg h0 (Ev.pos hfit (Ev.pos (by omega) m1))
theorem written_impl (l : List ByteArray) (n : Nat) (hn : n ≤ 8) (hl : l.length ≤ 12) (h1 : ∀ w ∈ l, 1 ≤ w.size) (h8 : ∀ w ∈ l, w.size ≤ 8) :
    ∃ M : List (List UInt8), Ev (fun k => impl_written.f k l (n : Int)) (bas M) ∧ M.length ≤ 12 ^ 10 ∧ ∀ x, x ∈ M ↔ Wr (l.map ch) x ∧ 1 ≤ x.length ∧ x.length ≤ n := by
  unfold impl_written.f
  refine written_run l n hn hl h1 h8 9 0 [⟨#[]⟩] [] rfl ⟨by simp, by simp, fun x hx => ?_, by simp, fun x hx => ?_⟩
  · have : x = [] := by simpa [ch] using hx
    subst this
    exact ⟨Wr.nil _, by simp, by simp⟩
  · rcases hx with rfl | hx
    · exact Or.inl (by simp [ch])
    · simp at hx
/-- one word more, behind the place k -/
theorem ordL_insert (M : List (List UInt8)) (y : List UInt8) (k : Nat) (hk : k < (ordL M).length) (hy : wcmp (ordL M)[k] y < 0) : ∀ j, j ≤ k → (ordL (M ++ [y]))[j]? = (ordL M)[j]? := by
  have hr := ordL_rises M
  have hlt : ∀ z, z ∈ (ordL M).take (k + 1) → wcmp z y < 0 := fun z hz => by
    obtain ⟨j, hj, rfl⟩ := List.getElem_of_mem hz
    rw [List.length_take] at hj
    rw [List.getElem_take]
    by_cases e : j = k
    · subst e; exact hy
    · exact wcmp_trans _ _ _ (List.pairwise_iff_getElem.1 hr j k (by omega) hk (by omega)) hy
  have e : ordL (M ++ [y]) = (ordL M).filter (fun z => decide (wcmp z y < 0)) ++ [y] ++ (ordL M).filter (fun z => decide (wcmp y z < 0)) := by
    refine rises_unique _ _ (ordL_rises _) ?_ (fun x => ?_)
    · rw [List.pairwise_append, List.pairwise_append]
      refine ⟨⟨hr.sublist List.filter_sublist, by simp, fun a ha b hb => ?_⟩, hr.sublist List.filter_sublist, fun a ha b hb => ?_⟩
      · rw [List.mem_singleton] at hb; subst hb
        simpa using (List.mem_filter.1 ha).2
      · have hb' : wcmp y b < 0 := by simpa using (List.mem_filter.1 hb).2
        rcases List.mem_append.1 ha with ha | ha
        · have ha' : wcmp a y < 0 := by simpa using (List.mem_filter.1 ha).2
          exact wcmp_trans _ _ _ ha' hb'
        · rw [List.mem_singleton] at ha; subst ha; exact hb'
    · rw [mem_ordL, List.mem_append, List.mem_singleton]
      simp only [List.mem_append, List.mem_filter, List.mem_singleton, mem_ordL, decide_eq_true_eq]
      constructor
      · rintro (h | rfl)
        · by_cases h1 : wcmp x y < 0
          · exact Or.inl (Or.inl ⟨h, h1⟩)
          · by_cases h2 : wcmp y x < 0
            · exact Or.inr ⟨h, h2⟩
            · left; right
              have := wcmp_anti x y
              exact wcmp_zero _ _ (by omega)
        · exact Or.inl (Or.inr rfl)
      · rintro ((⟨h, _⟩ | h) | ⟨h, _⟩)
        · exact Or.inl h
        · exact Or.inr h
        · exact Or.inl h
  intro j hj
  have hf : (ordL M).filter (fun z => decide (wcmp z y < 0)) = (ordL M).take (k + 1) ++ ((ordL M).drop (k + 1)).filter (fun z => decide (wcmp z y < 0)) := by
    conv => lhs; rw [← List.take_append_drop (k + 1) (ordL M)]
    rw [List.filter_append, List.filter_eq_self.2 (fun z hz => by simpa using hlt z hz)]
  have htl : ((ordL M).take (k + 1)).length = k + 1 := by rw [List.length_take]; omega
  rw [e, hf, List.append_assoc, List.append_assoc, List.getElem?_append_left (by omega), List.getElem?_take_of_lt (by omega)]
theorem wcmp_shorter (x y : List UInt8) (h : x.length < y.length) : wcmp x y < 0 := by unfold wcmp; rw [if_pos h]; decide
/-- what the reference's search holds at the word k -/
structure WsInv (l : List ByteArray) (n k : Nat) (M : List (List UInt8)) : Prop where
  ml : M.length ≤ 1 + 12 * k
  w : ∀ x, x ∈ M → Wr (l.map ch) x ∧ x.length ≤ n
  z : [] ∈ M
  cl : ∀ j x, j < k → (ordL M)[j]? = some x → ∀ t, t ∈ l.map ch → x.length + t.length ≤ n → x ++ t ∈ M
theorem bsWritten_in (l : List ByteArray) (n k : Nat) (hn : n ≤ 8) (hl : l.length ≤ 12) (h1 : ∀ w ∈ l, 1 ≤ w.size) (h8 : ∀ w ∈ l, w.size ≤ 8) (hk : k ≤ 1000) : ∀ (e i : Nat) (M : List (List UInt8)), e + i = l.length →
    M.length ≤ 1 + 12 * k + i → (∀ x, x ∈ M → Wr (l.map ch) x ∧ x.length ≤ n) → [] ∈ M → ∀ (hkl : k < (ordL M).length),
    (∀ j x, j < k → (ordL M)[j]? = some x → ∀ t, t ∈ l.map ch → x.length + t.length ≤ n → x ++ t ∈ M) →
    (∀ t, t ∈ (l.take i).map ch → (ordL M)[k].length + t.length ≤ n → (ordL M)[k] ++ t ∈ M) →
    ∃ M1 : List (List UInt8), WsInv l n (k + 1) M1 ∧ ∀ R, Ev (fun q => if ((bas M1).length : Int) > 201 then (some (([] : List ByteArray), false)) else (spec_bsWritten.l0 q l (n : Int) (bas M1) (wrap64 ((k : Int) + 1)))) R → Ev (fun q => spec_bsWritten.l1 q l (n : Int) (bas M) (k : Int) l (l.length : Int) (i : Int)) R := by
  intro e
  induction e with
  | zero =>
    intro i M hd hml hw hz hkl hcl hci
    have hil : i = l.length := by omega
    refine ⟨M, ⟨by omega, hw, hz, fun j x hj hx => ?_⟩, fun R hfin => Ev.succ (by simp only [spec_bsWritten.l1]; exact Ev.neg (by omega) hfin)⟩
    by_cases e : j = k
    · subst e
      rw [List.getElem?_eq_getElem hkl] at hx
      have := Option.some.inj hx
      subst this
      rw [hil, List.take_of_length_le (Nat.le_refl _)] at hci
      exact hci
    · exact hcl j x (by omega) hx
  | succ e ih =>
    intro i M hd hml hw hz hkl hcl hci
    have hi : i < l.length := by omega
    have hbl : (bas M).length = (ordL M).length := by unfold bas; simp
    have hbk : (bas M)[k]'(by omega) = bx (ordL M)[k] := by simp [bas]
    have hwk := hw (ordL M)[k] ((mem_ordL M _).1 (List.getElem_mem hkl))
    have hs8 := h8 l[i] (List.getElem_mem hi)
    have hs1 := h1 l[i] (List.getElem_mem hi)
    have hsz := bx_size (ordL M)[k]
    have hti : (l.take (i + 1)).map ch = (l.take i).map ch ++ [ch l[i]] := by
      rw [List.take_add_one, List.getElem?_eq_getElem hi, List.map_append]; rfl
    have hsl := ch_length l[i]
    have ww := Aside0.mk (show wrap64 (((bx (ordL M)[k]).size : Int) + (l[i].size : Int)) = ((bx (ordL M)[k]).size : Int) + (l[i].size : Int) from w64 (by omega) (by omega))
    have wi := Aside0.mk (w1 (show 0 ≤ (i : Int) by omega) (show (i : Int) < 9223372036854775807 by omega))
    by_cases hle : (ordL M)[k].length + l[i].size ≤ n
    · have hput := wdPut_ev M (bx (ordL M)[k] ++ l[i]) (by omega)
      rw [ch_app, ch_bx] at hput
      have hgt : wcmp (ordL M)[k] ((ordL M)[k] ++ ch l[i]) < 0 := wcmp_shorter _ _ (by rw [List.length_append]; omega)
      have hins := ordL_insert M ((ordL M)[k] ++ ch l[i]) k hkl hgt
      have hkl' : k < (ordL (M ++ [(ordL M)[k] ++ ch l[i]])).length := by
        have := hins k (Nat.le_refl _)
        rw [List.getElem?_eq_getElem hkl] at this
        exact (List.getElem?_eq_some_iff.1 this).1
      have hsame : (ordL (M ++ [(ordL M)[k] ++ ch l[i]]))[k] = (ordL M)[k] := by
        have := hins k (Nat.le_refl _)
        rw [List.getElem?_eq_getElem hkl, List.getElem?_eq_getElem hkl'] at this
        exact Option.some.inj this
      obtain ⟨M1, g1, g2⟩ := ih (i + 1) (M ++ [(ordL M)[k] ++ ch l[i]]) (by omega) (by simp; omega) (fun x hx => by
          rcases List.mem_append.1 hx with hx | hx
          · exact hw x hx
          · rw [List.mem_singleton] at hx; subst hx
            exact ⟨hwk.1.snoc (List.mem_map.2 ⟨_, List.getElem_mem hi, rfl⟩), by rw [List.length_append]; omega⟩)
        (List.mem_append_left _ hz) hkl'
        (fun j x hj hx t ht hxt => List.mem_append_left _ (hcl j x hj (by rw [← hins j (by omega)]; exact hx) t ht hxt))
        (fun t ht hxt => by
          rw [hsame] at hxt ⊢
          rw [hti] at ht
          rcases List.mem_append.1 ht with ht | ht
          · exact List.mem_append_left _ (hci t ht hxt)
          · rw [List.mem_singleton] at ht; subst ht; simp)
      refine ⟨M1, g1, fun R hR => Ev.succ ?_⟩
      have hnext := g2 R hR
      simp only [spec_bsWritten.l1, rdOf_nat l i hi, rdOf_nat (bas M) k (by omega), hbk, ww.out, wi.out]
      exact Ev.pos (by omega) (Ev.pos (by omega) (Ev.pos (by omega) (Ev.pos (by omega) (Ev.pos (by omega) (Ev.pos (by omega) (Ev.pos (by omega) (Ev.bind hput hnext)))))))
    · obtain ⟨M1, g1, g2⟩ := ih (i + 1) M (by omega) (by omega) hw hz hkl hcl (fun t ht hxt => by
          rw [hti] at ht
          rcases List.mem_append.1 ht with ht | ht
          · exact hci t ht hxt
          · rw [List.mem_singleton] at ht; subst ht; omega)
      refine ⟨M1, g1, fun R hR => Ev.succ ?_⟩
      have hnext := g2 R hR
      simp only [spec_bsWritten.l1, rdOf_nat l i hi, rdOf_nat (bas M) k (by omega), hbk, ww.out, wi.out]
      exact Ev.pos (by omega) (Ev.pos (by omega) (Ev.pos (by omega) (Ev.pos (by omega) (Ev.pos (by omega) (Ev.neg (by omega) hnext)))))
theorem bsWritten_run (l : List ByteArray) (n : Nat) (hn : n ≤ 8) (hl : l.length ≤ 12) (h1 : ∀ w ∈ l, 1 ≤ w.size) (h8 : ∀ w ∈ l, w.size ≤ 8) : ∀ (e k : Nat) (M : List (List UInt8)), e + k = 202 → WsInv l n k M → (bas M).length ≤ 201 →
    ∃ (R : List ByteArray × Bool) (M' : List (List UInt8)), Ev (fun q => spec_bsWritten.l0 q l (n : Int) (bas M) (k : Int)) R ∧ (∀ x, x ∈ M' → Wr (l.map ch) x ∧ x.length ≤ n) ∧ [] ∈ M' ∧
      ((R = ((bas M').drop 1, true) ∧ (bas M').length ≤ 201 ∧ ∀ x, x ∈ M' → ∀ t, t ∈ l.map ch → x.length + t.length ≤ n → x ++ t ∈ M') ∨ (R = ([], false) ∧ 201 < (bas M').length)) := by
  have hbl : ∀ M, (bas M).length = (ordL M).length := fun M => by unfold bas; simp
  intro e
  induction e with
  | zero =>
    intro k M hd hI hml
    have h0 : 0 < (bas M).length := by rw [hbl]; exact List.length_pos_of_mem ((mem_ordL M _).2 hI.z)
    refine ⟨_, M, Ev.succ ?_, hI.w, hI.z, Or.inl ⟨rfl, hml, fun x hx => ?_⟩⟩
    · simp only [spec_bsWritten.l0]
      exact Ev.neg (by omega) (Ev.pos (by omega) (Ev.pure rfl))
    · obtain ⟨j, hj, rfl⟩ := List.getElem_of_mem ((mem_ordL M x).2 hx)
      exact hI.cl j _ (by have := hbl M; omega) (List.getElem?_eq_getElem hj)
  | succ e ih =>
    intro k M hd hI hml
    have h0 : 0 < (bas M).length := by rw [hbl]; exact List.length_pos_of_mem ((mem_ordL M _).2 hI.z)
    by_cases hk : k < (bas M).length
    · have hkl : k < (ordL M).length := by rw [← hbl]; exact hk
      have step : ∃ (R : List ByteArray × Bool) (M' : List (List UInt8)), ((∀ x, x ∈ M' → Wr (l.map ch) x ∧ x.length ≤ n) ∧ [] ∈ M' ∧
          ((R = ((bas M').drop 1, true) ∧ (bas M').length ≤ 201 ∧ ∀ x, x ∈ M' → ∀ t, t ∈ l.map ch → x.length + t.length ≤ n → x ++ t ∈ M') ∨ (R = ([], false) ∧ 201 < (bas M').length))) ∧
          Ev (fun q => spec_bsWritten.l1 q l (n : Int) (bas M) (k : Int) l (l.length : Int) ((0 : Nat) : Int)) R := by
        obtain ⟨M1, i1, i3⟩ := bsWritten_in l n k hn hl h1 h8 (by omega) l.length 0 M (by omega) hI.ml hI.w hI.z hkl hI.cl (by simp)
        by_cases hbig : (bas M1).length ≤ 201
        · obtain ⟨R, M', r1, r2⟩ := ih (k + 1) M1 (by omega) i1 hbig
          refine ⟨R, M', r2, i3 R (Ev.neg (by omega) ?_)⟩
          rw [w1 (by omega) (by omega)]
          exact r1
        · exact ⟨_, M1, ⟨i1.w, i1.z, Or.inr ⟨rfl, by omega⟩⟩, i3 _ (Ev.pos (by omega) (Ev.now _))⟩
      obtain ⟨R, M', r2, r1⟩ := step
      refine ⟨R, M', Ev.succ ?_, r2⟩
      simp only [spec_bsWritten.l0]
      exact Ev.pos (by omega) r1
    · refine ⟨_, M, Ev.succ ?_, hI.w, hI.z, Or.inl ⟨rfl, hml, fun x hx => ?_⟩⟩
      · simp only [spec_bsWritten.l0]
        exact Ev.neg (by omega) (Ev.pos (by omega) (Ev.pure rfl))
      · obtain ⟨j, hj, rfl⟩ := List.getElem_of_mem ((mem_ordL M x).2 hx)
        exact hI.cl j _ (by have := hbl M; omega) (List.getElem?_eq_getElem hj)

/-- both answer the written words in order, if they are not too many -/
theorem written_same (l : List ByteArray) (n : Nat) (hn : n ≤ 8) (hl : l.length ≤ 12) (h1 : ∀ w ∈ l, 1 ≤ w.size) (h8 : ∀ w ∈ l, w.size ≤ 8) :
    ∃ M : List (List UInt8), (∀ x, x ∈ M ↔ Wr (l.map ch) x ∧ 1 ≤ x.length ∧ x.length ≤ n) ∧ Ev (fun k => impl_written.f k l (n : Int)) (bas M) ∧ Ev (fun k => spec_bsWritten.f k l (n : Int)) (if (bas M).length ≤ 200 then (bas M, true) else ([], false)) := by
  obtain ⟨M, m1, m2, m3⟩ := written_impl l n hn hl h1 h8
  refine ⟨M, m3, m1, ?_⟩
  have start : ([(⟨#[]⟩ : ByteArray)] : List ByteArray) = bas [[]] := by rw [bas_one]; rfl
  unfold spec_bsWritten.f
  rw [start]
  obtain ⟨R, M', r1, r2, r3, r4⟩ := bsWritten_run l n hn hl h1 h8 202 0 [[]] rfl ⟨by simp, fun x hx => by rw [List.mem_singleton] at hx; subst hx; exact ⟨Wr.nil _, by simp⟩, by simp, fun j x hj => by omega⟩ (by rw [bas_one]; simp)
  have hbl : ∀ M, (bas M).length = (ordL M).length := fun M => by unfold bas; simp
  rcases r4 with ⟨rfl, hlen, hcl⟩ | ⟨rfl, hlen⟩
  · have hall : ∀ x, x ∈ M' ↔ x = [] ∨ x ∈ M := fun x => by
      rw [m3]
      constructor
      · intro hx
        obtain ⟨q1, q2⟩ := r2 x hx
        by_cases e : x.length = 0
        · exact Or.inl (List.eq_nil_of_length_eq_zero e)
        · exact Or.inr ⟨q1, by omega, q2⟩
      · rintro (rfl | ⟨q1, q2, q3⟩)
        · exact r3
        · exact Wr.closed r3 hcl x q1 q3
    have hcons : bas M' = bx [] :: bas M := by
      symm
      refine bas_of _ _ ?_ (fun x => ?_)
      · rw [List.map_cons, ch_bx, ch_bas, List.pairwise_cons]
        exact ⟨fun y hy => wcmp_shorter _ _ (by have := ((m3 y).1 ((mem_ordL M y).1 hy)).2.1; simp; omega), ordL_rises M⟩
      · rw [List.map_cons, ch_bx, ch_bas, List.mem_cons, mem_ordL, hall]
    rw [hcons] at r1 hlen
    rw [List.length_cons] at hlen
    rw [if_pos (by omega)]
    exact r1
  · have hsub : ordL M' ⊆ [] :: ordL M := fun x hx => by
      obtain ⟨q1, q2⟩ := r2 x ((mem_ordL M' x).1 hx)
      by_cases e : x.length = 0
      · rw [List.eq_nil_of_length_eq_zero e]; simp
      · exact List.mem_cons_of_mem _ ((mem_ordL M x).2 ((m3 x).2 ⟨q1, by omega, q2⟩))
    have := nodupLe _ _ (ordL_nodup M') hsub
    rw [List.length_cons, ← hbl, ← hbl] at this
    rw [if_neg (by omega)]
    exact r1
/-- the program's answer, at a set and a length that are asked for -/
theorem writtenUpTo_impl (l : List ByteArray) (s : Int) (b : Bool) (hb : Ev (fun k => impl_isSet.f k l) b) (R : List ByteArray × Bool) (hR : (b && decide (0 ≤ s ∧ s ≤ 8)) = true → ∃ T, Ev (fun k => impl_written.f k l s) T ∧ R = if T.length ≤ 200 then (T, true) else ([], false)) (hN : (b && decide (0 ≤ s ∧ s ≤ 8)) = false → R = ([], false)) : Ev (fun k => impl_writtenUpTo.f k l s) R := by
  have no : R = ([], false) → Ev (fun k => impl_writtenUpTo.j0 k l s true) R := fun h => Ev.succ (by simp only [impl_writtenUpTo.j0]; exact Ev.pos (by simp) (Ev.pure h.symm))
  unfold impl_writtenUpTo.f
  refine Ev.bind hb ?_
  cases b with
  | false => exact Ev.neg (by simp) (no (hN (by simp)))
  | true =>
    refine Ev.pos rfl (Ev.known (fun _ => impl_in_eq _ _ _) ?_)
    by_cases h : 0 ≤ s ∧ s ≤ 8
    · rw [decide_eq_true h]
      obtain ⟨T, t1, t2⟩ := hR (by simpa using h)
      refine Ev.succ ?_
      simp only [impl_writtenUpTo.j0]
      refine Ev.neg (by simp) (Ev.bind t1 (Ev.cases (fun h => ?_) (fun h => ?_)))
      · rw [t2, if_neg (by omega)]; exact Ev.now _
      · rw [t2, if_pos (by omega)]; exact Ev.now _
    · rw [decide_eq_false h]
      exact no (hN (by rw [decide_eq_false h]; rfl))

theorem cnt_wr (W : List (List UInt8)) (hW : ∀ w, w ∈ W → w ≠ []) : ∀ (n : Nat) (s : List UInt8), s.length = n → (cnt W s ≠ 0 ↔ Wr W s) := by
  intro n
  induction n using Nat.strongRecOn with
  | _ n ih =>
    intro s hs
    by_cases h0 : s = []
    · subst h0; rw [cnt_nil]; simp [Wr.nil]
    · rw [cnt_ne _ _ h0]
      have key : (W.map (term W s)).sum ≠ 0 ↔ ∃ w, w ∈ W ∧ term W s w ≠ 0 := by
        rw [Ne, List.sum_eq_zero_iff_forall_eq_nat]
        simp only [List.mem_map, forall_exists_index, and_imp, forall_apply_eq_imp_iff₂]
        constructor
        · intro h
          refine Classical.byContradiction fun hh => h fun w hw => Classical.byContradiction fun ht => hh ⟨w, hw, ht⟩
        · rintro ⟨w, hw, ht⟩ h; exact ht (h w hw)
      rw [key]
      constructor
      · rintro ⟨w, hw, ht⟩
        unfold term at ht
        by_cases hp : w ≠ [] ∧ w.isPrefixOf s = true
        · rw [if_pos hp] at ht
          have hwl := List.length_pos_iff.2 hp.1
          obtain ⟨r, hr⟩ := List.isPrefixOf_iff_prefix.1 hp.2
          have hd : s.drop w.length = r := by rw [← hr]; simp
          rw [hd] at ht
          have hrl : r.length < n := by rw [← hs, ← hr, List.length_append]; omega
          obtain ⟨ps, h1, h2⟩ := (ih r.length hrl r rfl).1 ht
          refine ⟨w :: ps, fun p hp' => ?_, by rw [List.flatten_cons, ← h2, hr]⟩
          rcases List.mem_cons.1 hp' with rfl | h
          · exact hw
          · exact h1 p h
        · rw [if_neg hp] at ht; exact absurd rfl ht
      · rintro ⟨ps, h1, h2⟩
        match ps, h1, h2 with
        | [], _, h2 => exact absurd h2 (by simpa using h0)
        | w :: ps, h1, h2 =>
          have hw := h1 w (by simp)
          have hwn := hW w hw
          have hwl := List.length_pos_iff.2 hwn
          rw [List.flatten_cons] at h2
          refine ⟨w, hw, ?_⟩
          unfold term
          rw [if_pos ⟨hwn, List.isPrefixOf_iff_prefix.2 ⟨_, h2.symm⟩⟩]
          have hd : s.drop w.length = ps.flatten := by rw [h2]; simp
          rw [hd]
          exact (ih ps.flatten.length (by rw [← hs, h2, List.length_append]; omega) _ rfl).2 ⟨ps, fun p hp => h1 p (List.mem_cons_of_mem _ hp), rfl⟩
theorem Wr.mono {S T : List (List UInt8)} (h : ∀ x, x ∈ S → x ∈ T) {x : List UInt8} (hx : Wr S x) : Wr T x := by
  obtain ⟨ps, h1, h2⟩ := hx
  exact ⟨ps, fun p hp => h p (h1 p hp), h2⟩
theorem Wr.app {S : List (List UInt8)} {x y : List UInt8} (hx : Wr S x) (hy : Wr S y) : Wr S (x ++ y) := by
  obtain ⟨ps, h1, rfl⟩ := hx
  obtain ⟨qs, g1, rfl⟩ := hy
  refine ⟨ps ++ qs, fun p hp => ?_, by simp⟩
  rcases List.mem_append.1 hp with h | h
  · exact h1 p h
  · exact g1 p h
theorem Wr.flat {S : List (List UInt8)} : ∀ (ps : List (List UInt8)), (∀ p, p ∈ ps → Wr S p) → Wr S ps.flatten
  | [], _ => Wr.nil S
  | p :: ps, h => by
    rw [List.flatten_cons]
    exact (h p (by simp)).app (Wr.flat ps (fun q hq => h q (List.mem_cons_of_mem _ hq)))
/-- a part that is not the whole is shorter -/
theorem part_short (ps : List (List UInt8)) (q : List UInt8) (hq : q ∈ ps) (hne : q ≠ ps.flatten) : q.length < ps.flatten.length := by
  obtain ⟨a, b, rfl⟩ := List.append_of_mem hq
  rw [List.flatten_append, List.flatten_cons] at hne ⊢
  simp only [List.length_append]
  by_cases h1 : a.flatten.length = 0
  · by_cases h2 : b.flatten.length = 0
    · rw [List.eq_nil_of_length_eq_zero h1, List.eq_nil_of_length_eq_zero h2] at hne
      simp at hne
    · omega
  · omega
/-- the words of a list that its other words don't write -/
theorem cnt_gen (L : List (List UInt8)) (hn : L.Nodup) (hL : ∀ w, w ∈ L → w ≠ []) (s : List UInt8) (hs : s ∈ L) : (cnt L s = 1 ↔ ¬ Wr (L.filter fun x => decide (x ≠ s)) s) ∧ cnt L s ≠ 0 := by
  obtain ⟨i, hi, rfl⟩ := List.getElem_of_mem hs
  have hoth : ∀ v, v ∈ L.take i ++ L.drop (i + 1) ↔ v ∈ L.filter fun x => decide (x ≠ L[i]) := by
    intro v
    rw [List.mem_filter, decide_eq_true_eq]
    have e : L = L.take i ++ (L[i] :: L.drop (i + 1)) := by rw [← List.drop_eq_getElem_cons hi, List.take_append_drop]
    have hn' := hn
    rw [e] at hn'
    have hnp := List.nodup_append.1 hn'
    have hnc := List.nodup_cons.1 hnp.2.1
    constructor
    · intro hv
      rcases List.mem_append.1 hv with hv | hv
      · exact ⟨List.mem_of_mem_take hv, hnp.2.2 v hv L[i] List.mem_cons_self⟩
      · exact ⟨List.mem_of_mem_drop hv, fun h => hnc.1 (h ▸ hv)⟩
    · rintro ⟨hv, hne⟩
      rw [e] at hv
      rcases List.mem_append.1 hv with hv | hv
      · exact List.mem_append_left _ hv
      · rcases List.mem_cons.1 hv with h | hv
        · exact absurd h hne
        · exact List.mem_append_right _ hv
  have hc := cnt_others L i hi (hL _ (List.getElem_mem hi)) (fun v hv => by simpa using (List.mem_filter.1 ((hoth v).1 hv)).2)
  have hw := cnt_wr (L.take i ++ L.drop (i + 1)) (fun w hw => hL w (List.mem_filter.1 ((hoth w).1 hw)).1) _ L[i] rfl
  have hiff : Wr (L.take i ++ L.drop (i + 1)) L[i] ↔ Wr (L.filter fun x => decide (x ≠ L[i])) L[i] := ⟨Wr.mono fun x hx => (hoth x).1 hx, Wr.mono fun x hx => (hoth x).2 hx⟩
  rw [← hiff, ← hw, hc]
  omega
theorem gen_all (L : List (List UInt8)) (hn : L.Nodup) (hL : ∀ w, w ∈ L → w ≠ []) : ∀ (n : Nat) (p : List UInt8), p.length = n → p ∈ L → Wr (L.filter fun g => decide (cnt L g = 1 ∧ g.length ≤ n)) p := by
  intro n
  induction n using Nat.strongRecOn with
  | _ n ih =>
    intro p hp hpL
    by_cases h1 : cnt L p = 1
    · exact ⟨[p], fun q hq => by rw [List.mem_singleton] at hq; subst hq; exact List.mem_filter.2 ⟨hpL, by simp; exact ⟨h1, by omega⟩⟩, by simp⟩
    · have hw : Wr (L.filter fun x => decide (x ≠ p)) p := Classical.byContradiction fun h => h1 (((cnt_gen L hn hL p hpL).1).2 h)
      obtain ⟨ps, hps, he⟩ := hw
      rw [he]
      refine Wr.flat ps (fun q hq => ?_)
      obtain ⟨q1, q2⟩ := List.mem_filter.1 (hps q hq)
      have q2' : q ≠ p := by simpa using q2
      have hlt := part_short ps q hq (by rw [← he]; exact q2')
      rw [← he] at hlt
      refine (ih q.length (by omega) q rfl q1).mono (fun x hx => ?_)
      obtain ⟨x1, x2⟩ := List.mem_filter.1 hx
      simp only [decide_eq_true_eq] at x2
      exact List.mem_filter.2 ⟨x1, by simp only [decide_eq_true_eq]; exact ⟨x2.1, by omega⟩⟩
/-- a word is a least one just if the least ones ahead of it don't write it -/
theorem gen_key (L out : List (List UInt8)) (hn : L.Nodup) (hL : ∀ w, w ∈ L → w ≠ []) (s : List UInt8) (hs : s ∈ L) (ho : ∀ x, x ∈ out ↔ x ∈ L ∧ cnt L x = 1 ∧ wcmp x s < 0) : cnt out s = 0 ↔ cnt L s = 1 := by
  obtain ⟨h1, h2⟩ := cnt_gen L hn hL s hs
  have hw := cnt_wr out (fun w hw => hL w ((ho w).1 hw).1) _ s rfl
  rw [h1]
  constructor
  · intro h0 hwr
    refine hw.2 ?_ h0
    obtain ⟨ps, hps, he⟩ := hwr
    rw [he]
    refine Wr.flat ps (fun q hq => ?_)
    obtain ⟨q1, q2⟩ := List.mem_filter.1 (hps q hq)
    have q2' : q ≠ s := by simpa using q2
    have hlt := part_short ps q hq (by rw [← he]; exact q2')
    rw [← he] at hlt
    refine (gen_all L hn hL q.length q rfl q1).mono (fun x hx => ?_)
    obtain ⟨x1, x2⟩ := List.mem_filter.1 hx
    simp only [decide_eq_true_eq] at x2
    exact (ho x).2 ⟨x1, x2.1, wcmp_shorter x s (by omega)⟩
  · intro hno
    refine Classical.byContradiction fun h0 => hno ((hw.1 h0).mono fun x hx => ?_)
    obtain ⟨x1, x2, x3⟩ := (ho x).1 hx
    refine List.mem_filter.2 ⟨x1, ?_⟩
    simp only [decide_eq_true_eq]
    rintro rfl
    rw [wcmp_self] at x3
    omega

theorem szS_from (b : Int) (hb0 : 0 ≤ b) (hb : b ≤ 1048576) (l : List ByteArray) (hl : l.length ≤ maxLen) (hs : ∀ s ∈ l, s.size ≤ maxLen) : ∃ r, Ev (fun k => laws_szStringS.f k l b) r ∧ (0 ≤ r → l.length ≤ 1048576 ∧ r ≤ 1048576 ∧ ∀ s ∈ l, s.size ≤ 1048576) := by
  have hm := maxLen_le
  have e : Aside0 (wrap64 (b - (l.length : Int)) = b - (l.length : Int)) := ⟨w64 (by omega) (by omega)⟩
  unfold laws_szStringS.f
  rw [e.out]
  by_cases hc : b - (l.length : Int) < 0
  · exact ⟨-1, Ev.pos hc (Ev.now _), fun h => by omega⟩
  · obtain ⟨r, hr, hh⟩ := szS_l0 l (by omega) (fun s h => Nat.le_trans (hs s h) hm) l.length 0 (b - (l.length : Int)) (by omega) (by omega) (by omega)
    exact ⟨r, Ev.neg hc hr, fun h => ⟨by omega, (hh h).1, by simpa using (hh h).2⟩⟩
theorem mark_any (n : Nat) (hn : n ≤ 9000000) : ∃ t, Ev (fun k => laws_markText.f k (n : Int)) t := by
  by_cases h0 : n = 0
  · exact ⟨_, Ev.pos (by omega) (Ev.now _)⟩
  · obtain ⟨t, ht⟩ := markText_l0 7 n ⟨#[]⟩ (by omega) (by omega) (by decide)
    exact ⟨t, Ev.neg (by omega) ht⟩
theorem markS_from (xs : List ByteArray) (a : Nat) (hx : xs.length ≤ 1048576) (ha : a ≤ 4000000) : ∃ ys, Ev (fun k => laws_markStringS.f k xs (a : Int)) (((a + xs.length : Nat) : Int), ys) := by
  have h : ∀ (d i : Nat) (ys : List ByteArray), i + d = xs.length → ys.length = xs.length → ∃ zs, Ev (fun k => laws_markStringS.l0 k ys ((a + i : Nat) : Int) (i : Int)) (((a + xs.length : Nat) : Int), zs) := by
    intro d
    induction d with
    | zero =>
      intro i ys hd hl
      refine ⟨ys, Ev.succ ?_⟩
      simp only [laws_markStringS.l0]
      exact Ev.neg (by omega) (Ev.pure (by rw [show i = xs.length by omega]))
    | succ d ih =>
      intro i ys hd hl
      obtain ⟨t, ht⟩ := mark_any (a + i) (by omega)
      obtain ⟨zs, hz⟩ := ih (i + 1) (ys.set i t) (by omega) (by simpa using hl)
      refine ⟨zs, Ev.succ ?_⟩
      simp only [laws_markStringS.l0, Int.toNat_natCast, w1 (show 0 ≤ (i : Int) by omega) (show (i : Int) < 9223372036854775807 by omega), w1 (show 0 ≤ ((a + i : Nat) : Int) by omega) (show ((a + i : Nat) : Int) < 9223372036854775807 by omega)]
      exact Ev.pos (by omega) (Ev.bind ht (Ev.pos (by omega) hz))
  exact h xs.length 0 xs (by omega) rfl

theorem ch_inj {a b : ByteArray} (h : ch a = ch b) : a = b := ByteArray.ext (Array.toList_inj.1 h)
/-- texts that are short words in order are a set just if they are few -/
theorem wdSet_is (l : List ByteArray) (hl : l.length ≤ 1048576) (hs : ∀ w ∈ l, short w = true) (hr : (l.map ch).Pairwise fun x y => wcmp x y < 0) : Ev (fun k => spec_wdSet.f k l) (decide (l.length ≤ 12)) := by
  unfold spec_wdSet.f
  by_cases h12 : l.length ≤ 12
  · rw [decide_eq_true h12]
    refine Ev.neg (by omega) ?_
    refine Ev.loop (fun i k => spec_wdSet.l0 k l l (l.length : Int) (i : Int)) l.length _ (fun i hi hnext => ?_) ?_
    · have s1 := wdShort_ev l[i]
      rw [hs _ (List.getElem_mem hi)] at s1
      refine Ev.succ ?_
      have wi := Aside0.mk (w1 (show 0 ≤ (i : Int) by omega) (show (i : Int) < 9223372036854775807 by omega))
      by_cases h0 : i = 0
      · simp only [spec_wdSet.l0, rdOf_nat l i hi, wi.out]
        exact Ev.pos (by omega) (Ev.pos (by omega) (Ev.pos (by omega) (Ev.bind s1 (Ev.pos rfl (Ev.neg (by omega) hnext)))))
      · have e3 : Aside0 (wrap64 ((i : Int) - 1) = ((i - 1 : Nat) : Int)) := ⟨by rw [w64 (by omega) (by omega)]; omega⟩
        have l1 := wdLess_eq l[i - 1] l[i]
        have hlt : wless l[i - 1] l[i] = true := by
          rw [wless_wcmp]
          have := List.pairwise_iff_getElem.1 hr (i - 1) i (by simp; omega) (by simpa using hi) (by omega)
          simpa using this
        simp only [spec_wdSet.l0, rdOf_nat l i hi, e3.out, rdOf_nat l (i - 1) (by omega), wi.out]
        exact Ev.pos (by omega) (Ev.pos (by omega) (Ev.pos (by omega) (Ev.bind s1 (Ev.pos rfl (Ev.pos (by omega) (Ev.pos (by omega) (Ev.pos (by omega) (Ev.known (fun _ => l1) (Ev.pos hlt hnext)))))))))
    · refine Ev.succ ?_
      simp only [spec_wdSet.l0]
      exact Ev.neg (by omega) (Ev.now _)
  · rw [decide_eq_false h12]
    exact Ev.pos (by omega) (Ev.now _)
theorem wrap_cnt (W : List (List UInt8)) (s : List UInt8) (hW : W.length ≤ 200) (hs : s.length ≤ 8) : wrap64 (cnt W s : Int) = (cnt W s : Int) := by
  have h1 := cnt_le W 200 hW (by omega) _ s rfl
  have h2 : 200 ^ s.length ≤ 200 ^ 8 := Nat.pow_le_pow_right (by omega) hs
  have h3 : 200 ^ 8 = 2560000000000000000 := by decide
  exact w64 (by omega) (by omega)
/-- the least ones among the words of both -/
def least (X Y : List ByteArray) : List ByteArray := (X.filter fun s => hasS Y s).filter fun s => decide (cnt ((X.filter fun s => hasS Y s).map ch) (ch s) = 1)
theorem meet_impl (l : List ByteArray) (hl : l.length ≤ 200) (h1 : ∀ w ∈ l, 1 ≤ w.size) (h8 : ∀ w ∈ l, w.size ≤ 8) : Ev (fun k => impl_leastGenerators.f k l) (l.filter fun s => decide (cnt (l.map ch) (ch s) = 1)) := by
  unfold impl_leastGenerators.f
  have start : ([] : List ByteArray) = (l.take 0).filter fun s => decide (cnt (l.map ch) (ch s) = 1) := by simp
  rw [start]
  refine Ev.loop (fun i k => impl_leastGenerators.l0 k l ((l.take i).filter fun s => decide (cnt (l.map ch) (ch s) = 1)) l (l.length : Int) (i : Int)) l.length _ (fun i hi hnext => ?_) ?_
  · have hc := countReadings_ev l l[i] (by omega) h1 (by have := h8 _ (List.getElem_mem hi); omega)
    rw [wrap_cnt _ _ (by simpa using hl) (by rw [ch_length]; exact h8 _ (List.getElem_mem hi))] at hc
    have hlen : ((l.take i).filter fun s => decide (cnt (l.map ch) (ch s) = 1)).length ≤ i := Nat.le_trans (List.length_filter_le _ _) (by rw [List.length_take]; omega)
    rw [List.take_add_one, List.getElem?_eq_getElem hi, Option.toList_some, List.filter_append] at hnext
    refine Ev.succ ?_
    simp only [impl_leastGenerators.l0, rdOf_nat l i hi, w1 (show 0 ≤ (i : Int) by omega) (show (i : Int) < 9223372036854775807 by omega)]
    refine Ev.pos (by omega) (Ev.pos (by omega) (Ev.pos (by omega) (Ev.bind hc (Ev.cases (fun h => ?_) (fun h => ?_)))))
    · rw [List.filter_cons_of_pos (by simp; omega), List.filter_nil] at hnext
      exact Ev.pos (by omega) hnext
    · rw [List.filter_cons_of_neg (by simp; omega), List.filter_nil, List.append_nil] at hnext
      exact hnext
  · refine Ev.succ ?_
    simp only [impl_leastGenerators.l0]
    exact Ev.neg (by omega) (Ev.pure (by rw [List.take_of_length_le (Nat.le_refl _)]))
theorem meet_spec (X Y : List ByteArray) (hX : X.length ≤ 200) (hY : Y.length ≤ 200) (h1 : ∀ w ∈ X, 1 ≤ w.size) (h8 : ∀ w ∈ X, w.size ≤ 8) (hr : (X.map ch).Pairwise fun x y => wcmp x y < 0) (R : List ByteArray × Bool) (hfin : Ev (fun k => (spec_wdIf.f k (least X Y)).bind fun b => (some (b.1, b.2))) R) : Ev (fun k => spec_MeetGenerators.l0 k Y [] X (X.length : Int) 0) R := by
  obtain ⟨L, hLd⟩ : ∃ L, L = (X.filter fun s => hasS Y s).map ch := ⟨_, rfl⟩
  have hLr : L.Pairwise fun x y => wcmp x y < 0 := by rw [hLd]; exact hr.sublist (List.filter_sublist.map _)
  have hLn : L.Nodup := hLr.imp fun {a b} h e => by rw [e, wcmp_self] at h; omega
  have hLne : ∀ w, w ∈ L → w ≠ [] := fun w hw => by
    rw [hLd] at hw
    obtain ⟨s, hs, rfl⟩ := List.mem_map.1 hw
    have := h1 s (List.mem_filter.1 hs).1
    intro e; rw [← ch_length, e] at this; simp at this
  have hmemL : ∀ s, s ∈ X → (ch s ∈ L ↔ hasS Y s = true) := fun s hs => by
    rw [hLd, List.mem_map]
    constructor
    · rintro ⟨t, ht, e⟩
      rw [ch_inj e] at ht
      simpa using (List.mem_filter.1 ht).2
    · intro h; exact ⟨s, List.mem_filter.2 ⟨hs, h⟩, rfl⟩
  have start : ([] : List ByteArray) = ((X.take 0).filter fun s => hasS Y s).filter fun s => decide (cnt L (ch s) = 1) := by simp
  rw [start]
  refine Ev.loop (fun i k => spec_MeetGenerators.l0 k Y (((X.take i).filter fun s => hasS Y s).filter fun s => decide (cnt L (ch s) = 1)) X (X.length : Int) (i : Int)) X.length _ (fun i hi hnext => ?_) ?_
  · have hh := wdHas_ev Y X[i] (by omega)
    have hcont : (Y.map ch).contains (ch X[i]) = hasS Y X[i] := by
      rw [Bool.eq_iff_iff, hasS_iff, List.contains_iff_mem]
    rw [hcont] at hh
    have wi := Aside0.mk (w1 (show 0 ≤ (i : Int) by omega) (show (i : Int) < 9223372036854775807 by omega))
    obtain ⟨out, hout⟩ : ∃ out, out = ((X.take i).filter fun s => hasS Y s).filter fun s => decide (cnt L (ch s) = 1) := ⟨_, rfl⟩
    have hol : out.length ≤ i := by
      rw [hout]
      exact Nat.le_trans (List.length_filter_le _ _) (Nat.le_trans (List.length_filter_le _ _) (by rw [List.length_take]; omega))
    rw [List.take_add_one, List.getElem?_eq_getElem hi, Option.toList_some, List.filter_append, List.filter_append, ← hout] at hnext
    rw [← hout]
    refine Ev.succ ?_
    simp only [spec_MeetGenerators.l0, rdOf_nat X i hi, wi.out]
    refine Ev.pos (by omega) (Ev.pos (by omega) (Ev.pos (by omega) (Ev.bind hh (Ev.cases (fun h => ?_) (fun h => ?_)))))
    · rw [List.filter_cons_of_pos h, List.filter_nil] at hnext
      have hX8 := h8 _ (List.getElem_mem hi)
      obtain ⟨rs, q1, q2, -⟩ := dcReadings200 out (by omega) (fun w hw => h1 w (by rw [hout] at hw; exact List.mem_of_mem_take (List.mem_filter.1 (List.mem_filter.1 hw).1).1)) _ X[i] rfl hX8
      have hkey := gen_key L (out.map ch) hLn hLne (ch X[i]) ((hmemL _ (List.getElem_mem hi)).2 h) (fun x => by
        constructor
        · intro hx
          obtain ⟨s, hs, rfl⟩ := List.mem_map.1 hx
          rw [hout] at hs
          obtain ⟨s1, s2⟩ := List.mem_filter.1 hs
          obtain ⟨s3, s4⟩ := List.mem_filter.1 s1
          refine ⟨(hmemL s (List.mem_of_mem_take s3)).2 s4, by simpa using s2, ?_⟩
          obtain ⟨j, hj, rfl⟩ := List.getElem_of_mem s3
          rw [List.length_take] at hj
          rw [List.getElem_take]
          have := List.pairwise_iff_getElem.1 hr j i (by simp; omega) (by simpa using hi) (by omega)
          simpa using this
        · rintro ⟨x1, x2, x3⟩
          have x1' := x1
          rw [hLd] at x1'
          obtain ⟨s, hs, rfl⟩ := List.mem_map.1 x1'
          obtain ⟨s1, s2⟩ := List.mem_filter.1 hs
          refine List.mem_map.2 ⟨s, ?_, rfl⟩
          rw [hout]
          refine List.mem_filter.2 ⟨List.mem_filter.2 ⟨?_, s2⟩, by simpa using x2⟩
          obtain ⟨j, hj, rfl⟩ := List.getElem_of_mem s1
          by_cases hji : j < i
          · rw [List.mem_take_iff_getElem]
            exact ⟨j, by omega, rfl⟩
          · exfalso
            by_cases e : j = i
            · subst e; rw [wcmp_self] at x3; omega
            · have := List.pairwise_iff_getElem.1 hr i j (by simpa using hi) (by simpa using hj) (by omega)
              rw [List.getElem_map, List.getElem_map] at this
              have h3 := wcmp_trans _ _ _ x3 this
              rw [wcmp_self] at h3
              omega)
      refine Ev.bind q1 (Ev.cases (fun h0 => ?_) (fun h0 => ?_))
      · have : cnt (out.map ch) (ch X[i]) = 0 := Classical.byContradiction fun hz => by rw [if_neg hz] at q2; omega
        rw [List.filter_cons_of_pos (by simpa using hkey.1 this), List.filter_nil] at hnext
        exact Ev.pos (by omega) hnext
      · have : ¬ cnt (out.map ch) (ch X[i]) = 0 := fun hz => by rw [if_pos hz] at q2; omega
        rw [List.filter_cons_of_neg (by simpa using fun hh => this (hkey.2 hh)), List.filter_nil, List.append_nil] at hnext
        exact hnext
    · rw [List.filter_cons_of_neg h, List.filter_nil, List.filter_nil, List.append_nil] at hnext
      exact hnext
  · refine Ev.succ ?_
    simp only [spec_MeetGenerators.l0]
    refine Ev.neg (by omega) ?_
    rw [List.take_of_length_le (Nat.le_refl _)]
    unfold least at hfin
    rw [hLd]
    exact hfin
/-- what one of the two says -/
theorem side_ev (l : List ByteArray) (s : Int) (hl : l.length ≤ 1048576) : ∃ (b : Bool) (R : List ByteArray × Bool), Ev (fun k => spec_wdSet.f k l) b ∧ Ev (fun k => impl_writtenUpTo.f k l s) R ∧ ((b && decide (0 ≤ s ∧ s ≤ 8)) = false → R = ([], false)) ∧
    ((b && decide (0 ≤ s ∧ s ≤ 8)) = true → Ev (fun k => spec_bsWritten.f k l s) R ∧ R.1.length ≤ 200 ∧ (∀ w ∈ R.1, short w = true) ∧ (R.1.map ch).Pairwise fun x y => wcmp x y < 0) := by
  obtain ⟨b, h1, h2, hb⟩ := isSet_same l hl
  cases hc : (b && decide (0 ≤ s ∧ s ≤ 8)) with
  | false => exact ⟨b, ([], false), h1, writtenUpTo_impl l s b h2 _ (fun h => by rw [hc] at h; cases h) (fun _ => rfl), fun _ => rfl, fun h => by cases hc.symm.trans h⟩
  | true =>
    have hc' := hc
    simp only [Bool.and_eq_true, decide_eq_true_eq] at hc'
    obtain ⟨rfl, hs⟩ := hc'
    have hset := hb rfl
    obtain ⟨n, rfl⟩ : ∃ n : Nat, s = (n : Int) := ⟨s.toNat, by omega⟩
    obtain ⟨M, m1, m2, m3⟩ := written_same l n (by omega) hset.few (fun w hw => (hset.size w hw).1) (fun w hw => (hset.size w hw).2)
    refine ⟨true, if (bas M).length ≤ 200 then (bas M, true) else ([], false), h1, writtenUpTo_impl l n true h2 _ (fun _ => ⟨_, m2, rfl⟩) (fun h => by rw [hc] at h; cases h), fun h => (by cases hc.symm.trans h), fun _ => ⟨m3, ?_⟩⟩
    by_cases h200 : (bas M).length ≤ 200
    · rw [if_pos h200]
      refine ⟨h200, fun w hw => ?_, by rw [ch_bas]; exact ordL_rises M⟩
      have hw' : ch w ∈ (bas M).map ch := List.mem_map.2 ⟨w, hw, rfl⟩
      rw [ch_bas, mem_ordL] at hw'
      obtain ⟨⟨ps, hps, he⟩, q1, q2⟩ := (m1 _).1 hw'
      rw [ch_length] at q1 q2
      unfold short
      rw [decide_eq_true (show 1 ≤ w.size ∧ w.size ≤ 8 by omega), Bool.true_and]
      show (ch w).all isLetter = true
      rw [he, List.all_eq_true]
      intro c hcc
      obtain ⟨p, hp, hcp⟩ := List.mem_flatten.1 hcc
      obtain ⟨t, ht, rfl⟩ := List.mem_map.1 (hps p hp)
      have hsh := hset.short t ht
      unfold Pure.short at hsh
      simp only [Bool.and_eq_true] at hsh
      exact List.all_eq_true.1 hsh.2 c hcp
    · rw [if_neg h200]
      simp
theorem meet_same (l m : List ByteArray) (s : Int) (hl : l.length ≤ 1048576) (hm : m.length ≤ 1048576) : ∃ r, Ev (fun k => spec_MeetGenerators.f k l m s) r ∧ Ev (fun k => impl_MeetGenerators.f k l m s) r ∧ r.1.length ≤ 1000 := by
  obtain ⟨b1, R1, s1, i1, n1, y1⟩ := side_ev l s hl
  obtain ⟨b2, R2, s2, i2, n2, y2⟩ := side_ev m s hm
  have hlen : spec_bsLength.f s = some (decide (0 ≤ s ∧ s ≤ 8)) := by unfold spec_bsLength.f; rw [spec_in]; rfl
  have no : Ev (fun k => spec_MeetGenerators.j0 k l m s true) ([], false) := Ev.succ (by simp only [spec_MeetGenerators.j0]; exact Ev.pos (by simp) (Ev.now _))
  have noi : (R1.2 && R2.2) = false → Ev (fun k => impl_MeetGenerators.f k l m s) ([], false) := fun h => by
    unfold impl_MeetGenerators.f
    exact Ev.bind i1 (Ev.bind i2 (Ev.neg (by rw [h]; simp) (Ev.now _)))
  unfold spec_MeetGenerators.f
  by_cases hs : 0 ≤ s ∧ s ≤ 8
  · rw [decide_eq_true hs] at hlen n1 n2 y1 y2
    rw [Bool.and_true] at n1 n2 y1 y2
    cases b1 with
    | false => exact ⟨_, Ev.bind s1 (Ev.neg (by simp) no), noi (by rw [n1 rfl]; rfl), by simp⟩
    | true =>
      cases b2 with
      | false => exact ⟨_, Ev.bind s1 (Ev.pos rfl (Ev.bind s2 (Ev.neg (by simp) no))), noi (by rw [n2 rfl]; simp), by simp⟩
      | true =>
        obtain ⟨w1, l1, g1, p1⟩ := y1 rfl
        obtain ⟨w2, l2, g2, p2⟩ := y2 rfl
        have sp : ∀ R, Ev (fun k => spec_MeetGenerators.j1 k R1.1 R2.1 (!(R1.2 && R2.2))) R → Ev (fun k => (spec_wdSet.f k l).bind fun t209 => (if t209 = true then ((spec_wdSet.f k m).bind fun t210 => (if t210 = true then ((spec_bsLength.f s).bind fun t211 => (spec_MeetGenerators.j0 k l m s (!t211))) else (spec_MeetGenerators.j0 k l m s true))) else (spec_MeetGenerators.j0 k l m s true))) R := fun R hR => by
          refine Ev.bind s1 (Ev.pos rfl (Ev.bind s2 (Ev.pos rfl (Ev.known (fun _ => hlen) (Ev.succ ?_)))))
          simp only [spec_MeetGenerators.j0]
          refine Ev.neg (by simp) (Ev.bind w1 (Ev.bind w2 (Ev.cases (fun h => ?_) (fun h => ?_))))
          · rw [h, Bool.true_and] at hR; exact hR
          · rw [Bool.eq_false_iff.mpr h, Bool.false_and] at hR; exact hR
        cases hb : (R1.2 && R2.2) with
        | false =>
          refine ⟨_, sp ([], false) ?_, noi hb, by simp⟩
          rw [hb]
          exact Ev.succ (by simp only [spec_MeetGenerators.j1]; exact Ev.pos (by simp) (Ev.now _))
        | true =>
          have hsz : ∀ w ∈ R1.1, 1 ≤ w.size ∧ w.size ≤ 8 := fun w hw => by
            have := g1 w hw
            unfold short at this
            simp only [Bool.and_eq_true, decide_eq_true_eq] at this
            exact this.1
          have hgl : (least R1.1 R2.1).length ≤ 200 := by
            unfold least
            exact Nat.le_trans (List.length_filter_le _ _) (Nat.le_trans (List.length_filter_le _ _) l1)
          have hgs : ∀ w ∈ least R1.1 R2.1, short w = true := fun w hw => by
            unfold least at hw
            exact g1 w (List.mem_filter.1 (List.mem_filter.1 hw).1).1
          have hgr : ((least R1.1 R2.1).map ch).Pairwise fun x y => wcmp x y < 0 := by
            unfold least
            exact p1.sublist ((List.filter_sublist.trans List.filter_sublist).map _)
          have hws := wdSet_is (least R1.1 R2.1) (by omega) hgs hgr
          have hfl : (R1.1.filter fun s => hasS R2.1 s).length ≤ 200 := Nat.le_trans (List.length_filter_le _ _) l1
          have him := meet_impl (R1.1.filter fun s => hasS R2.1 s) hfl (fun w hw => (hsz w (List.mem_filter.1 hw).1).1) (fun w hw => (hsz w (List.mem_filter.1 hw).1).2)
          refine ⟨if (least R1.1 R2.1).length ≤ 12 then (least R1.1 R2.1, true) else ([], false), sp _ ?_, ?_, by split <;> simp <;> omega⟩
          · rw [hb]
            refine Ev.succ ?_
            simp only [spec_MeetGenerators.j1]
            refine Ev.neg (by simp) (meet_spec R1.1 R2.1 l1 l2 (fun w hw => (hsz w hw).1) (fun w hw => (hsz w hw).2) p1 _ ?_)
            have hwi : Ev (fun k => spec_wdIf.f k (least R1.1 R2.1)) (if (least R1.1 R2.1).length ≤ 12 then (least R1.1 R2.1, true) else ([], false)) := by
              unfold spec_wdIf.f
              refine Ev.bind hws (Ev.cases (fun h => ?_) (fun h => ?_))
              · rw [if_pos (of_decide_eq_true h)]; exact Ev.now _
              · rw [if_neg (fun hh => h (decide_eq_true hh))]; exact Ev.now _
            exact Ev.bind hwi (Ev.now _)
          · unfold impl_MeetGenerators.f
            refine Ev.bind i1 (Ev.bind i2 (Ev.pos hb ?_))
            have hnn : (R1.1.filter fun s => !(!hasS R2.1 s)) = R1.1.filter fun s => hasS R2.1 s := by simp
            rw [hnn]
            refine Ev.bind him (Ev.cases (fun h => ?_) (fun h => ?_))
            · rw [if_neg (by unfold least; omega)]; exact Ev.now _
            · rw [if_pos (by unfold least; omega)]; exact Ev.now _
  · rw [decide_eq_false hs] at hlen n1
    rw [Bool.and_false] at n1
    refine ⟨([], false), ?_, noi (by rw [n1 rfl]; rfl), by simp⟩
    cases b1 with
    | false => exact Ev.bind s1 (Ev.neg (by simp) no)
    | true =>
      cases b2 with
      | false => exact Ev.bind s1 (Ev.pos rfl (Ev.bind s2 (Ev.neg (by simp) no)))
      | true => exact Ev.bind s1 (Ev.pos rfl (Ev.bind s2 (Ev.pos rfl (Ev.known (fun _ => hlen) no))))
theorem FnExactMeetGenerators : laws_FnExactMeetGenerators.Pure := by
  intro l m s hl hs hm hms h
  refine Ev.rounds ?_
  unfold laws_FnExactMeetGenerators.f
  obtain ⟨z, hz, hzz⟩ := szS_ev l hl hs
  refine Ev.bind hz (Ev.cases (fun _ => Ev.now _) (fun hzn => ?_))
  obtain ⟨hl', hz2, -⟩ := hzz (by omega)
  obtain ⟨y, hy, hyy⟩ := szS_from z (by omega) hz2 m hm hms
  refine Ev.bind hy (Ev.cases (fun _ => Ev.now _) (fun hyn => ?_))
  obtain ⟨hm', -⟩ := hyy (by omega)
  obtain ⟨mt, hmt⟩ := marks
  obtain ⟨r, h1, h2, h3⟩ := meet_same l m s hl' hm'
  obtain ⟨ys, hys⟩ := markS_from m (l.length + 1) hm' (by omega)
  refine Ev.bind (toS_ev l hl') (Ev.bind (toS_ev m hm') (Ev.bind h1 (Ev.bind (toS_ev l hl') (Ev.bind (toS_ev m hm') (Ev.bind h2 (Ev.bind (eqS_ev r.1 (by omega)) (Ev.pos rfl ?_)))))))
  refine Ev.succ ?_
  simp only [laws_FnExactMeetGenerators.j0]
  refine Ev.neg (by simp) (Ev.bind (toS_ev l hl') (Ev.bind (eqS_ev l hl') (Ev.pos rfl (Ev.bind (toS_ev m hm') (Ev.bind (eqS_ev m hm') (Ev.pos rfl (Ev.bind (markS_ev hmt l hl') (Ev.bind hys (Ev.neg (by omega) (Ev.bind (eqS_ev r.1 (by omega)) (Ev.pos rfl ?_)))))))))))
  refine Ev.succ ?_
  simp only [laws_FnExactMeetGenerators.j1]
  refine Ev.neg (by simp) (Ev.bind (markS_ev hmt r.1 (by omega)) (Ev.bind (heldS_ev hmt r.1.length (by omega)) (Ev.neg (by omega) (Ev.pos rfl (Ev.bind (toS_ev l hl') (Ev.bind (toS_ev m hm') (Ev.bind h2 (Ev.bind (eqS_ev r.1 (by omega)) (Ev.pos rfl ?_)))))))))
  refine Ev.succ ?_
  simp only [laws_FnExactMeetGenerators.j2]
  exact Ev.neg (by simp) (Ev.bind (heldS_ev hmt r.1.length (by omega)) (Ev.neg (by omega) (Ev.pos rfl (Ev.now _))))
end Go.Proofs.YtaglbacldonflaaDoor.Pure
