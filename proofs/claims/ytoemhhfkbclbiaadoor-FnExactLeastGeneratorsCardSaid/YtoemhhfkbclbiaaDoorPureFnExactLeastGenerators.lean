/- LeastGenerators of the program and of the reference answer alike for all arguments, and leave them as they were: no condition. -/
import Derived.Test.YtoemhhfkbclbiaaDoorXFnExactLeastGeneratorsxp
namespace Go.Proofs.YtoemhhfkbclbiaaDoor.Pure
set_option linter.unusedSimpArgs false
set_option linter.unusedVariables false
open Go.RowKit Go.Proofs.YtoemhhfkbclbiaaDoor.Hand Go.Proofs.YtoemhhfkbclbiaaDoor.XFnExactLeastGenerators Go.Proofs.YtoemhhfkbclbiaaDoorW.PrintWords Go.Proofs.YtoemhhfkbclbiaaDoorW.PrintLast Go.Proofs.YtoemhhfkbclbiaaDoorW.PrintMore

theorem w1 {i : Int} (h0 : 0 ≤ i) (h : i < 9223372036854775807) : wrap64 (i + 1) = i + 1 := by unfold wrap64; omega
theorem w64 {i : Int} (h0 : -9223372036854775808 ≤ i) (h : i < 9223372036854775808) : wrap64 i = i := by unfold wrap64; omega
theorem rd_nat (l : List Int) (i : Nat) (h : i < l.length) : rd l (i : Int) = l[i] := by
  unfold rd; simp [List.getD_eq_getElem?_getD, h]
theorem Ev.pos {α : Type} {c : Prop} [Decidable c] {g g' : Nat → Option α} {r : α} (h : c) (k : Ev g r) : Ev (fun n => if c then g n else g' n) r :=
  Ev.congr (fun n => if_pos h) k
theorem Ev.neg {α : Type} {c : Prop} [Decidable c] {g g' : Nat → Option α} {r : α} (h : ¬ c) (k : Ev g' r) : Ev (fun n => if c then g n else g' n) r :=
  Ev.congr (fun n => if_neg h) k
theorem Ev.cases {α : Type} {c : Prop} [Decidable c] {g g' : Nat → Option α} {r : α} (h : c → Ev g r) (k : ¬ c → Ev g' r) : Ev (fun n => if c then g n else g' n) r := by
  by_cases e : c
  · exact Ev.pos e (h e)
  · exact Ev.neg e (k e)
/-- a call whose answer is known at every number of rounds -/
theorem Ev.known {α β : Type} {g : Nat → Option α} {f : Nat → α → Option β} {a : α} {r : β} (h : ∀ n, g n = some a) (k : Ev (fun n => f n a) r) : Ev (fun n => (g n).bind (f n)) r :=
  Ev.bind ⟨0, fun n _ => h n⟩ k
/-- one bind of two, joined with what follows -/
theorem Ev.pure {α : Type} {r q : α} (h : r = q) : Ev (fun _ => some r) q := h ▸ Ev.now r
theorem Ev.succ {α : Type} {g : Nat → Option α} {r : α} (h : Ev (fun k => g (k + 1)) r) : Ev g r := Ev.step (f := fun k => g (k + 1)) (fun _ => rfl) h

theorem rdOf_nat (l : List ByteArray) (i : Nat) (h : i < l.length) : rdOf ByteArray.empty l (i : Int) = l[i] := by
  unfold rdOf; simp [List.getD_eq_getElem?_getD, h]
theorem maxLen_le : maxLen ≤ 9223372036854775807 := by unfold maxLen; omega
theorem szS_l0 (l : List ByteArray) (hl : l.length ≤ 9223372036854775807) (hs : ∀ s ∈ l, s.size ≤ 9223372036854775807) : ∀ (d i : Nat) (b : Int), i + d = l.length → 0 ≤ b → b ≤ 1048576 → ∃ r, Ev (fun k => laws_szStringS.l0 k l b (i : Int)) r ∧ (0 ≤ r → ∀ s ∈ l.drop i, s.size ≤ 1048576)
  | 0, i, b, hd, h0, hb => by
    refine ⟨b, Ev.succ ?_, fun _ s h => ?_⟩
    · simp only [laws_szStringS.l0]; exact Ev.neg (by omega) (Ev.now _)
    · rw [List.drop_of_length_le (by omega)] at h; cases h
  | d + 1, i, b, hd, h0, hb => by
    have h1 : i < l.length := by omega
    have h2 := hs _ (List.getElem_mem h1)
    have e : Aside0 (wrap64 (b - (l[i].size : Int)) = b - (l[i].size : Int)) := ⟨w64 (by omega) (by omega)⟩
    by_cases hc : b - (l[i].size : Int) < 0
    · refine ⟨-1, Ev.succ ?_, fun h => by omega⟩
      simp only [laws_szStringS.l0, rdOf_nat l i h1, e.out]
      exact Ev.pos (by omega) (Ev.pos (by omega) (Ev.pos hc (Ev.now _)))
    · obtain ⟨r, hr, hh⟩ := szS_l0 l hl hs d (i + 1) (b - (l[i].size : Int)) (by omega) (by omega) (by omega)
      refine ⟨r, Ev.succ ?_, fun h s hm => ?_⟩
      · simp only [laws_szStringS.l0, rdOf_nat l i h1, e.out, w1 (show 0 ≤ (i : Int) by omega) (show (i : Int) < 9223372036854775807 by omega)]
        exact Ev.pos (by omega) (Ev.pos (by omega) (Ev.neg hc hr))
      · rw [List.drop_eq_getElem_cons h1] at hm
        rcases List.mem_cons.1 hm with rfl | hm
        · omega
        · exact hh h s hm
theorem szS_ev (l : List ByteArray) (hl : l.length ≤ maxLen) (hs : ∀ s ∈ l, s.size ≤ maxLen) : ∃ r, Ev (fun k => laws_szStringS.f k l 1048576) r ∧ (0 ≤ r → l.length ≤ 1048576 ∧ ∀ s ∈ l, s.size ≤ 1048576) := by
  have hm := maxLen_le
  have e : Aside0 (wrap64 (1048576 - (l.length : Int)) = 1048576 - (l.length : Int)) := ⟨w64 (by omega) (by omega)⟩
  unfold laws_szStringS.f
  rw [e.out]
  by_cases hc : 1048576 - (l.length : Int) < 0
  · exact ⟨-1, Ev.pos hc (Ev.now _), fun h => by omega⟩
  · obtain ⟨r, hr, hh⟩ := szS_l0 l (by omega) (fun s h => Nat.le_trans (hs s h) hm) l.length 0 (1048576 - (l.length : Int)) (by omega) (by omega) (by omega)
    exact ⟨r, Ev.neg hc hr, fun h => ⟨by omega, by simpa using hh h⟩⟩
theorem toS_l0 (l : List ByteArray) (hl : l.length ≤ 1048576) : ∀ (d i : Nat) (xs : List ByteArray), i + d = l.length → xs.length = l.length → xs.take i = l.take i → Ev (fun k => laws_toStringS.l0 k l xs (i : Int)) l
  | 0, i, xs, hd, hx, ht => by
    refine Ev.step (f := fun _ => some xs) (fun k => ?_) (Ev.pure ?_)
    · simp only [laws_toStringS.l0]; rw [if_neg (by omega)]
    · rw [List.take_of_length_le (by omega), List.take_of_length_le (by omega)] at ht; exact ht
  | d + 1, i, xs, hd, hx, ht => by
    refine Ev.step (f := fun k => laws_toStringS.l0 k l (xs.set i (rdOf ByteArray.empty l i)) ((i + 1 : Nat) : Int)) (fun k => ?_) (toS_l0 l hl d (i + 1) _ (by omega) (by simp [hx]) ?_)
    · simp only [laws_toStringS.l0]; rw [if_pos (by omega), if_pos (by omega), if_pos (by omega), w1 (by omega) (by omega)]; simp
    · have h1 : i < l.length := by omega
      have h2 : i < (xs.set i (rdOf ByteArray.empty l i)).length := by simp; omega
      have e := rdOf_nat l i h1
      rw [List.take_succ_eq_append_getElem h2, List.take_succ_eq_append_getElem h1, List.take_set, List.set_eq_of_length_le (by simp; omega), ht]
      simp [e]
theorem toS_ev (l : List ByteArray) (hl : l.length ≤ 1048576) : Ev (fun k => laws_toStringS.f k l) l := by
  unfold laws_toStringS.f
  refine Ev.pos (by omega) (Ev.pos (by omega) ?_)
  have h := toS_l0 l hl l.length 0 (List.replicate l.length ⟨#[]⟩) (by omega) (by simp) (by simp)
  simpa using h
theorem eqS_l0 (l : List ByteArray) (hl : l.length ≤ 1048576) : ∀ (d i : Nat), i + d = l.length → Ev (fun k => laws_eqStringS.l0 k l l (i : Int)) true
  | 0, i, hd => Ev.step (f := fun _ => some true) (fun k => by simp only [laws_eqStringS.l0]; rw [if_neg (by omega)]) (Ev.now _)
  | d + 1, i, hd => by
    refine Ev.step (f := fun k => laws_eqStringS.l0 k l l ((i + 1 : Nat) : Int)) (fun k => ?_) (eqS_l0 l hl d (i + 1) (by omega))
    simp only [laws_eqStringS.l0]; rw [if_pos (by omega), if_pos (by omega), if_pos (by omega), if_pos trivial, w1 (by omega) (by omega)]; simp
theorem eqS_ev (l : List ByteArray) (hl : l.length ≤ 1048576) : Ev (fun k => laws_eqStringS.f k l l) true := by
  unfold laws_eqStringS.f
  exact Ev.pos rfl (by simpa using eqS_l0 l hl l.length 0 (by omega))

theorem strOfNums_one (x : Int) : (strOfNums [x]).size = 1 := by simp [strOfNums, ByteArray.size]
theorem markText_l0 : ∀ (d n : Nat) (s : ByteArray), n < 10 ^ d → n < 4611686018427387904 → s.size + d ≤ 1000 → ∃ t, Ev (fun k => laws_markText.l0 k (n : Int) s) t
  | 0, n, s, hn, _, hs => by
    refine ⟨(⟨#[109]⟩ : ByteArray) ++ s, Ev.succ ?_⟩
    simp only [laws_markText.l0]
    exact Ev.neg (by omega) (Ev.pos (by omega) (Ev.now _))
  | d + 1, n, s, hn, hb, hs => by
    by_cases h0 : n = 0
    · refine ⟨(⟨#[109]⟩ : ByteArray) ++ s, Ev.succ ?_⟩
      simp only [laws_markText.l0]
      exact Ev.neg (by omega) (Ev.pos (by omega) (Ev.now _))
    · have e0 : (strOfNums [(wrap64 (48 + (Int.tmod (n : Int) 10))) % 256]).size = 1 := strOfNums_one _
      have hq : n / 10 < 10 ^ d := by rw [Nat.pow_succ] at hn; omega
      obtain ⟨t, ht⟩ := markText_l0 d (n / 10) (strOfNums [(wrap64 (48 + (Int.tmod (n : Int) 10))) % 256] ++ s) hq (by omega) (by rw [ByteArray.size_append, e0]; omega)
      have e2 : Aside0 (wrap64 (Int.tdiv (n : Int) 10) = ((n / 10 : Nat) : Int)) := ⟨by
        rw [show (10 : Int) = ((10 : Nat) : Int) from rfl, ← Int.ofNat_tdiv]; exact w64 (by omega) (by omega)⟩
      refine ⟨t, Ev.succ ?_⟩
      simp only [laws_markText.l0, e2.out]
      exact Ev.pos (by omega) (Ev.known (fun _ => rfl) (Ev.pos (by rw [e0]; omega) ht))
theorem marks : ∃ mt : Nat → ByteArray, ∀ n : Nat, n ≤ 1048577 → Ev (fun k => laws_markText.f k (n : Int)) (mt n) := by
  have h : ∀ n : Nat, ∃ t, n ≤ 1048577 → Ev (fun k => laws_markText.f k (n : Int)) t := by
    intro n
    by_cases hn : n ≤ 1048577
    · by_cases h0 : n = 0
      · exact ⟨_, fun _ => Ev.pos (by omega) (Ev.now _)⟩
      · obtain ⟨t, ht⟩ := markText_l0 7 n ⟨#[]⟩ (by omega) (by omega) (by decide)
        exact ⟨t, fun _ => Ev.neg (by omega) ht⟩
    · exact ⟨ByteArray.empty, fun h => absurd h hn⟩
  exact ⟨fun n => (h n).choose, fun n hn => (h n).choose_spec hn⟩
/-- n texts, all different -/
def marked (mt : Nat → ByteArray) (n : Nat) : List ByteArray := (List.range n).map fun j => mt (j + 1)
theorem marked_length (mt : Nat → ByteArray) (n : Nat) : (marked mt n).length = n := by simp [marked]
theorem markS_l0 (mt : Nat → ByteArray) (hmt : ∀ n : Nat, n ≤ 1048577 → Ev (fun k => laws_markText.f k (n : Int)) (mt n)) (n : Nat) (hn : n ≤ 1048576) : ∀ (d i : Nat) (xs : List ByteArray), i + d = n → xs.length = n → xs.take i = (marked mt n).take i → Ev (fun k => laws_markStringS.l0 k xs ((i + 1 : Nat) : Int) (i : Int)) (((n + 1 : Nat) : Int), marked mt n)
  | 0, i, xs, hd, hx, ht => by
    refine Ev.succ ?_
    simp only [laws_markStringS.l0]
    refine Ev.neg (by omega) (Ev.pure ?_)
    have := marked_length mt n
    rw [List.take_of_length_le (by omega), List.take_of_length_le (by omega)] at ht
    rw [ht, show i = n by omega]
  | d + 1, i, xs, hd, hx, ht => by
    have hlen := marked_length mt n
    have h1 : i < (marked mt n).length := by omega
    have ih := markS_l0 mt hmt n hn d (i + 1) (xs.set i (mt (i + 1))) (by omega) (by simp [hx]) (by
      have h2 : i < (xs.set i (mt (i + 1))).length := by simp; omega
      rw [List.take_succ_eq_append_getElem h2, List.take_succ_eq_append_getElem h1, List.take_set, List.set_eq_of_length_le (by simp; omega), ht]
      simp [marked])
    refine Ev.succ ?_
    simp only [laws_markStringS.l0, w1 (show 0 ≤ (i : Int) by omega) (show (i : Int) < 9223372036854775807 by omega), w1 (show 0 ≤ ((i + 1 : Nat) : Int) by omega) (show ((i + 1 : Nat) : Int) < 9223372036854775807 by omega)]
    exact Ev.pos (by omega) (Ev.bind (hmt (i + 1) (by omega)) (Ev.pos (by omega) ih))
theorem markS_ev {mt : Nat → ByteArray} (hmt : ∀ n : Nat, n ≤ 1048577 → Ev (fun k => laws_markText.f k (n : Int)) (mt n)) (xs : List ByteArray) (hn : xs.length ≤ 1048576) : Ev (fun k => laws_markStringS.f k xs 1) (((xs.length + 1 : Nat) : Int), marked mt xs.length) :=
  markS_l0 mt hmt xs.length hn xs.length 0 xs (by omega) rfl rfl
theorem heldS_l0 (mt : Nat → ByteArray) (hmt : ∀ n : Nat, n ≤ 1048577 → Ev (fun k => laws_markText.f k (n : Int)) (mt n)) (n : Nat) (hn : n ≤ 1048576) : ∀ (d i : Nat), i + d = n → Ev (fun k => laws_heldStringS.l0 k (marked mt n) ((i + 1 : Nat) : Int) (i : Int)) ((n + 1 : Nat) : Int)
  | 0, i, hd => by
    have hlen := marked_length mt n
    refine Ev.succ ?_
    simp only [laws_heldStringS.l0]
    exact Ev.neg (by omega) (Ev.pure (by rw [show i = n by omega]))
  | d + 1, i, hd => by
    have hlen := marked_length mt n
    have h1 : i < (marked mt n).length := by omega
    have ih := heldS_l0 mt hmt n hn d (i + 1) (by omega)
    refine Ev.succ ?_
    simp only [laws_heldStringS.l0, rdOf_nat _ i h1, w1 (show 0 ≤ (i : Int) by omega) (show (i : Int) < 9223372036854775807 by omega), w1 (show 0 ≤ ((i + 1 : Nat) : Int) by omega) (show ((i + 1 : Nat) : Int) < 9223372036854775807 by omega)]
    exact Ev.pos (by omega) (Ev.pos (by omega) (Ev.bind (hmt (i + 1) (by omega)) (Ev.pos (by simp [marked]) ih)))
theorem heldS_ev {mt : Nat → ByteArray} (hmt : ∀ n : Nat, n ≤ 1048577 → Ev (fun k => laws_markText.f k (n : Int)) (mt n)) (n : Nat) (hn : n ≤ 1048576) : Ev (fun k => laws_heldStringS.f k (marked mt n) 1) ((n + 1 : Nat) : Int) :=
  heldS_l0 mt hmt n hn n 0 (by omega)

theorem spec_in (a b c : Int) : spec_l1In.f a b c = some (decide (b ≤ a ∧ a ≤ c)) := by
  unfold spec_l1In.f
  by_cases h : a ≥ b
  · rw [if_pos h]; simp [h]
  · rw [if_neg h]; simp; omega

theorem impl_in_eq (a b c : Int) : impl_in.f a b c = some (decide (b ≤ a ∧ a ≤ c)) := by
  unfold impl_in.f
  by_cases h : b ≤ a
  · rw [if_pos h]; simp [h]
  · rw [if_neg h]; simp [h]

theorem bt_nat (s : ByteArray) (i : Nat) (h : i < s.data.toList.length) : bt s (i : Int) = ((s.data.toList[i]).toNat : Int) := by
  have h' : i < s.size := by have e : s.size = s.data.toList.length := Array.length_toList.symm; omega
  unfold bt
  rw [dif_pos (show (i : Int).toNat < s.size by simpa using h')]
  simp [ByteArray.getElem_eq_getElem_data]
theorem size_data (s : ByteArray) : s.size = s.data.toList.length := Array.length_toList.symm
theorem letter_test (c : UInt8) : ((c.toNat : Int) < 97 ∨ ((c.toNat : Int) - 97) % 256 ≥ 3) ↔ isLetter c = false := by
  have := c.toNat_lt
  unfold isLetter
  rw [decide_eq_false_iff_not]
  omega
theorem wdIs_l0 (s : ByteArray) (hs : s.size < 4611686018427387904) : ∀ (d i : Nat), i + d = s.data.toList.length → Ev (fun k => spec_wdIs.l0 k s (i : Int)) ((s.data.toList.drop i).all isLetter)
  | 0, i, hd => by
    refine Ev.succ ?_
    simp only [spec_wdIs.l0]
    exact Ev.neg (by rw [size_data]; omega) (Ev.pure (by rw [List.drop_of_length_le (by omega)]; rfl))
  | d + 1, i, hd => by
    have h1 : i < s.data.toList.length := by omega
    have ih := wdIs_l0 s hs d (i + 1) (by omega)
    have ht := letter_test s.data.toList[i]
    have hsz := size_data s
    rw [List.drop_eq_getElem_cons h1, List.all_cons]
    refine Ev.succ ?_
    simp only [spec_wdIs.l0, bt_nat s i h1, w1 (show 0 ≤ (i : Int) by omega) (show (i : Int) < 9223372036854775807 by omega)]
    refine Ev.pos (by omega) (Ev.pos (by omega) (Ev.cases (fun h => ?_) (fun h => Ev.cases (fun h' => ?_) (fun h' => ?_))))
    · rw [ht.1 (Or.inl h)]; exact Ev.now _
    · rw [ht.1 (Or.inr h')]; exact Ev.now _
    · have : isLetter s.data.toList[i] = true := by
        cases hl : isLetter s.data.toList[i]
        · exact absurd (ht.2 hl) (by omega)
        · rfl
      rw [this, Bool.true_and]; exact ih
theorem wdIs_ev (s : ByteArray) (hs : s.size < 4611686018427387904) : Ev (fun k => spec_wdIs.f k s) (s.data.toList.all isLetter) := by
  have h := wdIs_l0 s hs s.data.toList.length 0 (by omega)
  simpa [spec_wdIs.f] using h

/-- a word of a set -/
def short (s : ByteArray) : Bool := decide (1 ≤ s.size ∧ s.size ≤ 8) && s.data.toList.all isLetter
theorem wdShort_ev (s : ByteArray) : Ev (fun k => spec_wdShort.f k s) (short s) := by
  unfold spec_wdShort.f short
  refine Ev.known (fun _ => spec_in _ _ _) (Ev.cases (fun h => ?_) (fun h => ?_))
  · have h' := of_decide_eq_true h
    rw [decide_eq_true (show 1 ≤ s.size ∧ s.size ≤ 8 by omega), Bool.true_and]
    exact Ev.bind (wdIs_ev s (by omega)) (Ev.now _)
  · rw [decide_eq_false (show ¬ (1 ≤ s.size ∧ s.size ≤ 8) by intro hh; exact h (decide_eq_true (by omega))), Bool.false_and]
    exact Ev.now _
theorem isShort_eq (s : ByteArray) : impl_isShort.f s = some (short s) := by
  unfold impl_isShort.f impl_isWord.f short
  by_cases h : 1 ≤ s.size ∧ s.size ≤ 8
  · rw [decide_eq_true h, decide_eq_true (show s.size ≤ 60 by omega)]
    cases s.data.toList.all isLetter
    · rfl
    · simp [impl_in_eq]; omega
  · rw [decide_eq_false h]
    cases (decide (s.size ≤ 60) && s.data.toList.all isLetter)
    · rfl
    · simp [impl_in_eq]; omega
theorem bytesLess_cmp : ∀ (x y : List UInt8), Op.bytesLess x y = decide (Lib.compareBytes x y < 0)
  | [], [] => by simp [Op.bytesLess, Lib.compareBytes]
  | _ :: _, [] => by simp [Op.bytesLess, Lib.compareBytes]
  | [], _ :: _ => by simp [Op.bytesLess, Lib.compareBytes]
  | a :: x, b :: y => by
    rw [Op.bytesLess, bytesLess_cmp x y, Lib.compareBytes]
    by_cases h1 : a < b
    · simp [h1]
    · by_cases h2 : b < a
      · have : (a == b) = false := by
          rw [beq_eq_false_iff_ne]; rintro rfl; exact h1 h2
        simp [h1, h2, this]
      · have : a = b := by
          have h1' : ¬ a.toNat < b.toNat := h1
          have h2' : ¬ b.toNat < a.toNat := h2
          exact UInt8.toNat_inj.1 (by omega)
        subst this; simp [h1]
theorem bytesLess_irrefl : ∀ (x : List UInt8), Op.bytesLess x x = false
  | [] => rfl
  | a :: x => by rw [Op.bytesLess, bytesLess_irrefl x]; simp
theorem bytesLess_trans : ∀ (x y z : List UInt8), Op.bytesLess x y = true → Op.bytesLess y z = true → Op.bytesLess x z = true
  | _, [], _ => by simp [Op.bytesLess]
  | _, _ :: _, [] => by simp [Op.bytesLess]
  | [], _ :: _, _ :: _ => by simp [Op.bytesLess]
  | a :: x, b :: y, c :: z => by
    have ih := bytesLess_trans x y z
    simp only [Op.bytesLess, Bool.or_eq_true, decide_eq_true_eq, Bool.and_eq_true, beq_iff_eq]
    intro h1 h2
    rcases h1 with h1 | ⟨rfl, h1⟩
    · rcases h2 with h2 | ⟨rfl, h2⟩
      · exact Or.inl (UInt8.lt_trans h1 h2)
      · exact Or.inl h1
    · rcases h2 with h2 | ⟨rfl, h2⟩
      · exact Or.inl h2
      · exact Or.inr ⟨rfl, ih h1 h2⟩
/-- the order of words: by length, then by letters -/
def wless (a b : ByteArray) : Bool := decide (a.size < b.size) || (decide (a.size = b.size) && Op.bytesLess a.data.toList b.data.toList)
theorem wless_irrefl (a : ByteArray) : wless a a = false := by unfold wless; rw [bytesLess_irrefl]; simp
theorem wless_trans (a b c : ByteArray) (h1 : wless a b = true) (h2 : wless b c = true) : wless a c = true := by
  unfold wless at *
  simp only [Bool.or_eq_true, decide_eq_true_eq, Bool.and_eq_true] at *
  rcases h1 with h1 | ⟨h1, g1⟩ <;> rcases h2 with h2 | ⟨h2, g2⟩
  · left; omega
  · left; omega
  · left; omega
  · exact Or.inr ⟨by omega, bytesLess_trans _ _ _ g1 g2⟩
theorem wdLess_eq (a b : ByteArray) : spec_wdLess.f a b = some (wless a b) := by
  unfold spec_wdLess.f wless
  by_cases h : a.size < b.size
  · rw [if_pos (by omega)]; simp [h]
  · rw [if_neg (by omega)]
    by_cases h' : a.size = b.size
    · rw [if_pos (by omega)]; simp [h', ByteArray.toList_eq]
    · rw [if_neg (by omega)]; simp [h, h']
theorem or2 (a b : Int) : Ev (fun k => cmp_Or_int.f k [a, b]) (if a = 0 then b else a) := by
  refine ⟨3, fun k hk => ?_⟩
  obtain ⟨k, rfl⟩ : ∃ m, k = m + 3 := ⟨k - 3, by omega⟩
  by_cases ha : a = 0 <;> by_cases hb : b = 0 <;> simp [cmp_Or_int.f, cmp_Or_int.l0, rd, wrap64, ha, hb]
theorem compareWords_ev (a b : ByteArray) : ∃ c, Ev (fun k => impl_compareWords.f k a b) c ∧ wless a b = decide (c < 0) := by
  have hn : ∀ x : Int, cmp_isNaN_int.f x = some false := fun x => by simp [cmp_isNaN_int.f]
  have hc : cmp_Compare_int.f (a.size : Int) (b.size : Int) = some (if a.size < b.size then -1 else if b.size < a.size then 1 else 0) := by
    unfold cmp_Compare_int.f
    simp only [hn, Option.bind_some]
    rw [if_neg (by simp), if_neg (by simp)]
    by_cases h1 : a.size < b.size
    · rw [if_pos (by omega), if_pos h1]
    · rw [if_neg (by omega), if_neg h1]
      by_cases h2 : b.size < a.size
      · rw [if_pos (by omega), if_pos h2]
      · rw [if_neg (by omega), if_neg h2]
  refine ⟨_, Ev.known (fun _ => hc) (Ev.known (fun _ => rfl) (Ev.bind (or2 _ _) (Ev.now _))), ?_⟩
  unfold wless
  rw [bytesLess_cmp]
  by_cases h1 : a.size < b.size
  · simp [h1]
  · by_cases h2 : b.size < a.size
    · rw [if_neg h1, if_pos h2]; simp [h1, show ¬ a.size = b.size by omega]
    · rw [if_neg h1, if_neg h2]; simp [h1, show a.size = b.size by omega]
/-- a set: words of the right size, one by one in order -/
def SetUpto (l : List ByteArray) (i : Nat) : Prop := ∀ (j : Nat) (h : j < l.length), i ≤ j → short l[j] = true ∧ (0 < j → wless l[j - 1] l[j] = true)
theorem set_l0 (l : List ByteArray) (hl : l.length ≤ 1048576) : ∀ (d i : Nat), i + d = l.length → ∃ b, Ev (fun k => spec_wdSet.l0 k l l (l.length : Int) (i : Int)) b ∧ Ev (fun k => impl_isSet.l0 k l l (l.length : Int) (i : Int)) (b && decide (l.length ≤ 12)) ∧ (b = true → SetUpto l i)
  | 0, i, hd => by
    refine ⟨true, Ev.succ ?_, Ev.succ ?_, fun _ j h hj => by omega⟩
    · simp only [spec_wdSet.l0]; exact Ev.neg (by omega) (Ev.now _)
    · simp only [impl_isSet.l0]; refine Ev.neg (by omega) (Ev.pure ?_); rw [Bool.true_and]; exact decide_eq_decide.2 (by omega)
  | d + 1, i, hd => by
    have h1 : i < l.length := by omega
    obtain ⟨b, e1, e2, hb⟩ := set_l0 l hl d (i + 1) (by omega)
    have s1 := wdShort_ev l[i]
    have s2 := isShort_eq l[i]
    cases hs : short l[i]
    · rw [hs] at s1 s2
      refine ⟨false, Ev.succ ?_, Ev.succ ?_, fun h => by cases h⟩
      · simp only [spec_wdSet.l0, rdOf_nat l i h1]
        exact Ev.pos (by omega) (Ev.pos (by omega) (Ev.pos (by omega) (Ev.bind s1 (Ev.neg (by simp) (Ev.now _)))))
      · simp only [impl_isSet.l0, rdOf_nat l i h1]
        exact Ev.pos (by omega) (Ev.pos (by omega) (Ev.pos (by omega) (Ev.known (fun _ => s2) (Ev.neg (by simp) (Ev.now _)))))
    · rw [hs] at s1 s2
      by_cases h0 : i = 0
      · refine ⟨b, Ev.succ ?_, Ev.succ ?_, fun h j hj hij => ?_⟩
        · simp only [spec_wdSet.l0, rdOf_nat l i h1, w1 (show 0 ≤ (i : Int) by omega) (show (i : Int) < 9223372036854775807 by omega)]
          exact Ev.pos (by omega) (Ev.pos (by omega) (Ev.pos (by omega) (Ev.bind s1 (Ev.pos rfl (Ev.neg (by omega) e1)))))
        · simp only [impl_isSet.l0, rdOf_nat l i h1, w1 (show 0 ≤ (i : Int) by omega) (show (i : Int) < 9223372036854775807 by omega)]
          exact Ev.pos (by omega) (Ev.pos (by omega) (Ev.pos (by omega) (Ev.known (fun _ => s2) (Ev.pos rfl (Ev.neg (by omega) e2)))))
        · by_cases he : i = j
          · subst he; exact ⟨hs, fun h => by omega⟩
          · exact hb h j hj (by omega)
      · obtain ⟨c, hc, hw⟩ := compareWords_ev l[i - 1] l[i]
        have e3 : Aside0 (wrap64 ((i : Int) - 1) = ((i - 1 : Nat) : Int)) := ⟨by rw [w64 (by omega) (by omega)]; omega⟩
        have l1 := wdLess_eq l[i - 1] l[i]
        refine ⟨wless l[i - 1] l[i] && b, Ev.succ ?_, Ev.succ ?_, fun h j hj hij => ?_⟩
        · simp only [spec_wdSet.l0, rdOf_nat l i h1, e3.out, rdOf_nat l (i - 1) (by omega), w1 (show 0 ≤ (i : Int) by omega) (show (i : Int) < 9223372036854775807 by omega)]
          refine Ev.pos (by omega) (Ev.pos (by omega) (Ev.pos (by omega) (Ev.bind s1 (Ev.pos rfl (Ev.pos (by omega) (Ev.pos (by omega) (Ev.pos (by omega) (Ev.known (fun _ => l1) (Ev.cases (fun h => ?_) (fun h => ?_))))))))))
          · rw [h, Bool.true_and]; exact e1
          · rw [Bool.eq_false_iff.mpr h, Bool.false_and]; exact Ev.now _
        · simp only [impl_isSet.l0, rdOf_nat l i h1, e3.out, rdOf_nat l (i - 1) (by omega), w1 (show 0 ≤ (i : Int) by omega) (show (i : Int) < 9223372036854775807 by omega)]
          refine Ev.pos (by omega) (Ev.pos (by omega) (Ev.pos (by omega) (Ev.known (fun _ => s2) (Ev.pos rfl (Ev.pos (by omega) (Ev.pos (by omega) (Ev.pos (by omega) (Ev.bind hc (Ev.cases (fun h => ?_) (fun h => ?_))))))))))
          · rw [hw, decide_eq_false (by omega)]; exact Ev.now _
          · rw [hw, decide_eq_true (by omega)]; exact e2
        · simp only [Bool.and_eq_true] at h
          by_cases he : i = j
          · subst he; exact ⟨hs, fun _ => h.1⟩
          · exact hb h.2 j hj (by omega)
/-- what a set is -/
structure IsSet (l : List ByteArray) : Prop where
  few : l.length ≤ 12
  each : SetUpto l 0
theorem isSet_same (l : List ByteArray) (hl : l.length ≤ 1048576) : ∃ b, Ev (fun k => spec_wdSet.f k l) b ∧ Ev (fun k => impl_isSet.f k l) b ∧ (b = true → IsSet l) := by
  obtain ⟨b, h1, h2, hb⟩ := set_l0 l hl l.length 0 (by omega)
  unfold spec_wdSet.f impl_isSet.f
  by_cases h12 : l.length ≤ 12
  · rw [decide_eq_true h12, Bool.and_true] at h2
    exact ⟨b, Ev.neg (by omega) h1, h2, fun h => ⟨h12, hb h⟩⟩
  · rw [decide_eq_false h12, Bool.and_false] at h2
    exact ⟨false, Ev.pos (by omega) (Ev.now _), h2, fun h => by cases h⟩
theorem IsSet.lt {l : List ByteArray} (h : IsSet l) : ∀ (j i : Nat) (hj : j < l.length) (hi : i < j), wless l[i] l[j] = true
  | 0, i, hj, hi => by omega
  | j + 1, i, hj, hi => by
    have h1 := (h.each (j + 1) hj (by omega)).2 (by omega)
    by_cases e : i = j
    · subst e; exact h1
    · exact wless_trans _ _ _ (h.lt j i (by omega) (by omega)) h1
theorem IsSet.short {l : List ByteArray} (h : IsSet l) (w : ByteArray) (hw : w ∈ l) : Pure.short w = true := by
  obtain ⟨i, hi, rfl⟩ := List.getElem_of_mem hw
  exact (h.each i hi (by omega)).1
theorem IsSet.size {l : List ByteArray} (h : IsSet l) (w : ByteArray) (hw : w ∈ l) : 1 ≤ w.size ∧ w.size ≤ 8 := by
  have := h.short w hw
  unfold Pure.short at this
  simp only [Bool.and_eq_true, decide_eq_true_eq] at this
  exact this.1

/-- a text's letters -/
abbrev ch (s : ByteArray) : List UInt8 := s.data.toList
theorem ch_length (s : ByteArray) : (ch s).length = s.size := Array.length_toList
theorem ch_extract (s : ByteArray) (a b : Nat) : ch (s.extract a b) = ((ch s).drop a).take (b - a) := by
  simp [ch, ByteArray.data_extract, Array.toList_extract, List.extract_eq_take_drop]
theorem ch_drop (s : ByteArray) (a : Nat) : ch (s.extract a s.size) = (ch s).drop a := by
  rw [ch_extract, List.take_of_length_le]; simp only [List.length_drop, ch_length]; omega
theorem begins_test (a w : ByteArray) (h : w.size ≤ a.size) : ((a.extract 0 w.size).toList == w.toList) = (ch w).isPrefixOf (ch a) := by
  rw [ByteArray.toList_eq, ByteArray.toList_eq]
  change (ch (a.extract 0 w.size) == ch w) = _
  rw [ch_extract, List.drop_zero, Nat.sub_zero, ← ch_length w, Bool.eq_iff_iff, beq_iff_eq, List.isPrefixOf_iff_prefix, List.prefix_iff_eq_take]
  exact eq_comm
theorem prefix_long (a w : ByteArray) (h : ¬ w.size ≤ a.size) : (ch w).isPrefixOf (ch a) = false := by
  rw [Bool.eq_false_iff]
  intro hp
  have := (List.isPrefixOf_iff_prefix.1 hp).length_le
  rw [ch_length, ch_length] at this
  exact h this
theorem wdBegins_eq (a w : ByteArray) : spec_wdBegins.f a w = some ((ch w).isPrefixOf (ch a)) := by
  unfold spec_wdBegins.f
  by_cases h : w.size ≤ a.size
  · rw [if_pos (by omega), if_pos (by omega), begins_test a w h]
  · rw [if_neg (by omega), prefix_long a w h]
theorem hasPrefix_eq (a w : ByteArray) : strings_HasPrefix.f a w = some ((ch w).isPrefixOf (ch a)) := by
  unfold strings_HasPrefix.f stringslite_HasPrefix.f
  by_cases h : w.size ≤ a.size
  · rw [if_pos (by omega), if_pos (by omega), if_pos (by omega), begins_test a w h]; rfl
  · rw [if_neg (by omega), prefix_long a w h]; rfl

theorem wrap_add (a b : Int) : wrap64 (wrap64 a + wrap64 b) = wrap64 (a + b) := by unfold wrap64; omega
theorem wrap_zero : wrap64 0 = 0 := by unfold wrap64; omega
theorem wrap_one : wrap64 1 = 1 := by unfold wrap64; omega
/-- how often a text is written with words -/
def cnt (W : List (List UInt8)) (s : List UInt8) : Nat :=
  if s = [] then 1 else (W.map fun w => if h : w ≠ [] ∧ w.isPrefixOf s = true then cnt W (s.drop w.length) else 0).sum
termination_by s.length
decreasing_by
  have h1 : w.length ≠ 0 := by intro e; exact h.1 (List.eq_nil_of_length_eq_zero e)
  have h2 : w.length ≤ s.length := (List.isPrefixOf_iff_prefix.1 h.2).length_le
  simp only [List.length_drop]
  omega
/-- what one word adds to the count -/
def term (W : List (List UInt8)) (s w : List UInt8) : Nat := if w ≠ [] ∧ w.isPrefixOf s = true then cnt W (s.drop w.length) else 0
theorem cnt_nil (W : List (List UInt8)) : cnt W [] = 1 := by rw [cnt]; simp
theorem cnt_ne (W : List (List UInt8)) (s : List UInt8) (h : s ≠ []) : cnt W s = (W.map (term W s)).sum := by
  rw [cnt, if_neg h]
  rfl
theorem cnt_le (W : List (List UInt8)) (c : Nat) (hc : W.length ≤ c) (h0c : 0 < c) : ∀ (n : Nat) (s : List UInt8), s.length = n → cnt W s ≤ c ^ n := by
  intro n
  induction n using Nat.strongRecOn with
  | _ n ih =>
    intro s hs
    by_cases h0 : s = []
    · subst h0; subst hs; rw [cnt_nil]; simp
    · rw [cnt_ne W s h0]
      have hn : 0 < n := by rw [← hs]; exact List.length_pos_iff.2 h0
      have h1 : ∀ w, term W s w ≤ c ^ (n - 1) := by
        intro w
        unfold term
        by_cases hw : w ≠ [] ∧ w.isPrefixOf s = true
        · rw [if_pos hw]
          have h1 : 0 < w.length := List.length_pos_iff.2 hw.1
          have h2 : w.length ≤ s.length := (List.isPrefixOf_iff_prefix.1 hw.2).length_le
          exact Nat.le_trans (ih _ (by simp only [List.length_drop]; omega) _ rfl) (Nat.pow_le_pow_right h0c (by simp only [List.length_drop]; omega))
        · rw [if_neg hw]; exact Nat.zero_le _
      have h2 : ∀ (V : List (List UInt8)), (V.map (term W s)).sum ≤ V.length * c ^ (n - 1) := by
        intro V
        induction V with
        | nil => simp
        | cons v V ihV => rw [List.map_cons, List.sum_cons, List.length_cons, Nat.succ_mul]; have := h1 v; omega
      calc (W.map (term W s)).sum ≤ W.length * c ^ (n - 1) := h2 W
        _ ≤ c * c ^ (n - 1) := Nat.mul_le_mul_right _ hc
        _ = c ^ n := by rw [Nat.mul_comm, ← Nat.pow_succ]; congr 1; omega

theorem cnt_take (W : List (List UInt8)) (s : List UInt8) (i : Nat) (h : i < W.length) : ((W.take (i + 1)).map (term W s)).sum = ((W.take i).map (term W s)).sum + term W s W[i] := by
  rw [List.take_succ_eq_append_getElem h, List.map_append, List.sum_append]; simp
/-- the reference's table while place p is worked at -/
def tabS (W : List (List UInt8)) (s : List UInt8) (p : Nat) (v : Int) : List Int := (List.range (s.length + 1)).map fun j => if j < p then 0 else if j = p then v else wrap64 (cnt W (s.drop j) : Int)
theorem tabS_length (W : List (List UInt8)) (s : List UInt8) (p : Nat) (v : Int) : (tabS W s p v).length = s.length + 1 := by simp [tabS]
theorem tabS_at (W : List (List UInt8)) (s : List UInt8) (p : Nat) (v : Int) (j : Nat) (h : j < s.length + 1) : rd (tabS W s p v) (j : Int) = if j < p then 0 else if j = p then v else wrap64 (cnt W (s.drop j) : Int) := by
  rw [rd_nat _ j (by rw [tabS_length]; exact h)]; simp [tabS]
theorem tabS_set (W : List (List UInt8)) (s : List UInt8) (p : Nat) (v v' : Int) : (tabS W s p v).set p v' = tabS W s p v' := by
  apply List.ext_getElem
  · simp [tabS]
  · intro j h1 h2
    rw [List.getElem_set]
    by_cases e : p = j
    · subst e; simp [tabS]
    · rw [if_neg e]; simp [tabS, show ¬ j = p by omega]
theorem tabS_next (W : List (List UInt8)) (s : List UInt8) (p : Nat) (v : Int) (hv : v = wrap64 (cnt W (s.drop (p + 1)) : Int)) : tabS W s (p + 1) v = tabS W s p 0 := by
  unfold tabS
  apply List.map_congr_left
  intro j _
  subst hv
  by_cases h1 : j < p
  · rw [if_pos (by omega), if_pos h1]
  · by_cases h2 : j = p
    · rw [if_pos (by omega), if_neg h1, if_pos h2]
    · rw [if_neg (by omega), if_neg h1, if_neg h2]
      by_cases h3 : j = p + 1
      · rw [if_pos h3, h3]
      · rw [if_neg h3]
theorem dcCount_l1 (l : List ByteArray) (t : ByteArray) (hl : l.length ≤ 1048576) (hne : ∀ w ∈ l, 1 ≤ w.size) (ht : t.size ≤ 1048576) (p : Nat) (hp : p < t.size) (r : Int)
    (next : Ev (fun k => spec_dcCount.l0 k l t (tabS (l.map ch) (ch t) p (wrap64 (cnt (l.map ch) ((ch t).drop p) : Int))) (wrap64 ((p : Int) - 1))) r) :
    ∀ (d i : Nat), i + d = l.length → Ev (fun k => spec_dcCount.l1 k l t (tabS (l.map ch) (ch t) p (wrap64 (((((l.map ch).take i).map (term (l.map ch) ((ch t).drop p))).sum : Nat) : Int))) (p : Int) l (l.length : Int) (i : Int)) r
  | 0, i, hd => by
    refine Ev.succ ?_
    simp only [spec_dcCount.l1]
    refine Ev.neg (by omega) ?_
    rw [List.take_of_length_le (by simp; omega), ← cnt_ne]
    · exact next
    · intro e
      have : ((ch t).drop p).length = 0 := by rw [e]; rfl
      simp only [List.length_drop, ch_length] at this; omega
  | d + 1, i, hd => by
    have h1 : i < l.length := by omega
    have h1' : i < (l.map ch).length := by simp; omega
    have ih := dcCount_l1 l t hl hne ht p hp r next d (i + 1) (by omega)
    rw [cnt_take _ _ i h1'] at ih
    have hw := hne _ (List.getElem_mem h1)
    have hlen := tabS_length (l.map ch) (ch t) p
    have hct := ch_length t
    have hb := wdBegins_eq (t.extract (p : Nat) t.size) l[i]
    rw [ch_drop] at hb
    refine Ev.succ ?_
    simp only [spec_dcCount.l1, rdOf_nat l i h1, Int.toNat_natCast, w1 (show 0 ≤ (i : Int) by omega) (show (i : Int) < 9223372036854775807 by omega)]
    refine Ev.pos (by omega) (Ev.pos (by omega) (Ev.pos (by omega) (Ev.pos (by omega) (Ev.pos (by omega) (Ev.known (fun _ => hb) (Ev.cases (fun h => ?_) (fun h => ?_)))))))
    · have hle := (List.isPrefixOf_iff_prefix.1 h).length_le
      simp only [List.length_drop, ch_length] at hle
      have e1 : Aside0 (wrap64 ((p : Int) + (l[i].size : Int)) = ((p + l[i].size : Nat) : Int)) := ⟨by rw [w64 (by omega) (by omega)]; omega⟩
      have hterm : term (l.map ch) ((ch t).drop p) (l.map ch)[i] = cnt (l.map ch) ((ch t).drop (p + l[i].size)) := by
        unfold term
        rw [List.getElem_map, if_pos ⟨fun e => by have := ch_length l[i]; rw [e] at this; simp at this; omega, h⟩, List.drop_drop, ch_length]
      simp only [e1.out]
      refine Ev.pos (by rw [hlen]; omega) (Ev.pos (by omega) (Ev.pos (by rw [hlen]; omega) ?_))
      rw [tabS_at _ _ _ _ p (by omega), tabS_at _ _ _ _ (p + l[i].size) (by omega), if_neg (by omega), if_pos rfl, if_neg (by omega), if_neg (by omega), wrap_add, tabS_set, ← hterm]
      rw [Int.natCast_add] at ih
      exact ih
    · have hterm : term (l.map ch) ((ch t).drop p) (l.map ch)[i] = 0 := by
        unfold term
        rw [List.getElem_map, if_neg (fun hh => h hh.2)]
      rw [hterm, Nat.add_zero] at ih
      exact ih
theorem dcCount_l0 (l : List ByteArray) (t : ByteArray) (hl : l.length ≤ 1048576) (hne : ∀ w ∈ l, 1 ≤ w.size) (ht : t.size ≤ 1048576) : ∀ (p : Nat), p ≤ t.size → Ev (fun k => spec_dcCount.l0 k l t (tabS (l.map ch) (ch t) p (wrap64 (cnt (l.map ch) ((ch t).drop p) : Int))) (wrap64 ((p : Int) - 1))) (wrap64 (cnt (l.map ch) (ch t) : Int))
  | 0, hp => by
    refine Ev.succ ?_
    simp only [spec_dcCount.l0, show wrap64 (((0 : Nat) : Int) - 1) = -1 from by unfold wrap64; omega]
    refine Ev.neg (by omega) (Ev.pos (by rw [tabS_length]; omega) (Ev.pure ?_))
    have := tabS_at (l.map ch) (ch t) 0 (wrap64 (cnt (l.map ch) ((ch t).drop 0) : Int)) 0 (by omega)
    simpa using this
  | p + 1, hp => by
    have ih := dcCount_l0 l t hl hne ht p (by omega)
    have h := dcCount_l1 l t hl hne ht p (by omega) _ ih l.length 0 (by omega)
    have e : Aside0 (wrap64 (((p + 1 : Nat) : Int) - 1) = (p : Int)) := ⟨by rw [w64 (by omega) (by omega)]; omega⟩
    refine Ev.succ ?_
    simp only [spec_dcCount.l0, e.out]
    refine Ev.pos (by omega) ?_
    rw [tabS_next _ _ p _ rfl]
    simpa [wrap_zero] using h
theorem dcCount_ev (l : List ByteArray) (t : ByteArray) (hl : l.length ≤ 1048576) (hne : ∀ w ∈ l, 1 ≤ w.size) (ht : t.size ≤ 1048576) : Ev (fun k => spec_dcCount.f k l t) (wrap64 (cnt (l.map ch) (ch t) : Int)) := by
  have h := dcCount_l0 l t hl hne ht t.size (by omega)
  have hct := ch_length t
  have e0 : (List.replicate (t.size + 1) (0 : Int)).set t.size 1 = tabS (l.map ch) (ch t) t.size (wrap64 (cnt (l.map ch) ((ch t).drop t.size) : Int)) := by
    apply List.ext_getElem
    · simp [tabS, hct]
    · intro j h1 h2
      have hj : j < t.size + 1 := by simpa using h1
      rw [List.getElem_set]
      by_cases e : t.size = j
      · subst e
        simp [tabS, List.drop_of_length_le (Nat.le_of_eq hct), cnt_nil, wrap_one]
      · rw [if_neg e]
        simp [tabS, show j < t.size by omega]
  have e1 := w1 (show 0 ≤ (t.size : Int) by omega) (by omega)
  unfold spec_dcCount.f
  rw [e1]
  refine Ev.pos (by omega) (Ev.pos (by omega) (Ev.known (fun _ => rfl) (Ev.pos (by omega) (Ev.pos (by simp; omega) ?_))))
  rw [show ((t.size : Int) + 1).toNat = t.size + 1 by omega, Int.toNat_natCast, e0]
  exact h

/-- the program's table while place p is worked at -/
def tabI (W : List (List UInt8)) (s : List UInt8) (p : Nat) (v : Int) : List Int := (List.range (s.length + 1)).map fun j => if j < p then wrap64 (cnt W (s.drop (s.length - j)) : Int) else if j = p then v else 0
theorem tabI_length (W : List (List UInt8)) (s : List UInt8) (p : Nat) (v : Int) : (tabI W s p v).length = s.length + 1 := by simp [tabI]
theorem tabI_at (W : List (List UInt8)) (s : List UInt8) (p : Nat) (v : Int) (j : Nat) (h : j < s.length + 1) : rd (tabI W s p v) (j : Int) = if j < p then wrap64 (cnt W (s.drop (s.length - j)) : Int) else if j = p then v else 0 := by
  rw [rd_nat _ j (by rw [tabI_length]; exact h)]; simp [tabI]
theorem tabI_set (W : List (List UInt8)) (s : List UInt8) (p : Nat) (v v' : Int) : (tabI W s p v).set p v' = tabI W s p v' := by
  apply List.ext_getElem
  · simp [tabI]
  · intro j h1 h2
    rw [List.getElem_set]
    by_cases e : p = j
    · subst e; simp [tabI]
    · rw [if_neg e]; simp [tabI, show ¬ j = p by omega]
theorem tabI_next (W : List (List UInt8)) (s : List UInt8) (p : Nat) (v : Int) (hv : v = wrap64 (cnt W (s.drop (s.length - p)) : Int)) : tabI W s p v = tabI W s (p + 1) 0 := by
  unfold tabI
  apply List.map_congr_left
  intro j _
  subst hv
  by_cases h1 : j < p
  · rw [if_pos h1, if_pos (by omega)]
  · by_cases h2 : j = p
    · rw [if_neg h1, if_pos h2, if_pos (by omega), h2]
    · rw [if_neg h1, if_neg h2, if_neg (by omega)]
      by_cases h3 : j = p + 1
      · rw [if_pos h3]
      · rw [if_neg h3]
theorem readings_l1 (l : List ByteArray) (t : ByteArray) (hl : l.length ≤ 1048576) (hne : ∀ w ∈ l, 1 ≤ w.size) (ht : t.size ≤ 1048576) (p : Nat) (hp0 : 0 < p) (hp : p ≤ t.size) (r : List Int)
    (next : Ev (fun k => impl_readings.l0 k l t (tabI (l.map ch) (ch t) p (wrap64 (cnt (l.map ch) ((ch t).drop (t.size - p)) : Int))) (wrap64 ((p : Int) + 1))) r) :
    ∀ (d i : Nat), i + d = l.length → Ev (fun k => impl_readings.l1 k l t (tabI (l.map ch) (ch t) p (wrap64 (((((l.map ch).take i).map (term (l.map ch) ((ch t).drop (t.size - p)))).sum : Nat) : Int))) (p : Int) (t.extract (t.size - p) t.size) l (l.length : Int) (i : Int)) r
  | 0, i, hd => by
    refine Ev.succ ?_
    simp only [impl_readings.l1]
    refine Ev.neg (by omega) ?_
    rw [List.take_of_length_le (by simp; omega), ← cnt_ne]
    · exact next
    · intro e
      have : ((ch t).drop (t.size - p)).length = 0 := by rw [e]; rfl
      simp only [List.length_drop, ch_length] at this; omega
  | d + 1, i, hd => by
    have h1 : i < l.length := by omega
    have h1' : i < (l.map ch).length := by simp; omega
    have ih := readings_l1 l t hl hne ht p hp0 hp r next d (i + 1) (by omega)
    rw [cnt_take _ _ i h1'] at ih
    have hw := hne _ (List.getElem_mem h1)
    have hlen := tabI_length (l.map ch) (ch t) p
    have hct := ch_length t
    have hb := hasPrefix_eq (t.extract (t.size - p) t.size) l[i]
    rw [ch_drop] at hb
    refine Ev.succ ?_
    simp only [impl_readings.l1, rdOf_nat l i h1, Int.toNat_natCast, w1 (show 0 ≤ (i : Int) by omega) (show (i : Int) < 9223372036854775807 by omega)]
    refine Ev.pos (by omega) (Ev.pos (by omega) (Ev.pos (by omega) (Ev.known (fun _ => hb) (Ev.cases (fun h => ?_) (fun h => ?_)))))
    · have hle := (List.isPrefixOf_iff_prefix.1 h).length_le
      simp only [List.length_drop, ch_length] at hle
      have e1 : Aside0 (wrap64 ((p : Int) - (l[i].size : Int)) = ((p - l[i].size : Nat) : Int)) := ⟨by rw [w64 (by omega) (by omega)]; omega⟩
      have hterm : term (l.map ch) ((ch t).drop (t.size - p)) (l.map ch)[i] = cnt (l.map ch) ((ch t).drop (t.size - (p - l[i].size))) := by
        unfold term
        rw [List.getElem_map, if_pos ⟨fun e => by have := ch_length l[i]; rw [e] at this; simp at this; omega, h⟩, List.drop_drop, ch_length]
        congr 2; omega
      simp only [e1.out]
      refine Ev.pos (by omega) (Ev.pos (by rw [hlen]; omega) (Ev.pos (by omega) (Ev.pos (by rw [hlen]; omega) ?_)))
      rw [tabI_at _ _ _ _ p (by omega), tabI_at _ _ _ _ (p - l[i].size) (by omega), if_neg (by omega), if_pos rfl, if_pos (by omega), hct, wrap_add, tabI_set, ← hterm]
      rw [Int.natCast_add] at ih
      exact ih
    · have hterm : term (l.map ch) ((ch t).drop (t.size - p)) (l.map ch)[i] = 0 := by
        unfold term
        rw [List.getElem_map, if_neg (fun hh => h hh.2)]
      rw [hterm, Nat.add_zero] at ih
      exact ih
theorem readings_l0 (l : List ByteArray) (t : ByteArray) (hl : l.length ≤ 1048576) (hne : ∀ w ∈ l, 1 ≤ w.size) (ht : t.size ≤ 1048576) : ∀ (d p : Nat), p + d = t.size + 1 → 0 < p → Ev (fun k => impl_readings.l0 k l t (tabI (l.map ch) (ch t) p 0) (p : Int)) (tabI (l.map ch) (ch t) (t.size + 1) 0)
  | 0, p, hd, h0 => by
    refine Ev.succ ?_
    simp only [impl_readings.l0]
    exact Ev.neg (by omega) (Ev.pure (by rw [show p = t.size + 1 by omega]))
  | d + 1, p, hd, h0 => by
    have hct := ch_length t
    have ih := readings_l0 l t hl hne ht d (p + 1) (by omega) (by omega)
    rw [← tabI_next _ _ p _ rfl, hct] at ih
    have h := readings_l1 l t hl hne ht p h0 (by omega) _ (by rw [w1 (by omega) (by omega)]; exact ih) l.length 0 (by omega)
    have e : Aside0 (wrap64 ((t.size : Int) - (p : Int)) = ((t.size - p : Nat) : Int)) := ⟨by rw [w64 (by omega) (by omega)]; omega⟩
    refine Ev.succ ?_
    simp only [impl_readings.l0, e.out, Int.toNat_natCast]
    exact Ev.pos (by omega) (Ev.pos (by omega) (Ev.pos (by omega) (by simpa [wrap_zero] using h)))
theorem readings_ev (l : List ByteArray) (t : ByteArray) (hl : l.length ≤ 1048576) (hne : ∀ w ∈ l, 1 ≤ w.size) (ht : t.size ≤ 1048576) : Ev (fun k => impl_readings.f k l t) (tabI (l.map ch) (ch t) (t.size + 1) 0) := by
  have h := readings_l0 l t hl hne ht t.size 1 (by omega) (by omega)
  have hct := ch_length t
  have e0 : (List.replicate (t.size + 1) (0 : Int)).set 0 1 = tabI (l.map ch) (ch t) 1 0 := by
    apply List.ext_getElem
    · simp [tabI, hct]
    · intro j h1 h2
      rw [List.getElem_set]
      by_cases e : 0 = j
      · subst e
        simp [tabI, List.drop_of_length_le (Nat.le_of_eq hct), cnt_nil, wrap_one]
      · rw [if_neg e]
        simp [tabI, show ¬ j = 0 by omega]
  have e1 := w1 (show 0 ≤ (t.size : Int) by omega) (by omega)
  unfold impl_readings.f
  rw [e1]
  refine Ev.pos (by omega) (Ev.pos (by omega) (Ev.known (fun _ => rfl) (Ev.pos (by simp) ?_)))
  rw [show ((t.size : Int) + 1).toNat = t.size + 1 by omega]
  try rw [show (0 : Int).toNat = 0 from rfl]
  rw [e0]
  exact h
theorem countReadings_ev (l : List ByteArray) (t : ByteArray) (hl : l.length ≤ 1048576) (hne : ∀ w ∈ l, 1 ≤ w.size) (ht : t.size ≤ 1048576) : Ev (fun k => impl_countReadings.f k l t) (wrap64 (cnt (l.map ch) (ch t) : Int)) := by
  have hct := ch_length t
  unfold impl_countReadings.f
  refine Ev.bind (readings_ev l t hl hne ht) (Ev.pos (by omega) (Ev.pos (by rw [tabI_length]; omega) (Ev.pure ?_)))
  rw [tabI_at _ _ _ _ t.size (by omega), if_pos (by omega), hct, Nat.sub_self, List.drop_zero]

/-- one reading of a text, if there is one -/
theorem dcReadings1 (l : List ByteArray) (hl : l.length ≤ 12) (hne : ∀ w ∈ l, 1 ≤ w.size) : ∀ (n : Nat) (t : ByteArray), t.size = n → t.size ≤ 8 → ∃ rs : List (List Int), Ev (fun k => spec_dcReadings.f k l t 1) rs ∧ (rs.length = if cnt (l.map ch) (ch t) = 0 then 0 else 1) ∧ ∀ r ∈ rs, r.length ≤ t.size := by
  intro n
  induction n using Nat.strongRecOn with
  | _ n ih =>
    intro t htn ht
    have hct := ch_length t
    by_cases h0 : t.size = 0
    · refine ⟨[[]], Ev.succ ?_, ?_, by simp⟩
      · simp only [spec_dcReadings.f]
        have : t.toList = [] := by rw [ByteArray.toList_eq]; exact List.eq_nil_of_length_eq_zero (show (ch t).length = 0 by omega)
        exact Ev.pos this (Ev.now _)
      · rw [List.eq_nil_of_length_eq_zero (show (ch t).length = 0 by omega), cnt_nil]; rfl
    · have hne0 : ch t ≠ [] := fun e => by rw [e] at hct; simp at hct; omega
      have loop : ∀ (d i : Nat), i + d = l.length → ∃ rs : List (List Int), Ev (fun k => spec_dcReadings.l0 k l t 1 [] l (l.length : Int) (i : Int)) rs ∧ (rs.length = if (((l.map ch).drop i).map (term (l.map ch) (ch t))).sum = 0 then 0 else 1) ∧ ∀ r ∈ rs, r.length ≤ t.size := by
        intro d
        induction d with
        | zero =>
          intro i hd
          refine ⟨[], Ev.succ ?_, ?_, by simp⟩
          · simp only [spec_dcReadings.l0]; exact Ev.neg (by omega) (Ev.now _)
          · rw [List.drop_of_length_le (by simp; omega)]; rfl
        | succ d ihd =>
          intro i hd
          have h1 : i < l.length := by omega
          have h1' : i < (l.map ch).length := by simp; omega
          obtain ⟨rs, hrs, hlen, hbd⟩ := ihd (i + 1) (by omega)
          have hw := hne _ (List.getElem_mem h1)
          have hb := wdBegins_eq t l[i]
          have hskip : Ev (fun k => spec_dcReadings.j1 k l t 1 [] (i : Int) l[i] l (l.length : Int) (i : Int) true) rs := by
            refine Ev.succ ?_
            simp only [spec_dcReadings.j1, w1 (show 0 ≤ (i : Int) by omega) (show (i : Int) < 9223372036854775807 by omega)]
            exact Ev.pos (by simp) hrs
          rw [List.drop_eq_getElem_cons h1', List.map_cons, List.sum_cons]
          by_cases hp : (ch l[i]).isPrefixOf (ch t) = true
          · have hle := (List.isPrefixOf_iff_prefix.1 hp).length_le
            rw [ch_length, ch_length] at hle
            have hterm : term (l.map ch) (ch t) (l.map ch)[i] = cnt (l.map ch) ((ch t).drop l[i].size) := by
              unfold term
              rw [List.getElem_map, if_pos ⟨fun e => by have := ch_length l[i]; rw [e] at this; simp at this; omega, hp⟩, ch_length]
            have hdc := dcCount_ev l (t.extract l[i].size t.size) (by omega) hne (by simp; omega)
            rw [ch_drop, ← hterm] at hdc
            have hbd2 : term (l.map ch) (ch t) (l.map ch)[i] ≤ 12 ^ 8 := by
              rw [hterm]
              refine Nat.le_trans (cnt_le _ 12 (by simp; omega) (by omega) _ _ rfl) (Nat.pow_le_pow_right (by omega) ?_)
              simp only [List.length_drop, ch_length]; omega
            by_cases hz : term (l.map ch) (ch t) (l.map ch)[i] = 0
            · refine ⟨rs, Ev.succ ?_, ?_, hbd⟩
              · simp only [spec_dcReadings.l0, rdOf_nat l i h1]
                refine Ev.pos (by omega) (Ev.pos (by omega) (Ev.pos (by omega) (Ev.known (fun _ => hb) (Ev.pos hp (Ev.pos (by omega) (Ev.pos (by omega) (Ev.bind hdc ?_)))))))
                rw [hz, show (wrap64 ((0 : Nat) : Int) == 0) = true from by rw [show ((0 : Nat) : Int) = 0 from rfl, wrap_zero]; rfl]
                exact hskip
              · rw [hz, Nat.zero_add]; exact hlen
            · have hsz : (t.extract l[i].size t.size).size = t.size - l[i].size := by simp
              obtain ⟨us, hus, hul, hub⟩ := ih (t.size - l[i].size) (by omega) (t.extract l[i].size t.size) hsz (by omega)
              rw [ch_drop, ← hterm, if_neg hz] at hul
              obtain ⟨u, rfl⟩ : ∃ u, us = [u] := by
                match us, hul with
                | [u], _ => exact ⟨u, rfl⟩
              have hu := hub u (by simp)
              have hrd : rd_L2 [u] 0 = u := rfl
              refine ⟨[[(i : Int)] ++ u], Ev.succ ?_, by rw [if_neg (by omega)]; rfl, by simp; omega⟩
              simp only [spec_dcReadings.l0, rdOf_nat l i h1]
              refine Ev.pos (by omega) (Ev.pos (by omega) (Ev.pos (by omega) (Ev.known (fun _ => hb) (Ev.pos hp (Ev.pos (by omega) (Ev.pos (by omega) (Ev.bind hdc ?_)))))))
              rw [w64 (by omega) (by omega), show (((term (l.map ch) (ch t) (l.map ch)[i] : Nat) : Int) == 0) = false from by rw [beq_eq_false_iff_ne]; omega]
              refine Ev.succ ?_
              simp only [spec_dcReadings.j1, show wrap64 (1 - (([] : List (List Int)).length : Int)) = 1 from by unfold wrap64; simp]
              refine Ev.neg (by simp) (Ev.pos (by omega) (Ev.pos (by omega) (Ev.bind hus ?_)))
              refine Ev.succ ?_
              simp only [spec_dcReadings.l1, hrd]
              refine Ev.pos (by simp) (Ev.pos (by omega) (Ev.pos (by simp) (Ev.pos (by simp) (Ev.known (fun _ => rfl) (Ev.pos (by simp; omega) (Ev.pos (by simp) ?_))))))
              refine Ev.succ ?_
              simp only [spec_dcReadings.l1, show wrap64 (0 + 1) = 1 from by unfold wrap64; omega]
              exact Ev.neg (by simp) (Ev.pos (by simp) (Ev.pure (by simp)))
          · have hterm : term (l.map ch) (ch t) (l.map ch)[i] = 0 := by
              unfold term
              rw [List.getElem_map, if_neg (fun hh => hp hh.2)]
            refine ⟨rs, Ev.succ ?_, by rw [hterm, Nat.zero_add]; exact hlen, hbd⟩
            simp only [spec_dcReadings.l0, rdOf_nat l i h1]
            exact Ev.pos (by omega) (Ev.pos (by omega) (Ev.pos (by omega) (Ev.known (fun _ => hb) (Ev.neg hp hskip))))
      obtain ⟨rs, hrs, hlen, hbd⟩ := loop l.length 0 (by omega)
      refine ⟨rs, Ev.succ ?_, ?_, hbd⟩
      · simp only [spec_dcReadings.f]
        have : ¬ t.toList = [] := by rw [ByteArray.toList_eq]; exact hne0
        exact Ev.neg this hrs
      · rw [cnt_ne _ _ hne0]; exact hlen

theorem sum_at (f : List UInt8 → Nat) (W : List (List UInt8)) (i : Nat) (h : i < W.length) : (W.map f).sum = ((W.take i ++ W.drop (i + 1)).map f).sum + f W[i] := by
  have e : W = W.take i ++ (W[i] :: W.drop (i + 1)) := by rw [← List.drop_eq_getElem_cons h, List.take_append_drop]
  have e2 : (W.map f).sum = ((W.take i ++ (W[i] :: W.drop (i + 1))).map f).sum := by rw [← e]
  rw [e2, List.map_append, List.map_append, List.sum_append, List.sum_append, List.map_cons, List.sum_cons]; omega
theorem cnt_others_short (W : List (List UInt8)) (i : Nat) (h : i < W.length) : ∀ (n : Nat) (s : List UInt8), s.length = n → s.length < W[i].length → cnt W s = cnt (W.take i ++ W.drop (i + 1)) s := by
  intro n
  induction n using Nat.strongRecOn with
  | _ n ih =>
    intro s hs hl
    by_cases h0 : s = []
    · subst h0; rw [cnt_nil, cnt_nil]
    · have hn : 0 < s.length := List.length_pos_iff.2 h0
      rw [cnt_ne _ _ h0, cnt_ne _ _ h0, sum_at _ W i h]
      have e1 : term W s W[i] = 0 := by
        unfold term
        rw [if_neg]
        rintro ⟨_, hp⟩
        have := (List.isPrefixOf_iff_prefix.1 hp).length_le
        omega
      rw [e1, Nat.add_zero]
      congr 1
      apply List.map_congr_left
      intro v _
      unfold term
      by_cases hv : v ≠ [] ∧ v.isPrefixOf s = true
      · rw [if_pos hv, if_pos hv]
        have := List.length_pos_iff.2 hv.1
        exact ih _ (by simp only [List.length_drop]; omega) _ rfl (by simp only [List.length_drop]; omega)
      · rw [if_neg hv, if_neg hv]
theorem cnt_others (W : List (List UInt8)) (i : Nat) (h : i < W.length) (hw : W[i] ≠ []) (hd : ∀ v ∈ W.take i ++ W.drop (i + 1), v ≠ W[i]) : cnt W W[i] = cnt (W.take i ++ W.drop (i + 1)) W[i] + 1 := by
  rw [cnt_ne _ _ hw, cnt_ne _ _ hw, sum_at _ W i h]
  have e1 : term W W[i] W[i] = 1 := by
    unfold term
    rw [if_pos ⟨hw, List.isPrefixOf_iff_prefix.2 (List.prefix_refl _)⟩, List.drop_of_length_le (Nat.le_refl _), cnt_nil]
  rw [e1]
  congr 2
  apply List.map_congr_left
  intro v hm
  unfold term
  by_cases hv : v ≠ [] ∧ v.isPrefixOf W[i] = true
  · rw [if_pos hv, if_pos hv]
    have h1 := List.length_pos_iff.2 hv.1
    have h2 := List.length_pos_iff.2 hw
    exact cnt_others_short W i h _ _ rfl (by simp only [List.length_drop]; omega)
  · rw [if_neg hv, if_neg hv]

theorem IsSet.others {l : List ByteArray} (h : IsSet l) (i : Nat) (hi : i < l.length) : ∀ v ∈ l.take i ++ l.drop (i + 1), v ≠ l[i] := by
  intro v hv
  rcases List.mem_append.1 hv with hv | hv
  · obtain ⟨j, hj, rfl⟩ := List.getElem_of_mem hv
    rw [List.length_take] at hj
    rw [List.getElem_take]
    intro e
    have := h.lt i j hi (by omega)
    rw [e, wless_irrefl] at this; cases this
  · obtain ⟨j, hj, rfl⟩ := List.getElem_of_mem hv
    rw [List.length_drop] at hj
    rw [List.getElem_drop]
    intro e
    have := h.lt (i + 1 + j) i (by omega) (by omega)
    rw [e, wless_irrefl] at this; cases this
theorem ch_inj {a b : ByteArray} (h : ch a = ch b) : a = b := ByteArray.ext (Array.toList_inj.1 h)
theorem small_nat (n : Nat) (h : n ≤ 1000000000) : wrap64 (n : Int) = (n : Int) := w64 (by omega) (by omega)
theorem pow12 (n : Nat) (h : n ≤ 8) : 12 ^ n ≤ 429981696 := by
  match n, h with
  | 0, _ | 1, _ | 2, _ | 3, _ | 4, _ | 5, _ | 6, _ | 7, _ | 8, _ => decide
theorem bsLeast_l0 (l : List ByteArray) (h : IsSet l) : ∀ (d i : Nat) (acc : List ByteArray), i + d = l.length → acc.length ≤ i → ∃ r, Ev (fun k => spec_bsLeast.l0 k l acc l (l.length : Int) (i : Int)) r ∧ Ev (fun k => impl_leastGenerators.l0 k l acc l (l.length : Int) (i : Int)) r ∧ r.length ≤ 12
  | 0, i, acc, hd, ha => by
    have h12 := h.few
    refine ⟨acc, Ev.succ ?_, Ev.succ ?_, by omega⟩
    · simp only [spec_bsLeast.l0]; exact Ev.neg (by omega) (Ev.now _)
    · simp only [impl_leastGenerators.l0]; exact Ev.neg (by omega) (Ev.now _)
  | d + 1, i, acc, hd, ha => by
    have h12 := h.few
    have h1 : i < l.length := by omega
    have h1' : i < (l.map ch).length := by simp; omega
    have hsz := h.size l[i] (List.getElem_mem h1)
    have hone : ∀ w ∈ l.take i ++ l.drop (i + 1), 1 ≤ w.size := fun w hw => by
      rcases List.mem_append.1 hw with hw | hw
      · exact (h.size w (List.mem_of_mem_take hw)).1
      · exact (h.size w (List.mem_of_mem_drop hw)).1
    have hol : (l.take i ++ l.drop (i + 1)).length ≤ 12 := by simp; omega
    obtain ⟨rs, hrs, hrl, -⟩ := dcReadings1 (l.take i ++ l.drop (i + 1)) hol hone _ l[i] rfl hsz.2
    have hc := countReadings_ev l l[i] (by omega) (fun w hw => (h.size w hw).1) (by omega)
    have hco := cnt_others (l.map ch) i h1' (by
      rw [List.getElem_map]; intro e; have := ch_length l[i]; rw [e] at this; simp at this; omega) (by
      intro v hv
      rw [← List.map_take, ← List.map_drop, ← List.map_append] at hv
      obtain ⟨u, hu, rfl⟩ := List.mem_map.1 hv
      rw [List.getElem_map]
      intro e
      exact h.others i h1 u hu (ch_inj e))
    rw [List.getElem_map, ← List.map_take, ← List.map_drop, ← List.map_append] at hco
    have hle := cnt_le ((l.take i ++ l.drop (i + 1)).map ch) 12 (by rw [List.length_map]; exact hol) (by omega) _ (ch l[i]) rfl
    have hpw := pow12 (ch l[i]).length (by rw [ch_length]; exact hsz.2)
    have hc8 : cnt ((l.take i ++ l.drop (i + 1)).map ch) (ch l[i]) ≤ 429981696 := Nat.le_trans hle hpw
    rw [hco] at hc
    clear hco hle hpw
    obtain ⟨C, hC⟩ : ∃ C, C = cnt ((l.take i ++ l.drop (i + 1)).map ch) (ch l[i]) := ⟨_, rfl⟩
    rw [← hC] at hc hc8 hrl
    clear hC
    rw [small_nat (C + 1) (by omega)] at hc
    have e1 : Aside0 (wrap64 ((i : Int) + 1) = (i : Int) + 1) := ⟨w1 (show 0 ≤ (i : Int) by omega) (show (i : Int) < 9223372036854775807 by omega)⟩
    have eN : ((i : Int) + 1).toNat = i + 1 := by omega
    have spec : ∀ r, Ev (fun k => if (rs.length : Int) = 0 then (if acc.length < 8796093022208 then spec_bsLeast.l0 k l (acc ++ [l[i]]) l (l.length : Int) ((i : Int) + 1) else none) else spec_bsLeast.l0 k l acc l (l.length : Int) ((i : Int) + 1)) r → Ev (fun k => spec_bsLeast.l0 k l acc l (l.length : Int) (i : Int)) r := by
      intro r hr
      refine Ev.succ ?_
      simp only [spec_bsLeast.l0, rdOf_nat l i h1, Int.toNat_natCast, e1.out, eN]
      refine Ev.pos (by omega) (Ev.pos (by omega) (Ev.pos (by omega) (Ev.known (fun _ => rfl) (Ev.pos (by omega) (Ev.pos (by simp; omega) (Ev.known (fun _ => rfl) (Ev.pos (by omega) (Ev.pos (by omega) (Ev.pos (by simp; omega) (Ev.bind ?_ hr))))))))))
      simpa using hrs
    have impl : ∀ r, Ev (fun k => if (((C + 1 : Nat) : Int)) = 1 then (if acc.length < 8796093022208 then impl_leastGenerators.l0 k l (acc ++ [l[i]]) l (l.length : Int) ((i : Int) + 1) else none) else impl_leastGenerators.l0 k l acc l (l.length : Int) ((i : Int) + 1)) r → Ev (fun k => impl_leastGenerators.l0 k l acc l (l.length : Int) (i : Int)) r := by
      intro r hr
      refine Ev.succ ?_
      simp only [impl_leastGenerators.l0, rdOf_nat l i h1, e1.out]
      exact Ev.pos (by omega) (Ev.pos (by omega) (Ev.pos (by omega) (Ev.bind hc hr)))
    by_cases hz : C = 0
    · rw [if_pos hz] at hrl
      obtain ⟨r, r1, r2, r3⟩ := bsLeast_l0 l h d (i + 1) (acc ++ [l[i]]) (by omega) (by simp; omega)
      exact ⟨r, spec r (Ev.pos (by omega) (Ev.pos (by omega) r1)), impl r (Ev.pos (by omega) (Ev.pos (by omega) r2)), r3⟩
    · rw [if_neg hz] at hrl
      obtain ⟨r, r1, r2, r3⟩ := bsLeast_l0 l h d (i + 1) acc (by omega) (by omega)
      exact ⟨r, spec r (Ev.neg (by omega) r1), impl r (Ev.neg (by omega) r2), r3⟩
theorem least_same (l : List ByteArray) (hl : l.length ≤ 1048576) : ∃ r, Ev (fun k => spec_LeastGenerators.f k l) r ∧ Ev (fun k => impl_LeastGenerators.f k l) r ∧ r.1.length ≤ 12 := by
  obtain ⟨b, h1, h2, hb⟩ := isSet_same l hl
  unfold spec_LeastGenerators.f impl_LeastGenerators.f
  cases b with
  | false => exact ⟨([], false), Ev.bind h1 (Ev.neg (by simp) (Ev.now _)), Ev.bind h2 (Ev.neg (by simp) (Ev.now _)), by simp⟩
  | true =>
    obtain ⟨r, r1, r2, r3⟩ := bsLeast_l0 l (hb rfl) l.length 0 [] (by omega) (by simp)
    exact ⟨(r, true), Ev.bind h1 (Ev.pos rfl (Ev.bind (a := r) r1 (Ev.now _))), Ev.bind h2 (Ev.pos rfl (Ev.bind (a := r) r2 (Ev.now _))), r3⟩
theorem FnExactLeastGenerators : laws_FnExactLeastGenerators.Pure := by
  intro l hl hs
  refine Ev.rounds ?_
  unfold laws_FnExactLeastGenerators.f
  obtain ⟨z, hz, hzz⟩ := szS_ev l hl hs
  refine Ev.bind hz (Ev.cases (fun _ => Ev.now _) (fun hzn => ?_))
  obtain ⟨hl', -⟩ := hzz (by omega)
  obtain ⟨mt, hmt⟩ := marks
  obtain ⟨r, h1, h2, h3⟩ := least_same l hl'
  refine Ev.bind (toS_ev l hl') (Ev.bind h1 (Ev.bind (toS_ev l hl') (Ev.bind h2 (Ev.bind (eqS_ev r.1 (by omega)) (Ev.pos rfl ?_)))))
  refine Ev.succ ?_
  simp only [laws_FnExactLeastGenerators.j0]
  refine Ev.neg (by simp) (Ev.bind (toS_ev l hl') (Ev.bind (eqS_ev l hl') (Ev.pos rfl (Ev.bind (markS_ev hmt l hl') (Ev.neg (by omega) (Ev.bind (eqS_ev r.1 (by omega)) (Ev.pos rfl ?_)))))))
  refine Ev.succ ?_
  simp only [laws_FnExactLeastGenerators.j1]
  refine Ev.neg (by simp) (Ev.bind (markS_ev hmt r.1 (by omega)) (Ev.bind (heldS_ev hmt r.1.length (by omega)) (Ev.neg (by omega) (Ev.pos rfl (Ev.bind (toS_ev l hl') (Ev.bind h2 (Ev.bind (eqS_ev r.1 (by omega)) (Ev.pos rfl ?_))))))))
  refine Ev.succ ?_
  simp only [laws_FnExactLeastGenerators.j2]
  exact Ev.neg (by simp) (Ev.bind (heldS_ev hmt r.1.length (by omega)) (Ev.neg (by omega) (Ev.pos rfl (Ev.now _))))
end Go.Proofs.YtoemhhfkbclbiaaDoor.Pure
