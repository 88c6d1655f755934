/- PrefixAlike of the program and of the reference answer alike for all arguments, leave them as they were, and hand back memory of their own: no condition. -/
import Derived.Test.YthlldokmjpfilaaDoorXFnExactPrefixAlikexp
namespace Go.Proofs.YthlldokmjpfilaaDoor.Pure
set_option linter.unusedSimpArgs false
set_option linter.unusedVariables false
open Go.RowKit Go.Proofs.YthlldokmjpfilaaDoor.Hand Go.Proofs.YthlldokmjpfilaaDoor.XFnExactPrefixAlike Go.Proofs.YthlldokmjpfilaaDoorW.PrintWords Go.Proofs.YthlldokmjpfilaaDoorW.PrintLast Go.Proofs.YthlldokmjpfilaaDoorW.PrintMore

theorem w1 {i : Int} (h0 : 0 ≤ i) (h : i < 9223372036854775807) : wrap64 (i + 1) = i + 1 := by unfold wrap64; omega
theorem w64 {i : Int} (h0 : -9223372036854775808 ≤ i) (h : i < 9223372036854775808) : wrap64 i = i := by unfold wrap64; omega
theorem rd_nat (l : List Int) (i : Nat) (h : i < l.length) : rd l (i : Int) = l[i] := by
  unfold rd; simp [List.getD_eq_getElem?_getD, h]
theorem Ev.pos {α : Type} {c : Prop} [Decidable c] {g g' : Nat → Option α} {r : α} (h : c) (k : Ev g r) : Ev (fun n => if c then g n else g' n) r :=
  Ev.congr (fun n => if_pos h) k
theorem Ev.neg {α : Type} {c : Prop} [Decidable c] {g g' : Nat → Option α} {r : α} (h : ¬ c) (k : Ev g' r) : Ev (fun n => if c then g n else g' n) r :=
  Ev.congr (fun n => if_neg h) k
theorem Ev.cases {α : Type} {c : Prop} [Decidable c] {g g' : Nat → Option α} {r : α} (h : c → Ev g r) (k : ¬ c → Ev g' r) : Ev (fun n => if c then g n else g' n) r := by
  by_cases e : c
  · exact Ev.pos e (h e)
  · exact Ev.neg e (k e)
/-- a call whose answer is known at every number of rounds -/
theorem Ev.known {α β : Type} {g : Nat → Option α} {f : Nat → α → Option β} {a : α} {r : β} (h : ∀ n, g n = some a) (k : Ev (fun n => f n a) r) : Ev (fun n => (g n).bind (f n)) r :=
  Ev.bind ⟨0, fun n _ => h n⟩ k
/-- one bind of two, joined with what follows -/
theorem Ev.pure {α : Type} {r q : α} (h : r = q) : Ev (fun _ => some r) q := h ▸ Ev.now r
theorem Ev.succ {α : Type} {g : Nat → Option α} {r : α} (h : Ev (fun k => g (k + 1)) r) : Ev g r := Ev.step (f := fun k => g (k + 1)) (fun _ => rfl) h

theorem rdOf_nat (l : List ByteArray) (i : Nat) (h : i < l.length) : rdOf ByteArray.empty l (i : Int) = l[i] := by
  unfold rdOf; simp [List.getD_eq_getElem?_getD, h]

theorem maxLen_le : maxLen ≤ 9223372036854775807 := by unfold maxLen; omega
theorem szS_l0 (l : List ByteArray) (hl : l.length ≤ 9223372036854775807) (hs : ∀ s ∈ l, s.size ≤ 9223372036854775807) : ∀ (d i : Nat) (b : Int), i + d = l.length → 0 ≤ b → b ≤ 1048576 → ∃ r, Ev (fun k => laws_szStringS.l0 k l b (i : Int)) r ∧ (0 ≤ r → r ≤ 1048576 ∧ ∀ s ∈ l.drop i, s.size ≤ 1048576)
  | 0, i, b, hd, h0, hb => by
    refine ⟨b, Ev.succ ?_, fun _ => ⟨hb, fun s h => ?_⟩⟩
    · simp only [laws_szStringS.l0]; exact Ev.neg (by omega) (Ev.now _)
    · rw [List.drop_of_length_le (by omega)] at h; cases h
  | d + 1, i, b, hd, h0, hb => by
    have h1 : i < l.length := by omega
    have h2 := hs _ (List.getElem_mem h1)
    have e : Aside0 (wrap64 (b - (l[i].size : Int)) = b - (l[i].size : Int)) := ⟨w64 (by omega) (by omega)⟩
    by_cases hc : b - (l[i].size : Int) < 0
    · refine ⟨-1, Ev.succ ?_, fun h => by omega⟩
      simp only [laws_szStringS.l0, rdOf_nat l i h1, e.out]
      exact Ev.pos (by omega) (Ev.pos (by omega) (Ev.pos hc (Ev.now _)))
    · obtain ⟨r, hr, hh⟩ := szS_l0 l hl hs d (i + 1) (b - (l[i].size : Int)) (by omega) (by omega) (by omega)
      refine ⟨r, Ev.succ ?_, fun h => ⟨(hh h).1, fun s hm => ?_⟩⟩
      · simp only [laws_szStringS.l0, rdOf_nat l i h1, e.out, w1 (show 0 ≤ (i : Int) by omega) (show (i : Int) < 9223372036854775807 by omega)]
        exact Ev.pos (by omega) (Ev.pos (by omega) (Ev.neg hc hr))
      · rw [List.drop_eq_getElem_cons h1] at hm
        rcases List.mem_cons.1 hm with rfl | hm
        · omega
        · exact (hh h).2 s hm
theorem szS_ev (l : List ByteArray) (hl : l.length ≤ maxLen) (hs : ∀ s ∈ l, s.size ≤ maxLen) : ∃ r, Ev (fun k => laws_szStringS.f k l 1048576) r ∧ (0 ≤ r → l.length ≤ 1048576 ∧ r ≤ 1048576 ∧ ∀ s ∈ l, s.size ≤ 1048576) := by
  have hm := maxLen_le
  have e : Aside0 (wrap64 (1048576 - (l.length : Int)) = 1048576 - (l.length : Int)) := ⟨w64 (by omega) (by omega)⟩
  unfold laws_szStringS.f
  rw [e.out]
  by_cases hc : 1048576 - (l.length : Int) < 0
  · exact ⟨-1, Ev.pos hc (Ev.now _), fun h => by omega⟩
  · obtain ⟨r, hr, hh⟩ := szS_l0 l (by omega) (fun s h => Nat.le_trans (hs s h) hm) l.length 0 (1048576 - (l.length : Int)) (by omega) (by omega) (by omega)
    exact ⟨r, Ev.neg hc hr, fun h => ⟨by omega, (hh h).1, by simpa using (hh h).2⟩⟩
theorem toS_l0 (l : List ByteArray) (hl : l.length ≤ 1048576) : ∀ (d i : Nat) (xs : List ByteArray), i + d = l.length → xs.length = l.length → xs.take i = l.take i → Ev (fun k => laws_toStringS.l0 k l xs (i : Int)) l
  | 0, i, xs, hd, hx, ht => by
    refine Ev.step (f := fun _ => some xs) (fun k => ?_) (Ev.pure ?_)
    · simp only [laws_toStringS.l0]; rw [if_neg (by omega)]
    · rw [List.take_of_length_le (by omega), List.take_of_length_le (by omega)] at ht; exact ht
  | d + 1, i, xs, hd, hx, ht => by
    refine Ev.step (f := fun k => laws_toStringS.l0 k l (xs.set i (rdOf ByteArray.empty l i)) ((i + 1 : Nat) : Int)) (fun k => ?_) (toS_l0 l hl d (i + 1) _ (by omega) (by simp [hx]) ?_)
    · simp only [laws_toStringS.l0]; rw [if_pos (by omega), if_pos (by omega), if_pos (by omega), w1 (by omega) (by omega)]; simp
    · have h1 : i < l.length := by omega
      have h2 : i < (xs.set i (rdOf ByteArray.empty l i)).length := by simp; omega
      have e := rdOf_nat l i h1
      rw [List.take_succ_eq_append_getElem h2, List.take_succ_eq_append_getElem h1, List.take_set, List.set_eq_of_length_le (by simp; omega), ht]
      simp [e]
theorem toS_ev (l : List ByteArray) (hl : l.length ≤ 1048576) : Ev (fun k => laws_toStringS.f k l) l := by
  unfold laws_toStringS.f
  refine Ev.pos (by omega) (Ev.pos (by omega) ?_)
  have h := toS_l0 l hl l.length 0 (List.replicate l.length ⟨#[]⟩) (by omega) (by simp) (by simp)
  simpa using h
theorem eqS_l0 (l : List ByteArray) (hl : l.length ≤ 1048576) : ∀ (d i : Nat), i + d = l.length → Ev (fun k => laws_eqStringS.l0 k l l (i : Int)) true
  | 0, i, hd => Ev.step (f := fun _ => some true) (fun k => by simp only [laws_eqStringS.l0]; rw [if_neg (by omega)]) (Ev.now _)
  | d + 1, i, hd => by
    refine Ev.step (f := fun k => laws_eqStringS.l0 k l l ((i + 1 : Nat) : Int)) (fun k => ?_) (eqS_l0 l hl d (i + 1) (by omega))
    simp only [laws_eqStringS.l0]; rw [if_pos (by omega), if_pos (by omega), if_pos (by omega), if_pos trivial, w1 (by omega) (by omega)]; simp
theorem eqS_ev (l : List ByteArray) (hl : l.length ≤ 1048576) : Ev (fun k => laws_eqStringS.f k l l) true := by
  unfold laws_eqStringS.f
  exact Ev.pos rfl (by simpa using eqS_l0 l hl l.length 0 (by omega))


theorem strOfNums_one (x : Int) : (strOfNums [x]).size = 1 := by simp [strOfNums, ByteArray.size]
theorem markText_l0 : ∀ (d n : Nat) (s : ByteArray), n < 10 ^ d → n < 4611686018427387904 → s.size + d ≤ 1000 → ∃ t, Ev (fun k => laws_markText.l0 k (n : Int) s) t
  | 0, n, s, hn, _, hs => by
    refine ⟨(⟨#[109]⟩ : ByteArray) ++ s, Ev.succ ?_⟩
    simp only [laws_markText.l0]
    exact Ev.neg (by omega) (Ev.pos (by omega) (Ev.now _))
  | d + 1, n, s, hn, hb, hs => by
    by_cases h0 : n = 0
    · refine ⟨(⟨#[109]⟩ : ByteArray) ++ s, Ev.succ ?_⟩
      simp only [laws_markText.l0]
      exact Ev.neg (by omega) (Ev.pos (by omega) (Ev.now _))
    · have e0 : (strOfNums [(wrap64 (48 + (Int.tmod (n : Int) 10))) % 256]).size = 1 := strOfNums_one _
      have hq : n / 10 < 10 ^ d := by rw [Nat.pow_succ] at hn; omega
      obtain ⟨t, ht⟩ := markText_l0 d (n / 10) (strOfNums [(wrap64 (48 + (Int.tmod (n : Int) 10))) % 256] ++ s) hq (by omega) (by rw [ByteArray.size_append, e0]; omega)
      have e2 : Aside0 (wrap64 (Int.tdiv (n : Int) 10) = ((n / 10 : Nat) : Int)) := ⟨by
        rw [show (10 : Int) = ((10 : Nat) : Int) from rfl, ← Int.ofNat_tdiv]; exact w64 (by omega) (by omega)⟩
      refine ⟨t, Ev.succ ?_⟩
      simp only [laws_markText.l0, e2.out]
      exact Ev.pos (by omega) (Ev.known (fun _ => rfl) (Ev.pos (by rw [e0]; omega) ht))
theorem marks : ∃ mt : Nat → ByteArray, ∀ n : Nat, n ≤ 1048577 → Ev (fun k => laws_markText.f k (n : Int)) (mt n) := by
  have h : ∀ n : Nat, ∃ t, n ≤ 1048577 → Ev (fun k => laws_markText.f k (n : Int)) t := by
    intro n
    by_cases hn : n ≤ 1048577
    · by_cases h0 : n = 0
      · exact ⟨_, fun _ => Ev.pos (by omega) (Ev.now _)⟩
      · obtain ⟨t, ht⟩ := markText_l0 7 n ⟨#[]⟩ (by omega) (by omega) (by decide)
        exact ⟨t, fun _ => Ev.neg (by omega) ht⟩
    · exact ⟨ByteArray.empty, fun h => absurd h hn⟩
  exact ⟨fun n => (h n).choose, fun n hn => (h n).choose_spec hn⟩
/-- n texts, all different -/
def marked (mt : Nat → ByteArray) (n : Nat) : List ByteArray := (List.range n).map fun j => mt (j + 1)
theorem marked_length (mt : Nat → ByteArray) (n : Nat) : (marked mt n).length = n := by simp [marked]
theorem markS_l0 (mt : Nat → ByteArray) (hmt : ∀ n : Nat, n ≤ 1048577 → Ev (fun k => laws_markText.f k (n : Int)) (mt n)) (n : Nat) (hn : n ≤ 1048576) : ∀ (d i : Nat) (xs : List ByteArray), i + d = n → xs.length = n → xs.take i = (marked mt n).take i → Ev (fun k => laws_markStringS.l0 k xs ((i + 1 : Nat) : Int) (i : Int)) (((n + 1 : Nat) : Int), marked mt n)
  | 0, i, xs, hd, hx, ht => by
    refine Ev.succ ?_
    simp only [laws_markStringS.l0]
    refine Ev.neg (by omega) (Ev.pure ?_)
    have := marked_length mt n
    rw [List.take_of_length_le (by omega), List.take_of_length_le (by omega)] at ht
    rw [ht, show i = n by omega]
  | d + 1, i, xs, hd, hx, ht => by
    have hlen := marked_length mt n
    have h1 : i < (marked mt n).length := by omega
    have ih := markS_l0 mt hmt n hn d (i + 1) (xs.set i (mt (i + 1))) (by omega) (by simp [hx]) (by
      have h2 : i < (xs.set i (mt (i + 1))).length := by simp; omega
      rw [List.take_succ_eq_append_getElem h2, List.take_succ_eq_append_getElem h1, List.take_set, List.set_eq_of_length_le (by simp; omega), ht]
      simp [marked])
    refine Ev.succ ?_
    simp only [laws_markStringS.l0, w1 (show 0 ≤ (i : Int) by omega) (show (i : Int) < 9223372036854775807 by omega), w1 (show 0 ≤ ((i + 1 : Nat) : Int) by omega) (show ((i + 1 : Nat) : Int) < 9223372036854775807 by omega)]
    exact Ev.pos (by omega) (Ev.bind (hmt (i + 1) (by omega)) (Ev.pos (by omega) ih))
theorem markS_ev {mt : Nat → ByteArray} (hmt : ∀ n : Nat, n ≤ 1048577 → Ev (fun k => laws_markText.f k (n : Int)) (mt n)) (xs : List ByteArray) (hn : xs.length ≤ 1048576) : Ev (fun k => laws_markStringS.f k xs 1) (((xs.length + 1 : Nat) : Int), marked mt xs.length) :=
  markS_l0 mt hmt xs.length hn xs.length 0 xs (by omega) rfl rfl

theorem heldS_l0 (mt : Nat → ByteArray) (hmt : ∀ n : Nat, n ≤ 1048577 → Ev (fun k => laws_markText.f k (n : Int)) (mt n)) (n : Nat) (hn : n ≤ 1048576) : ∀ (d i : Nat), i + d = n → Ev (fun k => laws_heldStringS.l0 k (marked mt n) ((i + 1 : Nat) : Int) (i : Int)) ((n + 1 : Nat) : Int)
  | 0, i, hd => by
    have hlen := marked_length mt n
    refine Ev.succ ?_
    simp only [laws_heldStringS.l0]
    exact Ev.neg (by omega) (Ev.pure (by rw [show i = n by omega]))
  | d + 1, i, hd => by
    have hlen := marked_length mt n
    have h1 : i < (marked mt n).length := by omega
    have ih := heldS_l0 mt hmt n hn d (i + 1) (by omega)
    refine Ev.succ ?_
    simp only [laws_heldStringS.l0, rdOf_nat _ i h1, w1 (show 0 ≤ (i : Int) by omega) (show (i : Int) < 9223372036854775807 by omega), w1 (show 0 ≤ ((i + 1 : Nat) : Int) by omega) (show ((i + 1 : Nat) : Int) < 9223372036854775807 by omega)]
    exact Ev.pos (by omega) (Ev.pos (by omega) (Ev.bind (hmt (i + 1) (by omega)) (Ev.pos (by simp [marked]) ih)))
theorem heldS_ev {mt : Nat → ByteArray} (hmt : ∀ n : Nat, n ≤ 1048577 → Ev (fun k => laws_markText.f k (n : Int)) (mt n)) (n : Nat) (hn : n ≤ 1048576) : Ev (fun k => laws_heldStringS.f k (marked mt n) 1) ((n + 1 : Nat) : Int) :=
  heldS_l0 mt hmt n hn n 0 (by omega)

theorem spec_in (a b c : Int) : spec_l1In.f a b c = some (decide (b ≤ a ∧ a ≤ c)) := by
  unfold spec_l1In.f
  by_cases h : a ≥ b
  · rw [if_pos h]; simp [h]
  · rw [if_neg h]; simp; omega

theorem impl_in_eq (a b c : Int) : impl_in.f a b c = some (decide (b ≤ a ∧ a ≤ c)) := by
  unfold impl_in.f
  by_cases h : b ≤ a
  · rw [if_pos h]; simp [h]
  · rw [if_neg h]; simp [h]

theorem bt_nat (s : ByteArray) (i : Nat) (h : i < s.data.toList.length) : bt s (i : Int) = ((s.data.toList[i]).toNat : Int) := by
  have h' : i < s.size := by have e : s.size = s.data.toList.length := Array.length_toList.symm; omega
  unfold bt
  rw [dif_pos (show (i : Int).toNat < s.size by simpa using h')]
  simp [ByteArray.getElem_eq_getElem_data]
theorem size_data (s : ByteArray) : s.size = s.data.toList.length := Array.length_toList.symm
theorem letter_test (c : UInt8) : ((c.toNat : Int) < 97 ∨ ((c.toNat : Int) - 97) % 256 ≥ 3) ↔ isLetter c = false := by
  have := c.toNat_lt
  unfold isLetter
  rw [decide_eq_false_iff_not]
  omega
theorem wdIs_l0 (s : ByteArray) (hs : s.size < 4611686018427387904) : ∀ (d i : Nat), i + d = s.data.toList.length → Ev (fun k => spec_wdIs.l0 k s (i : Int)) ((s.data.toList.drop i).all isLetter)
  | 0, i, hd => by
    refine Ev.succ ?_
    simp only [spec_wdIs.l0]
    exact Ev.neg (by rw [size_data]; omega) (Ev.pure (by rw [List.drop_of_length_le (by omega)]; rfl))
  | d + 1, i, hd => by
    have h1 : i < s.data.toList.length := by omega
    have ih := wdIs_l0 s hs d (i + 1) (by omega)
    have ht := letter_test s.data.toList[i]
    have hsz := size_data s
    rw [List.drop_eq_getElem_cons h1, List.all_cons]
    refine Ev.succ ?_
    simp only [spec_wdIs.l0, bt_nat s i h1, w1 (show 0 ≤ (i : Int) by omega) (show (i : Int) < 9223372036854775807 by omega)]
    refine Ev.pos (by omega) (Ev.pos (by omega) (Ev.cases (fun h => ?_) (fun h => Ev.cases (fun h' => ?_) (fun h' => ?_))))
    · rw [ht.1 (Or.inl h)]; exact Ev.now _
    · rw [ht.1 (Or.inr h')]; exact Ev.now _
    · have : isLetter s.data.toList[i] = true := by
        cases hl : isLetter s.data.toList[i]
        · exact absurd (ht.2 hl) (by omega)
        · rfl
      rw [this, Bool.true_and]; exact ih
theorem wdIs_ev (s : ByteArray) (hs : s.size < 4611686018427387904) : Ev (fun k => spec_wdIs.f k s) (s.data.toList.all isLetter) := by
  have h := wdIs_l0 s hs s.data.toList.length 0 (by omega)
  simpa [spec_wdIs.f] using h

/-- a word of a set -/
def short (s : ByteArray) : Bool := decide (1 ≤ s.size ∧ s.size ≤ 8) && s.data.toList.all isLetter
theorem wdShort_ev (s : ByteArray) : Ev (fun k => spec_wdShort.f k s) (short s) := by
  unfold spec_wdShort.f short
  refine Ev.known (fun _ => spec_in _ _ _) (Ev.cases (fun h => ?_) (fun h => ?_))
  · have h' := of_decide_eq_true h
    rw [decide_eq_true (show 1 ≤ s.size ∧ s.size ≤ 8 by omega), Bool.true_and]
    exact Ev.bind (wdIs_ev s (by omega)) (Ev.now _)
  · rw [decide_eq_false (show ¬ (1 ≤ s.size ∧ s.size ≤ 8) by intro hh; exact h (decide_eq_true (by omega))), Bool.false_and]
    exact Ev.now _
theorem isShort_eq (s : ByteArray) : impl_isShort.f s = some (short s) := by
  unfold impl_isShort.f impl_isWord.f short
  by_cases h : 1 ≤ s.size ∧ s.size ≤ 8
  · rw [decide_eq_true h, decide_eq_true (show s.size ≤ 60 by omega)]
    cases s.data.toList.all isLetter
    · rfl
    · simp [impl_in_eq]; omega
  · rw [decide_eq_false h]
    cases (decide (s.size ≤ 60) && s.data.toList.all isLetter)
    · rfl
    · simp [impl_in_eq]; omega
theorem bytesLess_cmp : ∀ (x y : List UInt8), Op.bytesLess x y = decide (Lib.compareBytes x y < 0)
  | [], [] => by simp [Op.bytesLess, Lib.compareBytes]
  | _ :: _, [] => by simp [Op.bytesLess, Lib.compareBytes]
  | [], _ :: _ => by simp [Op.bytesLess, Lib.compareBytes]
  | a :: x, b :: y => by
    rw [Op.bytesLess, bytesLess_cmp x y, Lib.compareBytes]
    by_cases h1 : a < b
    · simp [h1]
    · by_cases h2 : b < a
      · have : (a == b) = false := by
          rw [beq_eq_false_iff_ne]; rintro rfl; exact h1 h2
        simp [h1, h2, this]
      · have : a = b := by
          have h1' : ¬ a.toNat < b.toNat := h1
          have h2' : ¬ b.toNat < a.toNat := h2
          exact UInt8.toNat_inj.1 (by omega)
        subst this; simp [h1]
theorem bytesLess_irrefl : ∀ (x : List UInt8), Op.bytesLess x x = false
  | [] => rfl
  | a :: x => by rw [Op.bytesLess, bytesLess_irrefl x]; simp
theorem bytesLess_trans : ∀ (x y z : List UInt8), Op.bytesLess x y = true → Op.bytesLess y z = true → Op.bytesLess x z = true
  | _, [], _ => by simp [Op.bytesLess]
  | _, _ :: _, [] => by simp [Op.bytesLess]
  | [], _ :: _, _ :: _ => by simp [Op.bytesLess]
  | a :: x, b :: y, c :: z => by
    have ih := bytesLess_trans x y z
    simp only [Op.bytesLess, Bool.or_eq_true, decide_eq_true_eq, Bool.and_eq_true, beq_iff_eq]
    intro h1 h2
    rcases h1 with h1 | ⟨rfl, h1⟩
    · rcases h2 with h2 | ⟨rfl, h2⟩
      · exact Or.inl (UInt8.lt_trans h1 h2)
      · exact Or.inl h1
    · rcases h2 with h2 | ⟨rfl, h2⟩
      · exact Or.inl h2
      · exact Or.inr ⟨rfl, ih h1 h2⟩
/-- the order of words: by length, then by letters -/
def wless (a b : ByteArray) : Bool := decide (a.size < b.size) || (decide (a.size = b.size) && Op.bytesLess a.data.toList b.data.toList)
theorem wless_irrefl (a : ByteArray) : wless a a = false := by unfold wless; rw [bytesLess_irrefl]; simp
theorem wless_trans (a b c : ByteArray) (h1 : wless a b = true) (h2 : wless b c = true) : wless a c = true := by
  unfold wless at *
  simp only [Bool.or_eq_true, decide_eq_true_eq, Bool.and_eq_true] at *
  rcases h1 with h1 | ⟨h1, g1⟩ <;> rcases h2 with h2 | ⟨h2, g2⟩
  · left; omega
  · left; omega
  · left; omega
  · exact Or.inr ⟨by omega, bytesLess_trans _ _ _ g1 g2⟩
theorem wdLess_eq (a b : ByteArray) : spec_wdLess.f a b = some (wless a b) := by
  unfold spec_wdLess.f wless
  by_cases h : a.size < b.size
  · rw [if_pos (by omega)]; simp [h]
  · rw [if_neg (by omega)]
    by_cases h' : a.size = b.size
    · rw [if_pos (by omega)]; simp [h', ByteArray.toList_eq]
    · rw [if_neg (by omega)]; simp [h, h']
theorem or2 (a b : Int) : Ev (fun k => cmp_Or_int.f k [a, b]) (if a = 0 then b else a) := by
  refine ⟨3, fun k hk => ?_⟩
  obtain ⟨k, rfl⟩ : ∃ m, k = m + 3 := ⟨k - 3, by omega⟩
  by_cases ha : a = 0 <;> by_cases hb : b = 0 <;> simp [cmp_Or_int.f, cmp_Or_int.l0, rd, wrap64, ha, hb]
theorem compareWords_ev (a b : ByteArray) : ∃ c, Ev (fun k => impl_compareWords.f k a b) c ∧ wless a b = decide (c < 0) := by
  have hn : ∀ x : Int, cmp_isNaN_int.f x = some false := fun x => by simp [cmp_isNaN_int.f]
  have hc : cmp_Compare_int.f (a.size : Int) (b.size : Int) = some (if a.size < b.size then -1 else if b.size < a.size then 1 else 0) := by
    unfold cmp_Compare_int.f
    simp only [hn, Option.bind_some]
    rw [if_neg (by simp), if_neg (by simp)]
    by_cases h1 : a.size < b.size
    · rw [if_pos (by omega), if_pos h1]
    · rw [if_neg (by omega), if_neg h1]
      by_cases h2 : b.size < a.size
      · rw [if_pos (by omega), if_pos h2]
      · rw [if_neg (by omega), if_neg h2]
  refine ⟨_, Ev.known (fun _ => hc) (Ev.known (fun _ => rfl) (Ev.bind (or2 _ _) (Ev.now _))), ?_⟩
  unfold wless
  rw [bytesLess_cmp]
  by_cases h1 : a.size < b.size
  · simp [h1]
  · by_cases h2 : b.size < a.size
    · rw [if_neg h1, if_pos h2]; simp [h1, show ¬ a.size = b.size by omega]
    · rw [if_neg h1, if_neg h2]; simp [h1, show a.size = b.size by omega]
/-- a set: words of the right size, one by one in order -/
def SetUpto (l : List ByteArray) (i : Nat) : Prop := ∀ (j : Nat) (h : j < l.length), i ≤ j → short l[j] = true ∧ (0 < j → wless l[j - 1] l[j] = true)
theorem set_l0 (l : List ByteArray) (hl : l.length ≤ 1048576) : ∀ (d i : Nat), i + d = l.length → ∃ b, Ev (fun k => spec_wdSet.l0 k l l (l.length : Int) (i : Int)) b ∧ Ev (fun k => impl_isSet.l0 k l l (l.length : Int) (i : Int)) (b && decide (l.length ≤ 12)) ∧ (b = true → SetUpto l i)
  | 0, i, hd => by
    refine ⟨true, Ev.succ ?_, Ev.succ ?_, fun _ j h hj => by omega⟩
    · simp only [spec_wdSet.l0]; exact Ev.neg (by omega) (Ev.now _)
    · simp only [impl_isSet.l0]; refine Ev.neg (by omega) (Ev.pure ?_); rw [Bool.true_and]; exact decide_eq_decide.2 (by omega)
  | d + 1, i, hd => by
    have h1 : i < l.length := by omega
    obtain ⟨b, e1, e2, hb⟩ := set_l0 l hl d (i + 1) (by omega)
    have s1 := wdShort_ev l[i]
    have s2 := isShort_eq l[i]
    cases hs : short l[i]
    · rw [hs] at s1 s2
      refine ⟨false, Ev.succ ?_, Ev.succ ?_, fun h => by cases h⟩
      · simp only [spec_wdSet.l0, rdOf_nat l i h1]
        exact Ev.pos (by omega) (Ev.pos (by omega) (Ev.pos (by omega) (Ev.bind s1 (Ev.neg (by simp) (Ev.now _)))))
      · simp only [impl_isSet.l0, rdOf_nat l i h1]
        exact Ev.pos (by omega) (Ev.pos (by omega) (Ev.pos (by omega) (Ev.known (fun _ => s2) (Ev.neg (by simp) (Ev.now _)))))
    · rw [hs] at s1 s2
      by_cases h0 : i = 0
      · refine ⟨b, Ev.succ ?_, Ev.succ ?_, fun h j hj hij => ?_⟩
        · simp only [spec_wdSet.l0, rdOf_nat l i h1, w1 (show 0 ≤ (i : Int) by omega) (show (i : Int) < 9223372036854775807 by omega)]
          exact Ev.pos (by omega) (Ev.pos (by omega) (Ev.pos (by omega) (Ev.bind s1 (Ev.pos rfl (Ev.neg (by omega) e1)))))
        · simp only [impl_isSet.l0, rdOf_nat l i h1, w1 (show 0 ≤ (i : Int) by omega) (show (i : Int) < 9223372036854775807 by omega)]
          exact Ev.pos (by omega) (Ev.pos (by omega) (Ev.pos (by omega) (Ev.known (fun _ => s2) (Ev.pos rfl (Ev.neg (by omega) e2)))))
        · by_cases he : i = j
          · subst he; exact ⟨hs, fun h => by omega⟩
          · exact hb h j hj (by omega)
      · obtain ⟨c, hc, hw⟩ := compareWords_ev l[i - 1] l[i]
        have e3 : Aside0 (wrap64 ((i : Int) - 1) = ((i - 1 : Nat) : Int)) := ⟨by rw [w64 (by omega) (by omega)]; omega⟩
        have l1 := wdLess_eq l[i - 1] l[i]
        refine ⟨wless l[i - 1] l[i] && b, Ev.succ ?_, Ev.succ ?_, fun h j hj hij => ?_⟩
        · simp only [spec_wdSet.l0, rdOf_nat l i h1, e3.out, rdOf_nat l (i - 1) (by omega), w1 (show 0 ≤ (i : Int) by omega) (show (i : Int) < 9223372036854775807 by omega)]
          refine Ev.pos (by omega) (Ev.pos (by omega) (Ev.pos (by omega) (Ev.bind s1 (Ev.pos rfl (Ev.pos (by omega) (Ev.pos (by omega) (Ev.pos (by omega) (Ev.known (fun _ => l1) (Ev.cases (fun h => ?_) (fun h => ?_))))))))))
          · rw [h, Bool.true_and]; exact e1
          · rw [Bool.eq_false_iff.mpr h, Bool.false_and]; exact Ev.now _
        · simp only [impl_isSet.l0, rdOf_nat l i h1, e3.out, rdOf_nat l (i - 1) (by omega), w1 (show 0 ≤ (i : Int) by omega) (show (i : Int) < 9223372036854775807 by omega)]
          refine Ev.pos (by omega) (Ev.pos (by omega) (Ev.pos (by omega) (Ev.known (fun _ => s2) (Ev.pos rfl (Ev.pos (by omega) (Ev.pos (by omega) (Ev.pos (by omega) (Ev.bind hc (Ev.cases (fun h => ?_) (fun h => ?_))))))))))
          · rw [hw, decide_eq_false (by omega)]; exact Ev.now _
          · rw [hw, decide_eq_true (by omega)]; exact e2
        · simp only [Bool.and_eq_true] at h
          by_cases he : i = j
          · subst he; exact ⟨hs, fun _ => h.1⟩
          · exact hb h.2 j hj (by omega)
/-- what a set is -/
structure IsSet (l : List ByteArray) : Prop where
  few : l.length ≤ 12
  each : SetUpto l 0
theorem isSet_same (l : List ByteArray) (hl : l.length ≤ 1048576) : ∃ b, Ev (fun k => spec_wdSet.f k l) b ∧ Ev (fun k => impl_isSet.f k l) b ∧ (b = true → IsSet l) := by
  obtain ⟨b, h1, h2, hb⟩ := set_l0 l hl l.length 0 (by omega)
  unfold spec_wdSet.f impl_isSet.f
  by_cases h12 : l.length ≤ 12
  · rw [decide_eq_true h12, Bool.and_true] at h2
    exact ⟨b, Ev.neg (by omega) h1, h2, fun h => ⟨h12, hb h⟩⟩
  · rw [decide_eq_false h12, Bool.and_false] at h2
    exact ⟨false, Ev.pos (by omega) (Ev.now _), h2, fun h => by cases h⟩
theorem IsSet.lt {l : List ByteArray} (h : IsSet l) : ∀ (j i : Nat) (hj : j < l.length) (hi : i < j), wless l[i] l[j] = true
  | 0, i, hj, hi => by omega
  | j + 1, i, hj, hi => by
    have h1 := (h.each (j + 1) hj (by omega)).2 (by omega)
    by_cases e : i = j
    · subst e; exact h1
    · exact wless_trans _ _ _ (h.lt j i (by omega) (by omega)) h1
theorem IsSet.short {l : List ByteArray} (h : IsSet l) (w : ByteArray) (hw : w ∈ l) : Pure.short w = true := by
  obtain ⟨i, hi, rfl⟩ := List.getElem_of_mem hw
  exact (h.each i hi (by omega)).1
theorem IsSet.size {l : List ByteArray} (h : IsSet l) (w : ByteArray) (hw : w ∈ l) : 1 ≤ w.size ∧ w.size ≤ 8 := by
  have := h.short w hw
  unfold Pure.short at this
  simp only [Bool.and_eq_true, decide_eq_true_eq] at this
  exact this.1

/-- a text's letters -/
abbrev ch (s : ByteArray) : List UInt8 := s.data.toList
theorem ch_length (s : ByteArray) : (ch s).length = s.size := Array.length_toList
theorem ch_extract (s : ByteArray) (a b : Nat) : ch (s.extract a b) = ((ch s).drop a).take (b - a) := by
  simp [ch, ByteArray.data_extract, Array.toList_extract, List.extract_eq_take_drop]
theorem ch_drop (s : ByteArray) (a : Nat) : ch (s.extract a s.size) = (ch s).drop a := by
  rw [ch_extract, List.take_of_length_le]; simp only [List.length_drop, ch_length]; omega
theorem begins_test (a w : ByteArray) (h : w.size ≤ a.size) : ((a.extract 0 w.size).toList == w.toList) = (ch w).isPrefixOf (ch a) := by
  rw [ByteArray.toList_eq, ByteArray.toList_eq]
  change (ch (a.extract 0 w.size) == ch w) = _
  rw [ch_extract, List.drop_zero, Nat.sub_zero, ← ch_length w, Bool.eq_iff_iff, beq_iff_eq, List.isPrefixOf_iff_prefix, List.prefix_iff_eq_take]
  exact eq_comm
theorem prefix_long (a w : ByteArray) (h : ¬ w.size ≤ a.size) : (ch w).isPrefixOf (ch a) = false := by
  rw [Bool.eq_false_iff]
  intro hp
  have := (List.isPrefixOf_iff_prefix.1 hp).length_le
  rw [ch_length, ch_length] at this
  exact h this
theorem toList_ch (s : ByteArray) : s.toList = ch s := ByteArray.toList_eq s
theorem chNe (l : List ByteArray) (hne : ∀ w ∈ l, 1 ≤ w.size) : ∀ t ∈ l.map ch, t ≠ [] := fun t ht => by
  obtain ⟨w, hw, rfl⟩ := List.mem_map.1 ht
  intro e; have := hne w hw; have := ch_length w; rw [e] at this; simp at this; omega

/-- how often each letter stands in a text -/
def lcOf (l : List UInt8) : List Int := [((l.count 97 : Nat) : Int), ((l.count 98 : Nat) : Int), ((l.count 99 : Nat) : Int)]
theorem letter_three (c : UInt8) (h : isLetter c = true) : c = 97 ∨ c = 98 ∨ c = 99 := by
  have h1 := letter_test c
  have h2 : ¬ ((c.toNat : Int) < 97 ∨ ((c.toNat : Int) - 97) % 256 ≥ 3) := fun q => by rw [h1.1 q] at h; cases h
  have := c.toNat_lt
  have h3 : c.toNat = 97 ∨ c.toNat = 98 ∨ c.toNat = 99 := by omega
  rcases h3 with e | e | e
  · exact Or.inl (UInt8.toNat_inj.1 e)
  · exact Or.inr (Or.inl (UInt8.toNat_inj.1 e))
  · exact Or.inr (Or.inr (UInt8.toNat_inj.1 e))
theorem wdLetters_l0 (s : ByteArray) (hs : s.size ≤ 8) (ha : s.data.toList.all isLetter = true) : ∀ (d i : Nat), i + d = s.data.toList.length → Ev (fun k => spec_wdLetters.l0 k s (lcOf (s.data.toList.take i)) (i : Int)) (lcOf s.data.toList)
  | 0, i, hd => by
    refine Ev.succ ?_
    simp only [spec_wdLetters.l0]
    exact Ev.neg (by rw [size_data]; omega) (Ev.pure (by rw [List.take_of_length_le (by omega)]))
  | d + 1, i, hd => by
    have h1 : i < s.data.toList.length := by omega
    have hsz := size_data s
    have ih := wdLetters_l0 s hs ha d (i + 1) (by omega)
    have hc : isLetter s.data.toList[i] = true := List.all_eq_true.1 ha _ (List.getElem_mem h1)
    have hb := bt_nat s i h1
    have ht : s.data.toList.take (i + 1) = s.data.toList.take i ++ [s.data.toList[i]] := List.take_succ_eq_append_getElem h1
    have hn : ∀ c : UInt8, (s.data.toList.take i).count c ≤ 8 := fun c => Nat.le_trans List.count_le_length (by rw [List.length_take]; omega)
    have n1 := hn 97
    have n2 := hn 98
    have n3 := hn 99
    rw [ht] at ih
    refine Ev.succ ?_
    simp only [spec_wdLetters.l0, w1 (show 0 ≤ (i : Int) by omega) (show (i : Int) < 9223372036854775807 by omega)]
    refine Ev.pos (by omega) (Ev.pos (by omega) ?_)
    rcases letter_three _ hc with e | e | e
    · rw [e] at hb ih
      have e1 : Aside0 ((bt s (i : Int) - 97) % 256 = 0) := ⟨by rw [hb]; rfl⟩
      rw [e1.out]
      have e2 : Aside0 (wrap64 (rd (lcOf (s.data.toList.take i)) 0 + 1) = (((s.data.toList.take i).count 97 + 1 : Nat) : Int)) := ⟨by
        show wrap64 ((((s.data.toList.take i).count 97 : Nat) : Int) + 1) = _
        rw [w64 (by omega) (by omega)]; omega⟩
      rw [e2.out]
      refine Ev.pos (by omega) (Ev.pos (by simp [lcOf]) ?_)
      simpa [lcOf, List.count_append, List.count_cons] using ih
    · rw [e] at hb ih
      have e1 : Aside0 ((bt s (i : Int) - 97) % 256 = 1) := ⟨by rw [hb]; rfl⟩
      rw [e1.out]
      have e2 : Aside0 (wrap64 (rd (lcOf (s.data.toList.take i)) 1 + 1) = (((s.data.toList.take i).count 98 + 1 : Nat) : Int)) := ⟨by
        show wrap64 ((((s.data.toList.take i).count 98 : Nat) : Int) + 1) = _
        rw [w64 (by omega) (by omega)]; omega⟩
      rw [e2.out]
      refine Ev.pos (by omega) (Ev.pos (by simp [lcOf]) ?_)
      simpa [lcOf, List.count_append, List.count_cons] using ih
    · rw [e] at hb ih
      have e1 : Aside0 ((bt s (i : Int) - 97) % 256 = 2) := ⟨by rw [hb]; rfl⟩
      rw [e1.out]
      have e2 : Aside0 (wrap64 (rd (lcOf (s.data.toList.take i)) 2 + 1) = (((s.data.toList.take i).count 99 + 1 : Nat) : Int)) := ⟨by
        show wrap64 ((((s.data.toList.take i).count 99 : Nat) : Int) + 1) = _
        rw [w64 (by omega) (by omega)]; omega⟩
      rw [e2.out]
      refine Ev.pos (by omega) (Ev.pos (by simp [lcOf]) ?_)
      simpa [lcOf, List.count_append, List.count_cons] using ih
theorem wdLetters_ev (s : ByteArray) (hs : s.size ≤ 8) (ha : s.data.toList.all isLetter = true) : Ev (fun k => spec_wdLetters.f k s) (lcOf s.data.toList) := by
  unfold spec_wdLetters.f
  exact Ev.pos (by omega) (wdLetters_l0 s hs ha s.data.toList.length 0 (by omega))
theorem lettersOf_ev (s : ByteArray) : Ev (fun k => impl_lettersOf.f k s) (lcOf s.data.toList) := by
  have e1 : wrap64 (0 + 1) = 1 := by rw [w64 (by omega) (by omega)]; rfl
  have e2 : wrap64 (1 + 1) = 2 := by rw [w64 (by omega) (by omega)]; rfl
  have e3 : wrap64 (2 + 1) = 3 := by rw [w64 (by omega) (by omega)]; rfl
  unfold impl_lettersOf.f
  refine Ev.succ ?_
  simp only [impl_lettersOf.l0, e1]
  refine Ev.pos (by decide) (Ev.pos (by decide) (Ev.pos (by decide) (Ev.pos (by decide) (Ev.known (a := ((s.data.toList.count 97 : Nat) : Int)) (fun _ => rfl) (Ev.pos (by simp) ?_)))))
  refine Ev.succ ?_
  simp only [impl_lettersOf.l0, e2]
  refine Ev.pos (by decide) (Ev.pos (by decide) (Ev.pos (by decide) (Ev.pos (by decide) (Ev.known (a := ((s.data.toList.count 98 : Nat) : Int)) (fun _ => rfl) (Ev.pos (by simp) ?_)))))
  refine Ev.succ ?_
  simp only [impl_lettersOf.l0, e3]
  refine Ev.pos (by decide) (Ev.pos (by decide) (Ev.pos (by decide) (Ev.pos (by decide) (Ev.known (a := ((s.data.toList.count 99 : Nat) : Int)) (fun _ => rfl) (Ev.pos (by simp) ?_)))))
  refine Ev.succ ?_
  simp only [impl_lettersOf.l0]
  exact Ev.neg (by decide) (Ev.now _)

/-- a loop from the first place to the last one, with what is so at each place -/
theorem Ev.loop {R : Type} (g : Nat → Nat → Option R) (n : Nat) (r : R) (hstep : ∀ i, i < n → Ev (g (i + 1)) r → Ev (g i) r) (hend : Ev (g n) r) : Ev (g 0) r := by
  have h : ∀ d i, i + d = n → Ev (g i) r := by
    intro d
    induction d with
    | zero => intro i hi; rw [show i = n by omega]; exact hend
    | succ d ih => intro i hi; exact hstep i (by omega) (ih (i + 1) (by omega))
  exact h n 0 (by omega)

/-- a text out of its letters -/
def bx (x : List UInt8) : ByteArray := ⟨x.toArray⟩
theorem ch_bx (x : List UInt8) : ch (bx x) = x := by simp [ch, bx]
theorem bx_ch (s : ByteArray) : bx (ch s) = s := by simp [ch, bx]
theorem ch_inj' {a b : ByteArray} (h : ch a = ch b) : a = b := ByteArray.ext (Array.toList_inj.1 h)
theorem map_ch_bx (l : List (List UInt8)) : (l.map bx).map ch = l := by simp [Function.comp_def, ch_bx]
theorem map_bx_ch (l : List ByteArray) : (l.map ch).map bx = l := by simp [Function.comp_def, bx_ch]
theorem bx_size (x : List UInt8) : (bx x).size = x.length := by rw [← ch_length, ch_bx]
/-- words in order, each once, as texts -/
def bas (M : List (List UInt8)) : List ByteArray := (ordL M).map bx
theorem ordL_congr {M N : List (List UInt8)} (h : ∀ x, x ∈ M ↔ x ∈ N) : ordL M = ordL N := rises_unique _ _ (ordL_rises M) (ordL_rises N) (fun x => by rw [mem_ordL, mem_ordL]; exact h x)
theorem bas_congr {M N : List (List UInt8)} (h : ∀ x, x ∈ M ↔ x ∈ N) : bas M = bas N := by unfold bas; rw [ordL_congr h]
theorem ch_bas (M : List (List UInt8)) : (bas M).map ch = ordL M := map_ch_bx _
theorem bas_of (r : List ByteArray) (M : List (List UInt8)) (hr : (r.map ch).Pairwise fun x y => wcmp x y < 0) (hm : ∀ x, x ∈ r.map ch ↔ x ∈ M) : r = bas M := by
  unfold bas
  rw [← rises_unique (r.map ch) (ordL M) hr (ordL_rises M) (fun x => by rw [hm, mem_ordL]), map_bx_ch]
theorem ordL_len (M : List (List UInt8)) : (ordL M).length ≤ M.length := by
  unfold ordL Lib.compact Lib.compactUpTo
  rw [List.length_map]
  refine Nat.le_trans (List.length_filter_le _ _) ?_
  rw [List.length_range, (sortW_perm M).length_eq]
  exact Nat.le_refl _
theorem bas_len (M : List (List UInt8)) : (bas M).length ≤ M.length := by unfold bas; rw [List.length_map]; exact ordL_len M
theorem ordL_ordL (M : List (List UInt8)) : ordL (ordL M) = ordL M := ordL_congr (fun x => mem_ordL M x)
theorem bas_nil : bas [] = [] := (bas_of [] [] (by simp) (by simp)).symm
theorem bas_one (x : List UInt8) : bas [x] = [bx x] := by
  symm
  exact bas_of _ _ (by simp) (by intro y; simp [ch_bx])
theorem ordL_nodup (M : List (List UInt8)) : (ordL M).Nodup := (ordL_rises M).imp fun {a b} h e => by rw [e, wcmp_self] at h; omega
theorem wless_wcmp (a b : ByteArray) : wless a b = decide (wcmp (ch a) (ch b) < 0) := by
  unfold wless wcmp
  rw [ch_length, ch_length, bytesLess_cmp]
  by_cases h1 : a.size < b.size
  · simp [h1]
  · by_cases h2 : b.size < a.size
    · simp [h1, h2, show ¬ a.size = b.size by omega]
    · simp [h1, show a.size = b.size by omega]
theorem ordered_eq (l : List ByteArray) (h : l.length ≤ 8796093021952) : impl_ordered.f l = some (bas (l.map ch)) := by
  unfold impl_ordered.f
  rw [if_pos h]; rfl

theorem wdPut_l0 (L : List ByteArray) (s : ByteArray) (hL : L.length ≤ 8796093000000) (hr : (L.map ch).Pairwise fun x y => wcmp x y < 0) : ∀ (d i : Nat), i + d = L.length → (∀ j (h : j < L.length), j < i → wcmp (ch L[j]) (ch s) < 0) → ∃ r, Ev (fun k => spec_wdPut.l0 k L s (i : Int)) r ∧ (r.map ch).Pairwise (fun x y => wcmp x y < 0) ∧ ∀ x, x ∈ r.map ch ↔ x ∈ L.map ch ++ [ch s] := by
  have fin : ∀ i, i ≤ L.length → (∀ j (h : j < L.length), j < i → wcmp (ch L[j]) (ch s) < 0) → (∀ j (h : j < L.length), i ≤ j → wcmp (ch s) (ch L[j]) < 0) → ((L.take i ++ [s] ++ L.drop i).map ch).Pairwise (fun x y => wcmp x y < 0) ∧ ∀ x, x ∈ (L.take i ++ [s] ++ L.drop i).map ch ↔ x ∈ L.map ch ++ [ch s] := by
    intro i hi h1 h2
    refine ⟨?_, fun x => ?_⟩
    · rw [List.map_append, List.map_append, List.map_cons, List.map_nil, List.pairwise_append, List.pairwise_append]
      refine ⟨⟨?_, by simp, ?_⟩, ?_, ?_⟩
      · rw [List.map_take]; exact hr.sublist (List.take_sublist _ _)
      · intro a ha b hb
        rw [List.mem_singleton] at hb
        subst hb
        obtain ⟨y, hy, rfl⟩ := List.mem_map.1 ha
        obtain ⟨j, hj, rfl⟩ := List.getElem_of_mem hy
        rw [List.length_take] at hj
        rw [List.getElem_take]
        exact h1 j (by omega) (by omega)
      · rw [List.map_drop]; exact hr.sublist (List.drop_sublist _ _)
      · intro a ha b hb
        obtain ⟨y, hy, rfl⟩ := List.mem_map.1 hb
        obtain ⟨j, hj, rfl⟩ := List.getElem_of_mem hy
        rw [List.length_drop] at hj
        rw [List.getElem_drop]
        have hb' := h2 (i + j) (by omega) (by omega)
        rcases List.mem_append.1 ha with ha | ha
        · obtain ⟨y, hy, rfl⟩ := List.mem_map.1 ha
          obtain ⟨j', hj', rfl⟩ := List.getElem_of_mem hy
          rw [List.length_take] at hj'
          rw [List.getElem_take]
          exact wcmp_trans _ _ _ (h1 j' (by omega) (by omega)) hb'
        · rw [List.mem_singleton] at ha
          subst ha
          exact hb'
    · have := List.take_append_drop i L
      constructor
      · intro hx
        obtain ⟨y, hy, rfl⟩ := List.mem_map.1 hx
        rcases List.mem_append.1 hy with hy | hy
        · rcases List.mem_append.1 hy with hy | hy
          · exact List.mem_append_left _ (List.mem_map.2 ⟨y, List.mem_of_mem_take hy, rfl⟩)
          · rw [List.mem_singleton] at hy; subst hy; exact List.mem_append_right _ (by simp)
        · exact List.mem_append_left _ (List.mem_map.2 ⟨y, List.mem_of_mem_drop hy, rfl⟩)
      · intro hx
        rcases List.mem_append.1 hx with hx | hx
        · obtain ⟨y, hy, rfl⟩ := List.mem_map.1 hx
          refine List.mem_map.2 ⟨y, ?_, rfl⟩
          rw [← this] at hy
          rcases List.mem_append.1 hy with hy | hy
          · exact List.mem_append_left _ (List.mem_append_left _ hy)
          · exact List.mem_append_right _ hy
        · rw [List.mem_singleton] at hx; subst hx
          exact List.mem_map.2 ⟨s, List.mem_append_left _ (List.mem_append_right _ (by simp)), rfl⟩
  intro d
  induction d with
  | zero =>
    intro i hd h1
    obtain ⟨p, q⟩ := fin i (by omega) h1 (fun j hj h => by omega)
    refine ⟨_, Ev.succ ?_, p, q⟩
    simp only [spec_wdPut.l0, Int.toNat_natCast, Option.bind_some]
    exact Ev.neg (by omega) (Ev.pos (by omega) (Ev.pos (by omega) (Ev.pos (by simp; omega) (Ev.pos (by simp; omega) (Ev.pos (by simp; omega) (Ev.pure (by simp)))))))
  | succ d ih =>
    intro i hd h1
    have hi : i < L.length := by omega
    have hw := wless_wcmp L[i] s
    by_cases hl : wcmp (ch L[i]) (ch s) < 0
    · obtain ⟨r, r1, r2, r3⟩ := ih (i + 1) (by omega) (fun j hj h => by
        by_cases e : j = i
        · subst e; exact hl
        · exact h1 j hj (by omega))
      refine ⟨r, Ev.succ ?_, r2, r3⟩
      simp only [spec_wdPut.l0, rdOf_nat L i hi, w1 (show 0 ≤ (i : Int) by omega) (show (i : Int) < 9223372036854775807 by omega)]
      exact Ev.pos (by omega) (Ev.pos (by omega) (Ev.known (fun _ => wdLess_eq _ _) (Ev.pos (by rw [hw]; simpa using hl) r1)))
    · by_cases he : ch L[i] = ch s
      · refine ⟨L, Ev.succ ?_, hr, fun x => ?_⟩
        · simp only [spec_wdPut.l0, rdOf_nat L i hi, toList_ch]
          exact Ev.pos (by omega) (Ev.pos (by omega) (Ev.known (fun _ => wdLess_eq _ _) (Ev.neg (by rw [hw]; simpa using hl) (Ev.pos he (Ev.now _)))))
        · rw [List.mem_append, List.mem_singleton]
          constructor
          · exact Or.inl
          · rintro (h | rfl)
            · exact h
            · exact List.mem_map.2 ⟨L[i], List.getElem_mem hi, he⟩
      · have hgt : wcmp (ch s) (ch L[i]) < 0 := by
          have := wcmp_anti (ch L[i]) (ch s)
          have h0 : wcmp (ch L[i]) (ch s) ≠ 0 := fun h => he (wcmp_zero _ _ h)
          omega
        obtain ⟨p, q⟩ := fin i (by omega) h1 (fun j hj h => by
          by_cases e : j = i
          · subst e; exact hgt
          · have := List.pairwise_iff_getElem.1 hr i j (by simpa using hi) (by simpa using hj) (by omega)
            rw [List.getElem_map, List.getElem_map] at this
            exact wcmp_trans _ _ _ hgt this)
        refine ⟨_, Ev.succ ?_, p, q⟩
        simp only [spec_wdPut.l0, rdOf_nat L i hi, toList_ch, Int.toNat_natCast, Option.bind_some]
        exact Ev.pos (by omega) (Ev.pos (by omega) (Ev.known (fun _ => wdLess_eq _ _) (Ev.neg (by rw [hw]; simpa using hl) (Ev.neg he (Ev.pos (by omega) (Ev.pos (by simp; omega) (Ev.pos (by simp; omega) (Ev.pos (by simp; omega) (Ev.pure (by simp))))))))))
theorem wdPut_ev (M : List (List UInt8)) (s : ByteArray) (hM : M.length ≤ 8796093000000) : Ev (fun k => spec_wdPut.f k (bas M) s) (bas (M ++ [ch s])) := by
  have hl := bas_len M
  obtain ⟨r, r1, r2, r3⟩ := wdPut_l0 (bas M) s (by omega) (by rw [ch_bas]; exact ordL_rises M) (bas M).length 0 (by omega) (fun j _ h => by omega)
  rw [← bas_of r (M ++ [ch s]) r2 (fun x => by rw [r3, ch_bas, List.mem_append, List.mem_append, mem_ordL])]
  exact r1

/-- the letters in order -/
def asc (a b c : Nat) : List UInt8 := List.replicate a 97 ++ (List.replicate b 98 ++ List.replicate c 99)
def srt (l : List UInt8) : List UInt8 := asc (l.count 97) (l.count 98) (l.count 99)
/-- all words with counts, as texts in order -/
def wds : Nat → Nat → Nat → Nat → List (List UInt8)
  | 0, _, _, _ => [[]]
  | n + 1, a, b, c => (if 0 < a then (wds n (a - 1) b c).map (fun s => 97 :: s) else []) ++ ((if 0 < b then (wds n a (b - 1) c).map (fun s => 98 :: s) else []) ++ (if 0 < c then (wds n a b (c - 1)).map (fun s => 99 :: s) else []))
/-- the least letter behind that is greater comes here, the others in order -/
def pick (k : UInt8) (s : List UInt8) : Option (List UInt8) :=
  if k < 98 ∧ 98 ∈ s then some (98 :: srt (k :: s.erase 98)) else if k < 99 ∧ 99 ∈ s then some (99 :: srt (k :: s.erase 99)) else none
def nextL : List UInt8 → Option (List UInt8)
  | [] => none
  | k :: s => match nextL s with
    | some s' => some (k :: s')
    | none => pick k s
/-- each word leads on to the next one, the last one to none -/
def Chn : List (List UInt8) → Prop
  | [] => True
  | [x] => nextL x = none
  | x :: y :: t => nextL x = some y ∧ Chn (y :: t)
theorem asc_len (a b c : Nat) : (asc a b c).length = a + b + c := by simp [asc]; omega
def Cnt (s : List UInt8) (a b c : Nat) : Prop := s.count 97 = a ∧ s.count 98 = b ∧ s.count 99 = c
theorem wds_cnt : ∀ (n a b c : Nat), n = a + b + c → ∀ s ∈ wds n a b c, Cnt s a b c ∧ s.length = n ∧ s.all isLetter = true
  | 0, a, b, c, h, s, hs => by
    rw [wds, List.mem_singleton] at hs
    subst hs
    obtain ⟨rfl, rfl, rfl⟩ : a = 0 ∧ b = 0 ∧ c = 0 := by omega
    exact ⟨⟨rfl, rfl, rfl⟩, rfl, rfl⟩
  | n + 1, a, b, c, h, s, hs => by
    rw [wds, List.mem_append, List.mem_append] at hs
    rcases hs with hs | hs | hs
    · split at hs
      · obtain ⟨t, ht, rfl⟩ := List.mem_map.1 hs
        obtain ⟨⟨h1, h2, h3⟩, h4, h5⟩ := wds_cnt n (a - 1) b c (by omega) t ht
        refine ⟨⟨by rw [List.count_cons, h1]; simp; omega, by rw [List.count_cons, h2]; simp, by rw [List.count_cons, h3]; simp⟩, by simp [h4], by rw [List.all_cons, h5]; decide⟩
      · simp at hs
    · split at hs
      · obtain ⟨t, ht, rfl⟩ := List.mem_map.1 hs
        obtain ⟨⟨h1, h2, h3⟩, h4, h5⟩ := wds_cnt n a (b - 1) c (by omega) t ht
        refine ⟨⟨by rw [List.count_cons, h1]; simp, by rw [List.count_cons, h2]; simp; omega, by rw [List.count_cons, h3]; simp⟩, by simp [h4], by rw [List.all_cons, h5]; decide⟩
      · simp at hs
    · split at hs
      · obtain ⟨t, ht, rfl⟩ := List.mem_map.1 hs
        obtain ⟨⟨h1, h2, h3⟩, h4, h5⟩ := wds_cnt n a b (c - 1) (by omega) t ht
        refine ⟨⟨by rw [List.count_cons, h1]; simp, by rw [List.count_cons, h2]; simp, by rw [List.count_cons, h3]; simp; omega⟩, by simp [h4], by rw [List.all_cons, h5]; decide⟩
      · simp at hs
theorem chn_block (k : UInt8) (M : List (List UInt8)) (hM : Chn M) : ∀ (V : List (List UInt8)), V ≠ [] → Chn V → (∀ z ∈ V, pick k z = M.head?) → Chn (V.map (fun s => k :: s) ++ M)
  | [], h, _, _ => absurd rfl h
  | [x], _, hV, hp => by
    have hx : nextL x = none := hV
    have h1 := hp x (by simp)
    cases M with
    | nil => show nextL (k :: x) = none; rw [nextL, hx]; exact h1
    | cons y t => exact ⟨by rw [nextL, hx]; exact h1, hM⟩
  | x :: y :: t, _, hV, hp => by
    have ih := chn_block k M hM (y :: t) (by simp) hV.2 (fun z hz => hp z (by simp at hz ⊢; right; exact hz))
    exact ⟨by rw [nextL, hV.1], ih⟩
theorem count_mem {s : List UInt8} {x : UInt8} {n : Nat} (h : s.count x = n) : x ∈ s ↔ 0 < n := by rw [← h]; exact List.count_pos_iff.symm
theorem pick_97 {s : List UInt8} {a b c : Nat} (h : Cnt s a b c) : pick 97 s = if 0 < b then some (98 :: asc (a + 1) (b - 1) c) else if 0 < c then some (99 :: asc (a + 1) b (c - 1)) else none := by
  obtain ⟨h1, h2, h3⟩ := h
  unfold pick srt
  simp only [count_mem h2, count_mem h3, List.count_cons, List.count_erase, h1, h2, h3]
  by_cases hb : 0 < b
  · simp [hb, show (97 : UInt8) < 98 by decide]
  · by_cases hc : 0 < c
    · simp [hb, hc, show (97 : UInt8) < 99 by decide]
    · simp [hb, hc]
theorem pick_98 {s : List UInt8} {a b c : Nat} (h : Cnt s a b c) : pick 98 s = if 0 < c then some (99 :: asc a (b + 1) (c - 1)) else none := by
  obtain ⟨h1, h2, h3⟩ := h
  unfold pick srt
  simp only [count_mem h2, count_mem h3, List.count_cons, List.count_erase, h1, h2, h3]
  by_cases hc : 0 < c
  · simp [hc, show (98 : UInt8) < 99 by decide, show ¬ (98 : UInt8) < 98 by decide]
  · simp [hc, show ¬ (98 : UInt8) < 98 by decide]
theorem pick_99 (s : List UInt8) : pick 99 s = none := by
  unfold pick
  rw [if_neg (fun h => absurd h.1 (by decide)), if_neg (fun h => absurd h.1 (by decide))]
theorem asc_cons (a b c : Nat) : asc (a + 1) b c = 97 :: asc a b c := rfl
theorem asc_b (b c : Nat) : asc 0 (b + 1) c = 98 :: asc 0 b c := rfl
theorem asc_c (c : Nat) : asc 0 0 (c + 1) = 99 :: asc 0 0 c := rfl
theorem wds_chn : ∀ (n a b c : Nat), n = a + b + c → Chn (wds n a b c) ∧ (wds n a b c).head? = some (asc a b c)
  | 0, a, b, c, h => by
    obtain ⟨rfl, rfl, rfl⟩ : a = 0 ∧ b = 0 ∧ c = 0 := by omega
    exact ⟨rfl, rfl⟩
  | n + 1, a, b, c, h => by
    have ne : ∀ {V : List (List UInt8)} {x : List UInt8}, V.head? = some x → V ≠ [] := fun h e => by rw [e] at h; cases h
    -- the block of c
    have C : Chn (if 0 < c then (wds n a b (c - 1)).map (fun s => 99 :: s) else []) ∧ (if 0 < c then (wds n a b (c - 1)).map (fun s => 99 :: s) else []).head? = if 0 < c then some (99 :: asc a b (c - 1)) else none := by
      by_cases hc : 0 < c
      · obtain ⟨i1, i2⟩ := wds_chn n a b (c - 1) (by omega)
        rw [if_pos hc, if_pos hc]
        have := chn_block 99 [] trivial _ (ne i2) i1 (fun z _ => pick_99 z)
        rw [List.append_nil] at this
        exact ⟨this, by rw [List.head?_map, i2]; rfl⟩
      · rw [if_neg hc, if_neg hc]; exact ⟨trivial, rfl⟩
    have B : Chn ((if 0 < b then (wds n a (b - 1) c).map (fun s => 98 :: s) else []) ++ (if 0 < c then (wds n a b (c - 1)).map (fun s => 99 :: s) else [])) ∧ ((if 0 < b then (wds n a (b - 1) c).map (fun s => 98 :: s) else []) ++ (if 0 < c then (wds n a b (c - 1)).map (fun s => 99 :: s) else [])).head? = if 0 < b then some (98 :: asc a (b - 1) c) else if 0 < c then some (99 :: asc a b (c - 1)) else none := by
      by_cases hb : 0 < b
      · obtain ⟨i1, i2⟩ := wds_chn n a (b - 1) c (by omega)
        rw [if_pos hb, if_pos hb]
        refine ⟨chn_block 98 _ C.1 _ (ne i2) i1 (fun z hz => ?_), by rw [List.head?_append, List.head?_map, i2]; rfl⟩
        rw [C.2, pick_98 (wds_cnt n a (b - 1) c (by omega) z hz).1, show b - 1 + 1 = b by omega]
      · rw [if_neg hb, if_neg hb, List.nil_append]; exact C
    rw [wds]
    by_cases ha : 0 < a
    · obtain ⟨i1, i2⟩ := wds_chn n (a - 1) b c (by omega)
      rw [if_pos ha]
      refine ⟨chn_block 97 _ B.1 _ (ne i2) i1 (fun z hz => ?_), ?_⟩
      · rw [B.2, pick_97 (wds_cnt n (a - 1) b c (by omega) z hz).1, show a - 1 + 1 = a by omega]
      · rw [List.head?_append, List.head?_map, i2]
        obtain ⟨a', rfl⟩ : ∃ m, a = m + 1 := ⟨a - 1, by omega⟩
        simp [asc_cons]
    · obtain rfl : a = 0 := by omega
      rw [if_neg ha, List.nil_append]
      refine ⟨B.1, B.2.trans ?_⟩
      by_cases hb : 0 < b
      · obtain ⟨b', rfl⟩ : ∃ m, b = m + 1 := ⟨b - 1, by omega⟩
        rw [if_pos hb, asc_b]; rfl
      · obtain rfl : b = 0 := by omega
        obtain ⟨c', rfl⟩ : ∃ m, c = m + 1 := ⟨c - 1, by omega⟩
        rw [if_neg hb, if_pos (by omega), asc_c]; rfl
/-- where nothing rises -/
def desc (t : List UInt8) : Prop := t.Pairwise fun x y => y ≤ x
theorem next_desc : ∀ (t : List UInt8), desc t → nextL t = none
  | [], _ => rfl
  | k :: s, h => by
    have h1 := List.pairwise_cons.1 h
    rw [nextL, next_desc s h1.2]
    show pick k s = none
    unfold pick
    rw [if_neg (fun q => absurd (h1.1 _ q.2) (by have := q.1; simp only [UInt8.le_iff_toNat_le, UInt8.lt_iff_toNat_lt] at *; omega)), if_neg (fun q => absurd (h1.1 _ q.2) (by have := q.1; simp only [UInt8.le_iff_toNat_le, UInt8.lt_iff_toNat_lt] at *; omega))]
theorem next_app : ∀ (p x y : List UInt8), nextL x = some y → nextL (p ++ x) = some (p ++ y)
  | [], x, y, h => h
  | k :: p, x, y, h => by rw [List.cons_append, nextL, next_app p x y h]; rfl
/-- one letter of a falling row is put in front -/
theorem next_pick (k : UInt8) (t : List UInt8) (ht : desc t) (hl : (k :: t).all isLetter = true) (j : Nat) (hj : j < t.length) (h1 : k < t[j]) (h2 : ∀ i (hi : i < t.length), j < i → t[i] ≤ k) : nextL (k :: t) = some (t[j] :: srt ((k :: t.take j) ++ t.drop (j + 1))) := by
  rw [nextL, next_desc t ht]
  show pick k t = _
  have hmem : t[j] ∈ t := List.getElem_mem hj
  have hcnt : ∀ x, ((k :: t.take j) ++ t.drop (j + 1)).count x = (k :: t.erase t[j]).count x := fun x => by
    have e : t.count x = (t.take j).count x + ((t.drop (j + 1)).count x + if t[j] == x then 1 else 0) := by
      conv => lhs; rw [← List.take_append_drop j t, List.count_append, List.drop_eq_getElem_cons hj, List.count_cons]
    rw [List.count_append, List.count_cons, List.count_cons, List.count_erase, e]
    by_cases q : t[j] = x
    · subst q; simp; omega
    · have q1 : (t[j] == x) = false := beq_eq_false_iff_ne.2 q
      have q2 : (x == t[j]) = false := beq_eq_false_iff_ne.2 (fun h => q h.symm)
      simp [q1, q2]; omega
  have hs : srt ((k :: t.take j) ++ t.drop (j + 1)) = srt (k :: t.erase t[j]) := by unfold srt; rw [hcnt, hcnt, hcnt]
  rw [hs]
  have hge : ∀ x ∈ t, k < x → t[j] ≤ x := fun x hx hk => by
    obtain ⟨i, hi, rfl⟩ := List.getElem_of_mem hx
    rcases Nat.lt_trichotomy i j with h | h | h
    · exact List.pairwise_iff_getElem.1 ht i j hi hj h
    · subst h; exact UInt8.le_refl _
    · have := h2 i hi h
      simp only [UInt8.le_iff_toNat_le, UInt8.lt_iff_toNat_lt] at *; omega
  have hlj : isLetter t[j] = true := List.all_eq_true.1 hl _ (by simp)
  have hlk : isLetter k = true := List.all_eq_true.1 hl _ (by simp)
  generalize t[j] = v at h1 hmem hge hlj ⊢
  unfold pick
  rcases letter_three v hlj with rfl | rfl | rfl
  · rcases letter_three k hlk with rfl | rfl | rfl <;> exact absurd h1 (by decide)
  · rw [if_pos ⟨h1, hmem⟩]
  · rw [if_neg (fun q => absurd (hge 98 q.2 q.1) (by decide)), if_pos ⟨h1, hmem⟩]

theorem ch_app (a b : ByteArray) : ch (a ++ b) = ch a ++ ch b := by simp [ch, ByteArray.data_append]
theorem bx_app (a b : List UInt8) : bx a ++ bx b = bx (a ++ b) := ch_inj' (by rw [ch_app, ch_bx, ch_bx, ch_bx])
theorem cut_letter (r : Nat) (h : r < 3) : (⟨#[97, 98, 99]⟩ : ByteArray).extract r (r + 1) = bx [UInt8.ofNat (97 + r)] := by
  match r, h with
  | 0, _ => decide
  | 1, _ => decide
  | 2, _ => decide
theorem leFirst_l1 (row : List Int) (r : Nat) (hr : r < 3) (q : ByteArray) : ∀ (n : Nat) (acc : List UInt8), acc.length + n ≤ 1000 → Ev (fun k => spec_leFirst.l0 k (bx (acc ++ List.replicate n (UInt8.ofNat (97 + r)))) row 3 (((r + 1 : Nat) : Int))) q → Ev (fun k => spec_leFirst.l1 k (bx acc) (r : Int) (n : Int) row 3 (r : Int)) q
  | 0, acc, hb, next => by
    refine Ev.succ ?_
    simp only [spec_leFirst.l1, w1 (show 0 ≤ (r : Int) by omega) (show (r : Int) < 9223372036854775807 by omega)]
    refine Ev.neg (by omega) ?_
    simpa using next
  | n + 1, acc, hb, next => by
    have ih := leFirst_l1 row r hr q n (acc ++ [UInt8.ofNat (97 + r)]) (by simp; omega) (by rw [List.append_assoc, List.singleton_append, ← List.replicate_succ]; exact next)
    have e1 : ((r : Int) + 1).toNat = r + 1 := by omega
    have e2 : Aside0 (wrap64 (((n + 1 : Nat) : Int) - 1) = (n : Int)) := ⟨by rw [w64 (by omega) (by omega)]; omega⟩
    refine Ev.succ ?_
    simp only [spec_leFirst.l1, w1 (show 0 ≤ (r : Int) by omega) (show (r : Int) < 9223372036854775807 by omega), e1, Int.toNat_natCast, cut_letter r hr, bx_app, bx_size, e2.out]
    exact Ev.pos (by omega) (Ev.pos (by omega) (Ev.pos (by omega) (Ev.pos (by omega) (Ev.pos (by simp; omega) ih))))
theorem leFirst_ev (a b c : Nat) (h : a + b + c ≤ 100) : Ev (fun k => spec_leFirst.f k [(a : Int), (b : Int), (c : Int)]) (bx (asc a b c)) := by
  unfold spec_leFirst.f
  have e3 : (([(a : Int), (b : Int), (c : Int)] : List Int).length : Int) = 3 := rfl
  rw [e3]
  have g : ∀ (i : Nat) (n : Nat) (acc : List UInt8), i < 3 → rd [(a : Int), (b : Int), (c : Int)] (i : Int) = (n : Int) → acc.length + n ≤ 1000 → Ev (fun k => spec_leFirst.l0 k (bx (acc ++ List.replicate n (UInt8.ofNat (97 + i)))) [(a : Int), (b : Int), (c : Int)] 3 (((i + 1 : Nat) : Int))) (bx (asc a b c)) → Ev (fun k => spec_leFirst.l0 k (bx acc) [(a : Int), (b : Int), (c : Int)] 3 (i : Int)) (bx (asc a b c)) := by
    intro i n acc hi hn hb next
    refine Ev.succ ?_
    simp only [spec_leFirst.l0, hn]
    exact Ev.pos (by omega) (Ev.pos (by omega) (Ev.pos (by rw [e3]; omega) (leFirst_l1 _ i hi _ n acc hb next)))
  refine g 0 a [] (by omega) rfl (by simp; omega) (g 1 b _ (by omega) rfl (by simp; omega) (g 2 c _ (by omega) rfl (by simp; omega) ?_))
  refine Ev.succ ?_
  simp only [spec_leFirst.l0]
  refine Ev.neg (by omega) (Ev.pure ?_)
  simp only [List.nil_append, asc, List.append_assoc]
  rfl
theorem leSorted_ev (s : ByteArray) (h : s.size ≤ 8) (hl : (ch s).all isLetter = true) : Ev (fun k => spec_leSorted.f k s) (bx (srt (ch s))) := by
  unfold spec_leSorted.f
  refine Ev.bind (wdLetters_ev s h hl) (Ev.bind (leFirst_ev ((ch s).count 97) ((ch s).count 98) ((ch s).count 99) ?_) (Ev.now _))
  have h1 : ∀ x : UInt8, (ch s).count x ≤ 8 := fun x => Nat.le_trans List.count_le_length (by rw [ch_length]; exact h)
  have a := h1 97
  have b := h1 98
  have c := h1 99
  omega
theorem bt_bx (s : List UInt8) (i : Nat) (h : i < s.length) : bt (bx s) (i : Int) = ((s[i]).toNat : Int) := by
  have := bt_nat (bx s) i (by simpa [bx] using h)
  simpa [bx] using this
/-- what leNext answers -/
def nextB (s : List UInt8) : ByteArray × Bool := match nextL s with
  | some t => (bx t, true)
  | none => ((⟨#[]⟩ : ByteArray), false)
theorem leNext_l1 (s : List UInt8) (h8 : s.length ≤ 8) (hl : s.all isLetter = true) (d : Nat) (hd : d + 1 < s.length) (ht : desc (s.drop (d + 1))) (hlt : s[d]'(by omega) < s[d + 1]) :
    ∀ (e : Nat), d + 1 + e < s.length → (∀ i (hi : i < s.length), d + 1 + e < i → s[i] ≤ s[d]'(by omega)) → Ev (fun k => spec_leNext.l1 k (bx s) (d : Int) ((d + 1 + e : Nat) : Int)) (nextB s) := by
  have h1 : d < s.length := by omega
  have hs : s = s.take d ++ (s[d] :: s.drop (d + 1)) := by rw [← List.drop_eq_getElem_cons h1, List.take_append_drop]
  have fin : ∀ (e : Nat) (hj : d + 1 + e < s.length), (∀ i (hi : i < s.length), d + 1 + e < i → s[i] ≤ s[d]'(by omega)) → s[d] < s[d + 1 + e] → Ev (fun k => spec_leNext.l1 k (bx s) (d : Int) ((d + 1 + e : Nat) : Int)) (nextB s) := by
    intro e hj hgt hlt
    have he : e < (s.drop (d + 1)).length := by rw [List.length_drop]; omega
    have ge : (s.drop (d + 1))[e] = s[d + 1 + e] := by rw [List.getElem_drop]
    have hl2 : (s[d] :: s.drop (d + 1)).all isLetter = true := List.all_eq_true.2 (fun x hx => List.all_eq_true.1 hl x (by rw [← List.drop_eq_getElem_cons h1] at hx; exact List.mem_of_mem_drop hx))
    have hn := next_pick s[d] (s.drop (d + 1)) ht hl2 e he (by rw [ge]; exact hlt) (fun i hi hei => by rw [List.getElem_drop]; rw [List.length_drop] at hi; exact hgt (d + 1 + i) (by omega) (by omega))
    have hn2 := next_app (s.take d) _ _ hn
    rw [← hs, ge] at hn2
    have hv : nextB s = (bx (s.take d ++ s[d + 1 + e] :: srt ((s[d] :: (s.drop (d + 1)).take e) ++ (s.drop (d + 1)).drop (e + 1))), true) := by unfold nextB; rw [hn2]
    rw [hv]
    have E1 : (bx s).extract 0 d = bx (s.take d) := ch_inj' (by rw [ch_extract, ch_bx, ch_bx, List.drop_zero, Nat.sub_zero])
    have E2 : (bx s).extract (d + 1 + e) (d + 1 + e + 1) = bx [s[d + 1 + e]] := ch_inj' (by rw [ch_extract, ch_bx, ch_bx, List.drop_eq_getElem_cons hj, show d + 1 + e + 1 - (d + 1 + e) = 1 by omega]; rfl)
    have E3 : (bx s).extract d (d + 1 + e) = bx (s[d] :: (s.drop (d + 1)).take e) := ch_inj' (by rw [ch_extract, ch_bx, ch_bx, List.drop_eq_getElem_cons h1, show d + 1 + e - d = e + 1 by omega, List.take_succ_cons])
    have E4 : (bx s).extract (d + 1 + e + 1) s.length = bx ((s.drop (d + 1)).drop (e + 1)) := ch_inj' (by rw [ch_extract, ch_bx, ch_bx, List.take_of_length_le (by rw [List.length_drop]; omega), List.drop_drop]; rfl)
    have e3 : Aside0 (wrap64 (((d + 1 + e : Nat) : Int) + 1) = ((d + 1 + e + 1 : Nat) : Int)) := ⟨by rw [w64 (by omega) (by omega)]; omega⟩
    have hx8 : (bx ((s[d] :: (s.drop (d + 1)).take e) ++ (s.drop (d + 1)).drop (e + 1))).size ≤ 8 := by rw [bx_size]; simp; omega
    have hso := leSorted_ev (bx ((s[d] :: (s.drop (d + 1)).take e) ++ (s.drop (d + 1)).drop (e + 1))) hx8 (by
      rw [ch_bx]
      refine List.all_eq_true.2 (fun x hx => List.all_eq_true.1 hl2 x ?_)
      rw [List.cons_append, List.mem_cons, List.mem_append] at hx
      rw [List.mem_cons]
      rcases hx with hx | hx | hx
      · exact Or.inl hx
      · exact Or.inr (List.mem_of_mem_take hx)
      · exact Or.inr (List.mem_of_mem_drop hx))
    rw [ch_bx] at hso
    have hsz : (bx (srt ((s[d] :: (s.drop (d + 1)).take e) ++ (s.drop (d + 1)).drop (e + 1)))).size ≤ 100 := by
      rw [bx_size, srt, asc_len]
      have hc : ∀ x : UInt8, ((s[d] :: (s.drop (d + 1)).take e) ++ (s.drop (d + 1)).drop (e + 1)).count x ≤ 8 := fun x => Nat.le_trans List.count_le_length (by rw [← bx_size]; exact hx8)
      have a := hc 97
      have b := hc 98
      have c := hc 99
      omega
    have hlt' : ((s[d]).toNat : Int) < ((s[d + 1 + e]).toNat : Int) := by have := UInt8.lt_iff_toNat_lt.1 hlt; omega
    refine Ev.succ ?_
    simp only [spec_leNext.l1, bx_size, bt_bx s d h1, bt_bx s (d + 1 + e) hj, e3.out, Int.toNat_natCast, E1, E2, E3, E4, bx_app]
    refine Ev.pos (by omega) (Ev.pos (by omega) (Ev.pos (by omega) (Ev.pos (by omega) (Ev.neg (by omega) (Ev.pos (by omega) (Ev.pos (by omega) (Ev.pos (by omega) (Ev.pos (by simp; omega) (Ev.pos (by omega) (Ev.pos (by omega) (Ev.pos (by omega) (Ev.pos (by simp; omega) (Ev.bind hso (Ev.pos ?_ (Ev.pure ?_)))))))))))))))
    · have hlen : (s.take d ++ [s[d + 1 + e]]).length ≤ 9 := by simp; omega
      omega
    · rw [bx_app, List.append_assoc, List.singleton_append]
  intro e
  induction e with
  | zero =>
    intro hj hgt
    exact fin 0 hj hgt hlt
  | succ e ih =>
    intro hj hgt
    by_cases c : s[d] < s[d + 1 + (e + 1)]
    · exact fin (e + 1) hj hgt c
    · have hc : s[d + 1 + (e + 1)] ≤ s[d] := UInt8.not_lt.1 c
      have ih' := ih (by omega) (fun i hi h => by
        by_cases q : i = d + 1 + (e + 1)
        · subst q; exact hc
        · exact hgt i hi (by omega))
      have e1 : Aside0 (wrap64 (((d + 1 + (e + 1) : Nat) : Int) - 1) = ((d + 1 + e : Nat) : Int)) := ⟨by rw [w64 (by omega) (by omega)]; omega⟩
      have hc' : ((s[d + 1 + (e + 1)]).toNat : Int) ≤ ((s[d]).toNat : Int) := by have := UInt8.le_iff_toNat_le.1 hc; omega
      refine Ev.succ ?_
      simp only [spec_leNext.l1, bx_size, bt_bx s d h1, bt_bx s (d + 1 + (e + 1)) hj, e1.out]
      exact Ev.pos (by omega) (Ev.pos (by omega) (Ev.pos (by omega) (Ev.pos (by omega) (Ev.pos hc' ih'))))
theorem leNext_l0 (s : List UInt8) (h8 : s.length ≤ 8) (hl : s.all isLetter = true) : ∀ (d : Nat), d + 1 ≤ s.length → desc (s.drop d) → Ev (fun k => spec_leNext.l0 k (bx s) ((d : Int) - 1)) (nextB s)
  | 0, hd, ht => by
    rw [List.drop_zero] at ht
    refine Ev.succ ?_
    simp only [spec_leNext.l0]
    refine Ev.neg (by omega) (Ev.succ ?_)
    simp only [spec_leNext.j1]
    exact Ev.pos (by omega) (Ev.pure (by unfold nextB; rw [next_desc s ht]))
  | d + 1, hd, ht => by
    have h1 : d < s.length := by omega
    have h2 : d + 1 < s.length := by omega
    have e0 : (((d + 1 : Nat) : Int) - 1) = (d : Int) := by omega
    have e1 : Aside0 (wrap64 ((d : Int) - 1) = (d : Int) - 1) := ⟨w64 (by omega) (by omega)⟩
    have e2 : Aside0 (wrap64 ((s.length : Int) - 1) = ((d + 1 + (s.length - (d + 2)) : Nat) : Int)) := ⟨by rw [w64 (by omega) (by omega)]; omega⟩
    have e3 : Aside0 (wrap64 ((d : Int) + 1) = ((d + 1 : Nat) : Int)) := ⟨by rw [w64 (by omega) (by omega)]; omega⟩
    refine Ev.succ ?_
    simp only [spec_leNext.l0, e0, e3.out, bx_size, bt_bx s d h1, bt_bx s (d + 1) h2, e1.out]
    refine Ev.pos (by omega) (Ev.pos (by omega) (Ev.pos (by omega) (Ev.pos (by omega) (Ev.pos (by omega) (Ev.cases (fun c => ?_) (fun c => ?_))))))
    · refine leNext_l0 s h8 hl d (by omega) ?_
      rw [List.drop_eq_getElem_cons h1]
      refine List.pairwise_cons.2 ⟨fun y hy => ?_, ht⟩
      rw [List.drop_eq_getElem_cons h2] at hy ht
      have hle : s[d + 1] ≤ s[d] := by simp only [UInt8.le_iff_toNat_le]; omega
      rcases List.mem_cons.1 hy with rfl | hy
      · exact hle
      · have := (List.pairwise_cons.1 ht).1 y hy
        exact UInt8.le_trans this hle
    · refine Ev.succ ?_
      simp only [spec_leNext.j1, bx_size, e2.out]
      refine Ev.neg (by omega) ?_
      exact leNext_l1 s h8 hl d h2 ht (by simp only [UInt8.lt_iff_toNat_lt]; omega) (s.length - (d + 2)) (by omega) (fun i hi h => by omega)
theorem leNext_ev (s : List UInt8) (h8 : s.length ≤ 8) (hl : s.all isLetter = true) : Ev (fun k => spec_leNext.f k (bx s)) (nextB s) := by
  unfold spec_leNext.f
  rw [bx_size]
  by_cases h : s.length = 0
  · have hs : s = [] := List.eq_nil_of_length_eq_zero h
    subst hs
    have e : Aside0 (wrap64 (((([] : List UInt8).length : Nat) : Int) - 2) = -2) := ⟨w64 (by simp) (by simp)⟩
    rw [e.out]
    refine Ev.succ ?_
    simp only [spec_leNext.l0]
    refine Ev.neg (by omega) (Ev.succ ?_)
    simp only [spec_leNext.j1]
    exact Ev.pos (by omega) (Ev.now _)
  · have e : Aside0 (wrap64 ((s.length : Int) - 2) = ((s.length - 1 : Nat) : Int) - 1) := ⟨by rw [w64 (by omega) (by omega)]; omega⟩
    rw [e.out]
    refine leNext_l0 s h8 hl (s.length - 1) (by omega) ?_
    rw [List.drop_eq_getElem_cons (by omega), List.drop_of_length_le (by omega)]
    simp [desc]


theorem wdBegins_eq (a w : ByteArray) : spec_wdBegins.f a w = some ((ch w).isPrefixOf (ch a)) := by
  unfold spec_wdBegins.f
  by_cases h : w.size ≤ a.size
  · rw [if_pos (by omega), if_pos (by omega), begins_test a w h]
  · rw [if_neg (by omega), prefix_long a w h]

/-- sums, as the machine adds -/
def wsum (s : Int) : List Int → Int
  | [] => s
  | x :: l => wsum (wrap64 (s + x)) l
theorem sumWeights_l0 (l : List Int) (hl : l.length ≤ 1048576) : ∀ (d i : Nat) (s : Int), i + d = l.length → Ev (fun k => impl_sumWeights.l0 k s l (l.length : Int) (i : Int)) (wsum s (l.drop i))
  | 0, i, s, hd => by
    refine Ev.succ ?_
    simp only [impl_sumWeights.l0]
    exact Ev.neg (by omega) (Ev.pure (by rw [List.drop_of_length_le (by omega)]; rfl))
  | d + 1, i, s, hd => by
    have h1 : i < l.length := by omega
    have ih := sumWeights_l0 l hl d (i + 1) (wrap64 (s + l[i])) (by omega)
    rw [List.drop_eq_getElem_cons h1]
    refine Ev.succ ?_
    simp only [impl_sumWeights.l0, rd_nat l i h1, w1 (show 0 ≤ (i : Int) by omega) (show (i : Int) < 9223372036854775807 by omega)]
    exact Ev.pos (by omega) (Ev.pos (by omega) (Ev.pos (by omega) ih))
theorem sumWeights_ev (l : List Int) (hl : l.length ≤ 1048576) : Ev (fun k => impl_sumWeights.f k l) (wsum 0 l) := by
  have h := sumWeights_l0 l hl l.length 0 0 (by omega)
  simpa [impl_sumWeights.f] using h

theorem wds_len : ∀ (n a b c : Nat), (wds n a b c).length ≤ 3 ^ n
  | 0, _, _, _ => by simp [wds]
  | n + 1, a, b, c => by
    have h1 := wds_len n (a - 1) b c
    have h2 := wds_len n a (b - 1) c
    have h3 := wds_len n a b (c - 1)
    rw [wds, List.length_append, List.length_append, Nat.pow_succ]
    have e : ∀ (p : Prop) [Decidable p] (V : List (List UInt8)) (N : Nat) (l : UInt8), V.length ≤ N → (if p then V.map (fun s => l :: s) else []).length ≤ N := fun p _ V N l h => by
      split
      · rw [List.length_map]; exact h
      · simp
    have g1 := e (0 < a) _ _ 97 h1
    have g2 := e (0 < b) _ _ 98 h2
    have g3 := e (0 < c) _ _ 99 h3
    omega
theorem ww_l1 (row : List Int) (r : Nat) (hr : r < 3) (V : List (List UInt8)) (hV : V.length ≤ 1000000) (h8 : ∀ s ∈ V, s.length ≤ 1000) (q : List ByteArray) : ∀ (d i : Nat) (acc : List ByteArray), i + d = V.length → acc.length + d ≤ 10000000 →
    Ev (fun k => impl_wordsWith.l0 k row (acc ++ (V.drop i).map (fun s => bx (UInt8.ofNat (97 + r) :: s))) row 3 ((r + 1 : Nat) : Int)) q → Ev (fun k => impl_wordsWith.l1 k row acc (r : Int) row 3 (r : Int) (V.map bx) (V.length : Int) (i : Int)) q
  | 0, i, acc, hd, hb, next => by
    rw [List.drop_of_length_le (by omega)] at next
    have e3 : Aside0 (wrap64 ((r : Int) + 1) = ((r + 1 : Nat) : Int)) := ⟨by rw [w64 (by omega) (by omega)]; omega⟩
    refine Ev.succ ?_
    simp only [impl_wordsWith.l1, e3.out]
    refine Ev.neg (by omega) ?_
    simpa using next
  | d + 1, i, acc, hd, hb, next => by
    have hi : i < V.length := by omega
    have hi' : i < (V.map bx).length := by rw [List.length_map]; exact hi
    rw [List.drop_eq_getElem_cons hi, List.map_cons] at next
    have ih := ww_l1 row r hr V hV h8 q d (i + 1) (acc ++ [bx (UInt8.ofNat (97 + r) :: V[i])]) (by omega) (by simp; omega) (by rw [List.append_assoc, List.singleton_append]; exact next)
    have e3 : Aside0 (wrap64 ((r : Int) + 1) = ((r : Int) + 1)) := ⟨w64 (by omega) (by omega)⟩
    have e1 : ((r : Int) + 1).toNat = r + 1 := by omega
    have hs := h8 _ (List.getElem_mem hi)
    have hz : (bx [UInt8.ofNat (97 + r)]).size + (bx V[i]).size ≤ 9223372036854775807 := by rw [bx_size, bx_size]; simp; omega
    refine Ev.succ ?_
    simp only [impl_wordsWith.l1, rdOf_nat (V.map bx) i hi', List.getElem_map, e3.out, e1, Int.toNat_natCast, cut_letter r hr, bx_app, List.singleton_append, w1 (show 0 ≤ (i : Int) by omega) (show (i : Int) < 9223372036854775807 by omega)]
    exact Ev.pos (by omega) (Ev.pos (by omega) (Ev.pos (by rw [List.length_map]; omega) (Ev.pos (by omega) (Ev.pos (by omega) (Ev.pos (by omega) (Ev.pos hz (Ev.pos (by omega) ih)))))))
theorem ww_block (row : List Int) (hrow : row.length = 3) (r : Nat) (hr : r < 3) (m : Nat) (hm : m ≤ 1000) (hrd : rd row (r : Int) = (m : Int)) (V : List (List UInt8)) (hV : V.length ≤ 1000000) (h8 : 0 < m → ∀ s ∈ V, s.length ≤ 1000) (hrec : 0 < m → Ev (fun k => impl_wordsWith.f k (row.set r ((m - 1 : Nat) : Int))) (V.map bx)) (acc : List ByteArray) (hacc : acc.length ≤ 5000000) (q : List ByteArray)
    (next : Ev (fun k => impl_wordsWith.l0 k row (acc ++ (if 0 < m then V.map (fun s => UInt8.ofNat (97 + r) :: s) else []).map bx) row 3 ((r + 1 : Nat) : Int)) q) : Ev (fun k => impl_wordsWith.l0 k row acc row 3 (r : Int)) q := by
  have e3 : Aside0 (wrap64 ((r : Int) + 1) = ((r + 1 : Nat) : Int)) := ⟨by rw [w64 (by omega) (by omega)]; omega⟩
  refine Ev.succ ?_
  simp only [impl_wordsWith.l0, hrd, e3.out, hrow]
  refine Ev.pos (by omega) (Ev.pos (by omega) (Ev.pos (by omega) (Ev.cases (fun h0 => ?_) (fun h0 => ?_))))
  · rw [if_neg (by omega)] at next
    simpa using next
  · have hm0 : 0 < m := by omega
    have ec : slices_Clone_int_int.f row = some row := by unfold slices_Clone_int_int.f; rw [if_pos (by omega)]
    have e4 : Aside0 (wrap64 ((m : Int) - 1) = ((m - 1 : Nat) : Int)) := ⟨by rw [w64 (by omega) (by omega)]; omega⟩
    refine Ev.known (fun _ => ec) ?_
    simp only [hrd, e4.out, Int.toNat_natCast, hrow]
    refine Ev.pos (by omega) (Ev.bind (hrec hm0) ?_)
    simp only [List.length_map]
    refine ww_l1 row r hr V hV (h8 hm0) q V.length 0 acc (by omega) (by omega) ?_
    rw [if_pos hm0, List.map_map] at next
    rw [List.drop_zero]
    exact next
theorem wordsWith_ev : ∀ (n a b c : Nat), n = a + b + c → n ≤ 8 → Ev (fun k => impl_wordsWith.f k [(a : Int), (b : Int), (c : Int)]) ((wds n a b c).map bx)
  | 0, a, b, c, h, h8 => by
    obtain ⟨rfl, rfl, rfl⟩ : a = 0 ∧ b = 0 ∧ c = 0 := by omega
    have hs := sumWeights_ev [((0 : Nat) : Int), ((0 : Nat) : Int), ((0 : Nat) : Int)] (by simp)
    have e : wsum 0 [((0 : Nat) : Int), ((0 : Nat) : Int), ((0 : Nat) : Int)] = 0 := by simp [wsum, wrap64]
    rw [e] at hs
    refine Ev.succ ?_
    simp only [impl_wordsWith.f]
    exact Ev.bind hs (Ev.pos rfl (Ev.now _))
  | n + 1, a, b, c, h, h8 => by
    have hs := sumWeights_ev [(a : Int), (b : Int), (c : Int)] (by simp)
    have w0 : Aside0 (wrap64 (0 + (a : Int)) = (a : Int)) := ⟨by rw [w64 (by omega) (by omega)]; omega⟩
    have w2 : Aside0 (wrap64 ((a : Int) + (b : Int)) = ((a + b : Nat) : Int)) := ⟨by rw [w64 (by omega) (by omega)]; omega⟩
    have w3 : Aside0 (wrap64 (((a + b : Nat) : Int) + (c : Int)) = ((n + 1 : Nat) : Int)) := ⟨by rw [w64 (by omega) (by omega)]; omega⟩
    have e : wsum 0 [(a : Int), (b : Int), (c : Int)] = ((n + 1 : Nat) : Int) := by simp only [wsum, w0.out, w2.out, w3.out]
    rw [e] at hs
    clear w0 w2 w3 e
    have hb : ∀ x y z, (wds n x y z).length ≤ 10000 := fun x y z => by
      have h1 := wds_len n x y z
      have h2 : 3 ^ n ≤ 3 ^ 8 := Nat.pow_le_pow_right (by omega) (by omega)
      have h3 : 3 ^ 8 = 6561 := by decide
      omega
    have hl : ∀ x y z, n = x + y + z → ∀ s ∈ wds n x y z, s.length ≤ 1000 := fun x y z hn s hs => by have := (wds_cnt n x y z hn s hs).2.1; omega
    have hif : ∀ (p : Prop) [Decidable p] (V : List (List UInt8)) (l : UInt8), V.length ≤ 10000 → ((if p then V.map (fun s => l :: s) else []).map bx).length ≤ 10000 := fun p _ V l h => by
      rw [List.length_map]
      split
      · rw [List.length_map]; exact h
      · simp
    have k1 := hif (0 < a) _ 97 (hb (a - 1) b c)
    have k2 := hif (0 < b) _ 98 (hb a (b - 1) c)
    refine Ev.succ ?_
    simp only [impl_wordsWith.f]
    refine Ev.bind hs (Ev.neg (by omega) ?_)
    refine ww_block [(a : Int), (b : Int), (c : Int)] rfl 0 (by omega) a (by omega) rfl (wds n (a - 1) b c) (by have := hb (a - 1) b c; omega) (fun h0 => hl _ _ _ (by omega)) (fun h0 => wordsWith_ev n (a - 1) b c (by omega) (by omega)) [] (by simp) _ ?_
    refine ww_block [(a : Int), (b : Int), (c : Int)] rfl 1 (by omega) b (by omega) rfl (wds n a (b - 1) c) (by have := hb a (b - 1) c; omega) (fun h0 => hl _ _ _ (by omega)) (fun h0 => wordsWith_ev n a (b - 1) c (by omega) (by omega)) _ (by rw [List.nil_append]; exact Nat.le_trans k1 (by omega)) _ ?_
    refine ww_block [(a : Int), (b : Int), (c : Int)] rfl 2 (by omega) c (by omega) rfl (wds n a b (c - 1)) (by have := hb a b (c - 1); omega) (fun h0 => hl _ _ _ (by omega)) (fun h0 => wordsWith_ev n a b (c - 1) (by omega) (by omega)) _ (by rw [List.nil_append, List.length_append]; exact Nat.le_trans (Nat.add_le_add k1 k2) (by omega)) _ ?_
    refine Ev.succ ?_
    simp only [impl_wordsWith.l0]
    refine Ev.neg (by omega) (Ev.pure ?_)
    rw [wds, List.map_append, List.map_append, List.nil_append, List.append_assoc]
    rfl

theorem cnt_sum : ∀ s : List UInt8, s.all isLetter = true → s.length = s.count 97 + s.count 98 + s.count 99
  | [], _ => rfl
  | x :: s, h => by
    rw [List.all_cons, Bool.and_eq_true] at h
    have ih := cnt_sum s h.2
    simp only [List.length_cons, List.count_cons]
    rcases letter_three x h.1 with rfl | rfl | rfl <;> simp <;> omega
/-- all words with the letters of a word -/
def cw (s : List UInt8) : List (List UInt8) := wds s.length (s.count 97) (s.count 98) (s.count 99)
theorem cw_mem (s : List UInt8) (h : s.all isLetter = true) (t : List UInt8) (ht : t ∈ cw s) : t.length = s.length ∧ t.all isLetter = true := (wds_cnt _ _ _ _ (cnt_sum s h) t ht).2
/-- none begins with another one -/
def freeL (done : List (List UInt8)) (s : List UInt8) : Bool := done.all fun t => !(t.isPrefixOf s) && !(s.isPrefixOf t)
def srchL (rec : List (List UInt8) → Option (List (List UInt8))) (done : List (List UInt8)) : List (List UInt8) → Option (List (List UInt8))
  | [] => none
  | s :: V => if freeL done s = true then (match rec (done ++ [s]) with | some x => some x | none => srchL rec done V) else srchL rec done V
def srch : List (List (List UInt8)) → List (List UInt8) → Option (List (List UInt8))
  | [], done => some done
  | V :: rest, done => srchL (srch rest) done V
theorem isFree_eq (done : List (List UInt8)) (s : List UInt8) : impl_isFreeOf.f (done.map bx) (bx s) = some (freeL done s) := by
  unfold impl_isFreeOf.f
  congr 1
  induction done with
  | nil => rfl
  | cons t done ih =>
    rw [List.map_cons, List.any_cons, Bool.not_or, ih]
    have e : freeL (t :: done) s = ((!(t.isPrefixOf s) && !(s.isPrefixOf t)) && freeL done s) := by simp only [freeL, List.all_cons]
    rw [e]
    congr 1
    change (!(((ch (bx s)).isPrefixOf (ch (bx t))) || ((ch (bx t)).isPrefixOf (ch (bx s))))) = _
    rw [ch_bx, ch_bx]
    cases s.isPrefixOf t <;> cases t.isPrefixOf s <;> rfl
def cand (l : List ByteArray) : List (List (List UInt8)) := l.map fun s => cw (ch s)
theorem cand_at (l : List ByteArray) (i : Nat) (h : i < l.length) : (cand l).drop i = cw (ch l[i]) :: (cand l).drop (i + 1) := by
  have h' : i < (cand l).length := by unfold cand; rw [List.length_map]; exact h
  rw [List.drop_eq_getElem_cons h']
  simp [cand]
theorem IsSet.letters {l : List ByteArray} (h : IsSet l) (w : ByteArray) (hw : w ∈ l) : (ch w).all isLetter = true ∧ (ch w).length ≤ 8 := by
  have h1 := h.short w hw
  have h2 := h.size w hw
  unfold Pure.short at h1
  simp only [Bool.and_eq_true, decide_eq_true_eq] at h1
  exact ⟨h1.2, by rw [ch_length]; exact h2.2⟩
theorem cw_len (s : List UInt8) (h : s.length ≤ 8) : (cw s).length ≤ 6561 := by
  have h1 := wds_len s.length (s.count 97) (s.count 98) (s.count 99)
  have h2 : 3 ^ s.length ≤ 3 ^ 8 := Nat.pow_le_pow_right (by omega) h
  have h3 : 3 ^ 8 = 6561 := by decide
  unfold cw
  omega
/-- the program's search -/
theorem find_ev (l : List ByteArray) (hset : IsSet l) : ∀ (d : Nat) (done : List (List UInt8)), done.length + d = l.length → Ev (fun k => impl_PrefixAlike.find k l (done.map bx)) ((srch ((cand l).drop done.length) done).map (List.map bx))
  | 0, done, hd => by
    have e : (cand l).drop done.length = [] := List.drop_of_length_le (by unfold cand; rw [List.length_map]; omega)
    rw [e]
    refine Ev.succ ?_
    simp only [impl_PrefixAlike.find, List.length_map]
    exact Ev.pos (by omega) (Ev.now _)
  | d + 1, done, hd => by
    have hi : done.length < l.length := by omega
    have h12 := hset.few
    have hs := hset.letters l[done.length] (List.getElem_mem hi)
    rw [cand_at l done.length hi, srch]
    have hw := wordsWith_ev (ch l[done.length]).length _ _ _ (cnt_sum _ hs.1) hs.2
    have hlen := cw_len _ hs.2
    change Ev _ ((cw (ch l[done.length])).map bx) at hw
    generalize cw (ch l[done.length]) = V at hw hlen ⊢
    have loop : ∀ (e i : Nat), i + e = V.length → Ev (fun k => impl_PrefixAlike.loop k l (done.map bx) (V.map bx) i) ((srchL (srch ((cand l).drop (done.length + 1))) done (V.drop i)).map (List.map bx)) := by
      intro e
      induction e with
      | zero =>
        intro i he
        have ez : V.drop i = [] := List.drop_of_length_le (by omega)
        rw [ez]
        refine Ev.succ ?_
        simp only [impl_PrefixAlike.loop, List.length_map]
        exact Ev.neg (by omega) (Ev.now _)
      | succ e ih =>
        intro i he
        have h1 : i < V.length := by omega
        have h1' : i < (V.map bx).length := by rw [List.length_map]; exact h1
        have ih' := ih (i + 1) (by omega)
        rw [List.drop_eq_getElem_cons h1, srchL]
        refine Ev.succ ?_
        simp only [impl_PrefixAlike.loop, rdOf_nat (V.map bx) i h1', List.getElem_map, List.length_map]
        refine Ev.pos h1 (Ev.known (fun _ => isFree_eq done V[i]) ?_)
        cases hf : freeL done V[i] with
        | false =>
          rw [if_neg (by simp)]
          exact Ev.neg (by simp) ih'
        | true =>
          rw [if_pos rfl]
          have hr := find_ev l hset d (done ++ [V[i]]) (by simp; omega)
          rw [List.map_append, List.map_cons, List.map_nil, show (done ++ [V[i]]).length = done.length + 1 by simp] at hr
          refine Ev.pos rfl (Ev.bind hr ?_)
          cases srch ((cand l).drop (done.length + 1)) (done ++ [V[i]]) with
          | some x => exact Ev.now _
          | none => exact ih'
    refine Ev.succ ?_
    simp only [impl_PrefixAlike.find, List.length_map, rdOf_nat l done.length hi]
    exact Ev.neg (by omega) (Ev.pos (by omega) (Ev.bind (lettersOf_ev _) (Ev.bind hw (by simpa using loop V.length 0 (by omega)))))
/-- what leFind answers -/
def resB : Option (List (List UInt8)) → List ByteArray × Bool
  | some x => (x.map bx, true)
  | none => ([], false)
theorem lf_l1 (rows : List (List Int)) (done : List (List UInt8)) (hd : done.length ≤ 1000) (s : List UInt8) (q : List ByteArray × Bool)
    (yes : freeL done s = true → Ev (fun k => (spec_leFind.f k rows ((done.map bx) ++ [bx s])).bind fun bt135 => if bt135.2 = true then some (bt135.1, true) else (spec_leNext.f k (bx s)).bind fun bt139 => spec_leFind.l0 k rows (done.map bx) bt139.1 bt139.2) q)
    (no : freeL done s = false → Ev (fun k => (spec_leNext.f k (bx s)).bind fun bt124 => spec_leFind.l0 k rows (done.map bx) bt124.1 bt124.2) q) :
    ∀ (d i : Nat) (b : Bool), i + d = done.length → (b && freeL (done.drop i) s) = freeL done s → Ev (fun k => spec_leFind.l1 k rows (done.map bx) (bx s) b (done.map bx) (done.length : Int) (i : Int)) q
  | 0, i, b, hi, hb => by
    rw [List.drop_of_length_le (by omega)] at hb
    have hb' : b = freeL done s := by simpa [freeL] using hb
    refine Ev.succ ?_
    simp only [spec_leFind.l1]
    refine Ev.neg (by omega) ?_
    cases b with
    | true =>
      refine Ev.pos rfl ?_
      simp only [Option.bind_some, List.nil_append]
      refine Ev.pos (by rw [List.length_map]; simp; omega) (Ev.pos (by rw [List.length_map]; omega) (yes hb'.symm))
    | false => exact Ev.neg (by simp) (no hb'.symm)
  | d + 1, i, b, hi, hb => by
    have h1 : i < done.length := by omega
    have h1' : i < (done.map bx).length := by rw [List.length_map]; exact h1
    rw [List.drop_eq_getElem_cons h1] at hb
    have e : freeL (done[i] :: done.drop (i + 1)) s = ((!(done[i].isPrefixOf s) && !(s.isPrefixOf done[i])) && freeL (done.drop (i + 1)) s) := by simp only [freeL, List.all_cons]
    rw [e] at hb
    have wi := w1 (show 0 ≤ (i : Int) by omega) (show (i : Int) < 9223372036854775807 by omega)
    refine Ev.succ ?_
    simp only [spec_leFind.l1, rdOf_nat (done.map bx) i h1', List.getElem_map, wi]
    refine Ev.pos (by omega) (Ev.pos (by omega) (Ev.pos (by rw [List.length_map]; omega) ?_))
    cases b with
    | false =>
      refine Ev.neg (by simp) (lf_l1 rows done hd s q yes no d (i + 1) false (by omega) (by simpa using hb))
    | true =>
      refine Ev.pos rfl (Ev.known (fun _ => wdBegins_eq _ _) ?_)
      rw [ch_bx, ch_bx]
      cases hp : done[i].isPrefixOf s with
      | true =>
        rw [hp] at hb
        exact Ev.pos rfl (lf_l1 rows done hd s q yes no d (i + 1) false (by omega) (by simpa using hb))
      | false =>
        rw [hp] at hb
        refine Ev.neg (by simp) (Ev.known (fun _ => wdBegins_eq _ _) ?_)
        rw [ch_bx, ch_bx]
        exact lf_l1 rows done hd s q yes no d (i + 1) (!(s.isPrefixOf done[i])) (by omega) (by simpa using hb)
def rowsL (l : List ByteArray) : List (List Int) := l.map fun s => lcOf (ch s)
/-- the reference's search -/
theorem leFind_ev (l : List ByteArray) (hset : IsSet l) : ∀ (d : Nat) (done : List (List UInt8)), done.length + d = l.length → Ev (fun k => spec_leFind.f k (rowsL l) (done.map bx)) (resB (srch ((cand l).drop done.length) done))
  | 0, done, hd => by
    have e : (cand l).drop done.length = [] := List.drop_of_length_le (by unfold cand; rw [List.length_map]; omega)
    rw [e]
    have hr : (rowsL l).length = l.length := by unfold rowsL; rw [List.length_map]
    refine Ev.succ ?_
    simp only [spec_leFind.f, List.length_map, hr]
    exact Ev.pos (by omega) (Ev.now _)
  | d + 1, done, hd => by
    have hi : done.length < l.length := by omega
    have h12 := hset.few
    have hs := hset.letters l[done.length] (List.getElem_mem hi)
    rw [cand_at l done.length hi, srch]
    have hr : (rowsL l).length = l.length := by unfold rowsL; rw [List.length_map]
    have hrow : rd_L2 (rowsL l) (done.length : Int) = lcOf (ch l[done.length]) := by
      unfold rd_L2 rowsL
      rw [Int.toNat_natCast]
      simp [List.getD_eq_getElem?_getD, hi]
    have hch := wds_chn (ch l[done.length]).length _ _ _ (cnt_sum _ hs.1)
    have hmem := fun (t : List UInt8) (ht : t ∈ cw (ch l[done.length])) => cw_mem (ch l[done.length]) hs.1 t ht
    have hsum := cnt_sum _ hs.1
    have hf := leFirst_ev ((ch l[done.length]).count 97) ((ch l[done.length]).count 98) ((ch l[done.length]).count 99) (by omega)
    change Chn (cw (ch l[done.length])) ∧ (cw (ch l[done.length])).head? = _ at hch
    have hmem' : ∀ t ∈ cw (ch l[done.length]), t.length ≤ 8 ∧ t.all isLetter = true := fun t ht => ⟨by rw [(hmem t ht).1]; exact hs.2, (hmem t ht).2⟩
    obtain ⟨hch1, hch2⟩ := hch
    generalize cw (ch l[done.length]) = V at hch1 hch2 hmem' ⊢
    have loop : ∀ (V : List (List UInt8)) (s : List UInt8), Chn (s :: V) → (∀ t ∈ s :: V, t.length ≤ 8 ∧ t.all isLetter = true) → Ev (fun k => spec_leFind.l0 k (rowsL l) (done.map bx) (bx s) true) (resB (srchL (srch ((cand l).drop (done.length + 1))) done (s :: V))) := by
      intro V
      induction V with
      | nil =>
        intro s hc hm
        have hn := leNext_ev s (hm s (by simp)).1 (hm s (by simp)).2
        have hnil : nextL s = none := hc
        have hnb : nextB s = ((⟨#[]⟩ : ByteArray), false) := by unfold nextB; rw [hnil]
        rw [hnb] at hn
        have fin : Ev (fun k => (spec_leNext.f k (bx s)).bind fun bt => spec_leFind.l0 k (rowsL l) (done.map bx) bt.1 bt.2) (([] : List ByteArray), false) := Ev.bind hn (Ev.succ (by simp only [spec_leFind.l0]; exact Ev.neg (by simp) (Ev.now _)))
        refine Ev.succ ?_
        simp only [spec_leFind.l0, List.length_map]
        refine Ev.pos trivial (lf_l1 (rowsL l) done (by omega) s _ (fun h => ?_) (fun h => ?_) done.length 0 true (by omega) (by simp))
        · have hr := leFind_ev l hset d (done ++ [s]) (by simp; omega)
          rw [List.map_append, List.map_cons, List.map_nil, show (done ++ [s]).length = done.length + 1 by simp] at hr
          refine Ev.bind hr ?_
          rw [srchL, if_pos h]
          cases srch ((cand l).drop (done.length + 1)) (done ++ [s]) with
          | some x => exact Ev.pos rfl (Ev.now _)
          | none => exact Ev.neg (by simp [resB]) fin
        · rw [srchL, if_neg (by simp [h])]
          exact fin
      | cons y V ih =>
        intro s hc hm
        have hn := leNext_ev s (hm s (by simp)).1 (hm s (by simp)).2
        have hnb : nextB s = (bx y, true) := by unfold nextB; rw [hc.1]
        rw [hnb] at hn
        have ih' := ih y hc.2 (fun t ht => hm t (by simp at ht ⊢; right; exact ht))
        have fin : Ev (fun k => (spec_leNext.f k (bx s)).bind fun bt => spec_leFind.l0 k (rowsL l) (done.map bx) bt.1 bt.2) (resB (srchL (srch ((cand l).drop (done.length + 1))) done (y :: V))) := Ev.bind hn ih'
        refine Ev.succ ?_
        simp only [spec_leFind.l0, List.length_map]
        refine Ev.pos trivial (lf_l1 (rowsL l) done (by omega) s _ (fun h => ?_) (fun h => ?_) done.length 0 true (by omega) (by simp))
        · have hr := leFind_ev l hset d (done ++ [s]) (by simp; omega)
          rw [List.map_append, List.map_cons, List.map_nil, show (done ++ [s]).length = done.length + 1 by simp] at hr
          refine Ev.bind hr ?_
          rw [srchL, if_pos h]
          cases srch ((cand l).drop (done.length + 1)) (done ++ [s]) with
          | some x => exact Ev.pos rfl (Ev.now _)
          | none => exact Ev.neg (by simp [resB]) fin
        · rw [srchL, if_neg (by simp [h])]
          exact fin
    refine Ev.succ ?_
    simp only [spec_leFind.f, List.length_map, hr, hrow]
    refine Ev.neg (by omega) (Ev.pos (by omega) (Ev.pos (by omega) (Ev.bind hf ?_)))
    match V, hch1, hch2, hmem' with
    | s :: V, h1, h2, h3 =>
      have e : s = asc ((ch l[done.length]).count 97) ((ch l[done.length]).count 98) ((ch l[done.length]).count 99) := by simpa using h2
      rw [← e]
      exact loop V s h1 h3

theorem srchL_len (rec : List (List UInt8) → Option (List (List UInt8))) (done : List (List UInt8)) (n : Nat) (h : ∀ s x, rec (done ++ [s]) = some x → x.length = n) : ∀ (V : List (List UInt8)) (x : List (List UInt8)), srchL rec done V = some x → x.length = n
  | [], x, hx => by simp [srchL] at hx
  | s :: V, x, hx => by
    rw [srchL] at hx
    split at hx
    · split at hx
      · rename_i y hy
        rw [← Option.some.inj hx]
        exact h s y hy
      · exact srchL_len rec done n h V x hx
    · exact srchL_len rec done n h V x hx
theorem srch_len : ∀ (Vs : List (List (List UInt8))) (done x : List (List UInt8)), srch Vs done = some x → x.length = done.length + Vs.length
  | [], done, x, h => by rw [srch] at h; rw [← Option.some.inj h]; simp
  | V :: rest, done, x, h => by
    rw [srch] at h
    exact srchL_len (srch rest) done _ (fun s y hy => by have := srch_len rest (done ++ [s]) y hy; simp at this ⊢; omega) V x h
theorem pa_sum (l : List ByteArray) (hl : l.length ≤ 1048576) (q : List ByteArray × Bool) : ∀ (d i : Nat) (s : Int), i + d = l.length → Ev (fun k => if wsum s ((l.drop i).map fun t => (t.size : Int)) > 14 then some (([] : List ByteArray), false) else spec_PrefixAlike.l1 k ([] : List (List Int)) l (l.length : Int) 0) q → Ev (fun k => spec_PrefixAlike.l0 k l s l (l.length : Int) (i : Int)) q
  | 0, i, s, hd, next => by
    have ez : l.drop i = [] := List.drop_of_length_le (by omega)
    rw [ez] at next
    refine Ev.succ ?_
    simp only [spec_PrefixAlike.l0]
    exact Ev.neg (by omega) next
  | d + 1, i, s, hd, next => by
    have h1 : i < l.length := by omega
    rw [List.drop_eq_getElem_cons h1, List.map_cons, wsum] at next
    have ih := pa_sum l hl q d (i + 1) (wrap64 (s + (l[i].size : Int))) (by omega) next
    refine Ev.succ ?_
    simp only [spec_PrefixAlike.l0, rdOf_nat l i h1, w1 (show 0 ≤ (i : Int) by omega) (show (i : Int) < 9223372036854775807 by omega)]
    exact Ev.pos (by omega) (Ev.pos (by omega) (Ev.pos (by omega) ih))
theorem lengthsOf_l0 (l : List ByteArray) (hl : l.length ≤ 1048576) : ∀ (d i : Nat), i + d = l.length → Ev (fun k => impl_lengthsOf.l0 k ((l.take i).map fun t => (t.size : Int)) l (l.length : Int) (i : Int)) (l.map fun t => (t.size : Int))
  | 0, i, hd => by
    refine Ev.succ ?_
    simp only [impl_lengthsOf.l0]
    exact Ev.neg (by omega) (Ev.pure (by rw [List.take_of_length_le (by omega)]))
  | d + 1, i, hd => by
    have h1 : i < l.length := by omega
    have ih := lengthsOf_l0 l hl d (i + 1) (by omega)
    rw [List.take_succ_eq_append_getElem h1, List.map_append] at ih
    refine Ev.succ ?_
    simp only [impl_lengthsOf.l0, rdOf_nat l i h1, w1 (show 0 ≤ (i : Int) by omega) (show (i : Int) < 9223372036854775807 by omega)]
    exact Ev.pos (by omega) (Ev.pos (by omega) (Ev.pos (by omega) (Ev.pos (by rw [List.length_map, List.length_take]; omega) ih)))
theorem pa_rows (l : List ByteArray) (hset : IsSet l) (q : List ByteArray × Bool) (next : Ev (fun k => (spec_leFind.f k (rowsL l) ([] : List ByteArray)).bind fun bt193 => if bt193.2 = true then spec_PrefixAlike.l2 k ([] : List ByteArray) bt193.1 (bt193.1.length : Int) 0 else some (([] : List ByteArray), false)) q) :
    ∀ (d i : Nat), i + d = l.length → Ev (fun k => spec_PrefixAlike.l1 k (rowsL (l.take i)) l (l.length : Int) (i : Int)) q
  | 0, i, hd => by
    rw [List.take_of_length_le (by omega)]
    refine Ev.succ ?_
    simp only [spec_PrefixAlike.l1]
    exact Ev.neg (by omega) next
  | d + 1, i, hd => by
    have h1 : i < l.length := by omega
    have h12 := hset.few
    have hs := hset.letters l[i] (List.getElem_mem h1)
    have ih := pa_rows l hset q next d (i + 1) (by omega)
    rw [List.take_succ_eq_append_getElem h1] at ih
    unfold rowsL at ih ⊢
    rw [List.map_append] at ih
    refine Ev.succ ?_
    simp only [spec_PrefixAlike.l1, rdOf_nat l i h1, w1 (show 0 ≤ (i : Int) by omega) (show (i : Int) < 9223372036854775807 by omega)]
    exact Ev.pos (by omega) (Ev.pos (by omega) (Ev.pos (by omega) (Ev.bind (wdLetters_ev l[i] (by rw [← ch_length]; exact hs.2) hs.1) (Ev.pos (by rw [List.length_map, List.length_take]; omega) ih))))
theorem pa_put (x : List (List UInt8)) (hx : x.length ≤ 1000) : ∀ (d i : Nat), i + d = x.length → Ev (fun k => spec_PrefixAlike.l2 k (bas (x.take i)) (x.map bx) (x.length : Int) (i : Int)) (bas x, true)
  | 0, i, hd => by
    rw [List.take_of_length_le (by omega)]
    refine Ev.succ ?_
    simp only [spec_PrefixAlike.l2]
    exact Ev.neg (by omega) (Ev.now _)
  | d + 1, i, hd => by
    have h1 : i < x.length := by omega
    have h1' : i < (x.map bx).length := by rw [List.length_map]; exact h1
    have ih := pa_put x hx d (i + 1) (by omega)
    rw [List.take_succ_eq_append_getElem h1] at ih
    have hp := wdPut_ev (x.take i) (bx x[i]) (by rw [List.length_take]; omega)
    rw [ch_bx] at hp
    refine Ev.succ ?_
    simp only [spec_PrefixAlike.l2, rdOf_nat (x.map bx) i h1', List.getElem_map, w1 (show 0 ≤ (i : Int) by omega) (show (i : Int) < 9223372036854775807 by omega)]
    exact Ev.pos (by omega) (Ev.pos (by omega) (Ev.pos (by rw [List.length_map]; omega) (Ev.bind hp ih)))
theorem pa_same (l : List ByteArray) (hl : l.length ≤ 1048576) : ∃ r : List ByteArray × Bool, Ev (fun k => spec_PrefixAlike.f k l) r ∧ Ev (fun k => impl_PrefixAlike.f k l) r ∧ r.1.length ≤ 1048576 := by
  obtain ⟨b, h1, h2, hb⟩ := isSet_same l hl
  have bad : ∀ x, x = true → Ev (fun k => spec_PrefixAlike.j0 k l x) ([], false) := fun x hx => Ev.succ (by simp only [spec_PrefixAlike.j0]; exact Ev.pos hx (Ev.now _))
  unfold spec_PrefixAlike.f impl_PrefixAlike.f
  cases b with
  | false => exact ⟨([], false), Ev.bind h1 (Ev.neg (by simp) (bad _ rfl)), Ev.bind h2 (Ev.neg (by simp) (Ev.now _)), by simp⟩
  | true =>
    have hset := hb rfl
    have h12 := hset.few
    by_cases c6 : (l.length : Int) > 6
    · exact ⟨([], false), Ev.bind h1 (Ev.pos rfl (bad _ (decide_eq_true c6))), Ev.bind h2 (Ev.pos rfl (Ev.pos c6 (Ev.now _))), by simp⟩
    · have hlo : Ev (fun k => impl_lengthsOf.f k l) (l.map fun t => (t.size : Int)) := lengthsOf_l0 l hl l.length 0 (by omega)
      have hsw := sumWeights_ev (l.map fun t => (t.size : Int)) (by rw [List.length_map]; exact hl)
      by_cases c14 : wsum 0 (l.map fun t => (t.size : Int)) > 14
      · refine ⟨([], false), Ev.bind h1 (Ev.pos rfl (Ev.succ ?_)), Ev.bind h2 (Ev.pos rfl (Ev.neg c6 (Ev.bind hlo (Ev.bind hsw (Ev.pos c14 (Ev.now _)))))), by simp⟩
        simp only [spec_PrefixAlike.j0]
        exact Ev.neg (by simpa using c6) (pa_sum l hl _ l.length 0 0 (by omega) (by rw [List.drop_zero]; exact Ev.pos c14 (Ev.now _)))
      · have f1 := find_ev l hset l.length [] (by simp)
        have f2 := leFind_ev l hset l.length [] (by simp)
        rw [List.length_nil, List.drop_zero] at f1 f2
        have hx := srch_len (cand l) []
        have hcl : (cand l).length = l.length := by unfold cand; rw [List.length_map]
        have spec : ∀ q, Ev (fun k => (spec_leFind.f k (rowsL l) ([] : List ByteArray)).bind fun bt193 => if bt193.2 = true then spec_PrefixAlike.l2 k ([] : List ByteArray) bt193.1 (bt193.1.length : Int) 0 else some (([] : List ByteArray), false)) q → Ev (fun k => (spec_wdSet.f k l).bind fun t184 => if t184 = true then spec_PrefixAlike.j0 k l (decide ((l.length : Int) > 6)) else spec_PrefixAlike.j0 k l true) q := fun q hq => by
          refine Ev.bind h1 (Ev.pos rfl (Ev.succ ?_))
          simp only [spec_PrefixAlike.j0]
          exact Ev.neg (by simpa using c6) (pa_sum l hl _ l.length 0 0 (by omega) (by rw [List.drop_zero]; exact Ev.neg c14 (pa_rows l hset _ hq l.length 0 (by omega))))
        have impl : ∀ q, Ev (fun k => impl_PrefixAlike.g k l) q → Ev (fun k => (impl_isSet.f k l).bind fun b => if b = true then (if (l.length : Int) > 6 then some ([], false) else ((impl_lengthsOf.f k l).bind fun ls => (impl_sumWeights.f k ls).bind fun s => if s > 14 then some ([], false) else impl_PrefixAlike.g k l)) else some ([], false)) q := fun q hq => Ev.bind h2 (Ev.pos rfl (Ev.neg c6 (Ev.bind hlo (Ev.bind hsw (Ev.neg c14 hq)))))
        cases hs : srch (cand l) [] with
        | none =>
          rw [hs] at f1 f2
          refine ⟨([], false), spec _ (Ev.bind f2 (Ev.neg (by simp [resB]) (Ev.now _))), impl _ ?_, by simp⟩
          unfold impl_PrefixAlike.g
          exact Ev.bind f1 (Ev.now _)
        | some x =>
          rw [hs] at f1 f2
          have hxl := hx x hs
          rw [hcl, List.length_nil, Nat.zero_add] at hxl
          have ho := ordered_eq (x.map bx) (by rw [List.length_map]; omega)
          rw [map_ch_bx] at ho
          have hp := pa_put x (by omega) x.length 0 (by omega)
          rw [List.take_zero, bas_nil] at hp
          have hbl := bas_len x
          refine ⟨(bas x, true), spec _ (Ev.bind f2 (Ev.pos rfl ?_)), impl _ ?_, by show (bas x).length ≤ 1048576; omega⟩
          · simp only [resB, List.length_map]
            exact hp
          · unfold impl_PrefixAlike.g
            exact Ev.bind f1 (Ev.known (fun _ => ho) (Ev.now _))
theorem FnExactPrefixAlike : laws_FnExactPrefixAlike.Pure := by
  intro l hl hs
  refine Ev.rounds ?_
  unfold laws_FnExactPrefixAlike.f
  obtain ⟨z, hz, hzz⟩ := szS_ev l hl hs
  refine Ev.bind hz (Ev.cases (fun _ => Ev.now _) (fun hzn => ?_))
  obtain ⟨hl', -⟩ := hzz (by omega)
  obtain ⟨mt, hmt⟩ := marks
  obtain ⟨r, h1, h2, h3⟩ := pa_same l hl'
  refine Ev.bind (toS_ev l hl') (Ev.bind h1 (Ev.bind (toS_ev l hl') (Ev.bind h2 (Ev.bind (eqS_ev r.1 (by omega)) (Ev.pos rfl ?_)))))
  refine Ev.succ ?_
  simp only [laws_FnExactPrefixAlike.j0]
  refine Ev.neg (by simp) (Ev.bind (toS_ev l hl') (Ev.bind (eqS_ev l hl') (Ev.pos rfl (Ev.bind (markS_ev hmt l hl') (Ev.neg (by omega) (Ev.bind (eqS_ev r.1 (by omega)) (Ev.pos rfl ?_)))))))
  refine Ev.succ ?_
  simp only [laws_FnExactPrefixAlike.j1]
  refine Ev.neg (by simp) (Ev.bind (markS_ev hmt r.1 (by omega)) (Ev.bind (heldS_ev hmt r.1.length (by omega)) (Ev.neg (by omega) (Ev.pos rfl (Ev.bind (toS_ev l hl') (Ev.bind h2 (Ev.bind (eqS_ev r.1 (by omega)) (Ev.pos rfl ?_))))))))
  refine Ev.succ ?_
  simp only [laws_FnExactPrefixAlike.j2]
  exact Ev.neg (by simp) (Ev.bind (heldS_ev hmt r.1.length (by omega)) (Ev.neg (by omega) (Ev.pos rfl (Ev.now _))))
end Go.Proofs.YthlldokmjpfilaaDoor.Pure
