/- DecidedWords of the program and of the reference answer alike for all arguments, and leave them as they were: no condition. -/
import Derived.Test.YtkefjfpjnghkdaaDoorXFnExactDecidedWordsxp
namespace Go.Proofs.YtkefjfpjnghkdaaDoor.Pure
set_option linter.unusedSimpArgs false
set_option linter.unusedVariables false
open Go.RowKit Go.Proofs.YtkefjfpjnghkdaaDoor.Hand Go.Proofs.YtkefjfpjnghkdaaDoor.XFnExactDecidedWords Go.Proofs.YtkefjfpjnghkdaaDoorW.PrintWords Go.Proofs.YtkefjfpjnghkdaaDoorW.PrintLast Go.Proofs.YtkefjfpjnghkdaaDoorW.PrintMore

theorem w1 {i : Int} (h0 : 0 ≤ i) (h : i < 9223372036854775807) : wrap64 (i + 1) = i + 1 := by unfold wrap64; omega
theorem w64 {i : Int} (h0 : -9223372036854775808 ≤ i) (h : i < 9223372036854775808) : wrap64 i = i := by unfold wrap64; omega
theorem rd_nat (l : List Int) (i : Nat) (h : i < l.length) : rd l (i : Int) = l[i] := by
  unfold rd; simp [List.getD_eq_getElem?_getD, h]
theorem Ev.pos {α : Type} {c : Prop} [Decidable c] {g g' : Nat → Option α} {r : α} (h : c) (k : Ev g r) : Ev (fun n => if c then g n else g' n) r :=
  Ev.congr (fun n => if_pos h) k
theorem Ev.neg {α : Type} {c : Prop} [Decidable c] {g g' : Nat → Option α} {r : α} (h : ¬ c) (k : Ev g' r) : Ev (fun n => if c then g n else g' n) r :=
  Ev.congr (fun n => if_neg h) k
theorem Ev.cases {α : Type} {c : Prop} [Decidable c] {g g' : Nat → Option α} {r : α} (h : c → Ev g r) (k : ¬ c → Ev g' r) : Ev (fun n => if c then g n else g' n) r := by
  by_cases e : c
  · exact Ev.pos e (h e)
  · exact Ev.neg e (k e)
/-- a call whose answer is known at every number of rounds -/
theorem Ev.known {α β : Type} {g : Nat → Option α} {f : Nat → α → Option β} {a : α} {r : β} (h : ∀ n, g n = some a) (k : Ev (fun n => f n a) r) : Ev (fun n => (g n).bind (f n)) r :=
  Ev.bind ⟨0, fun n _ => h n⟩ k
/-- one bind of two, joined with what follows -/
theorem Ev.pure {α : Type} {r q : α} (h : r = q) : Ev (fun _ => some r) q := h ▸ Ev.now r
theorem Ev.succ {α : Type} {g : Nat → Option α} {r : α} (h : Ev (fun k => g (k + 1)) r) : Ev g r := Ev.step (f := fun k => g (k + 1)) (fun _ => rfl) h

theorem rdOf_nat (l : List ByteArray) (i : Nat) (h : i < l.length) : rdOf ByteArray.empty l (i : Int) = l[i] := by
  unfold rdOf; simp [List.getD_eq_getElem?_getD, h]

theorem maxLen_le : maxLen ≤ 9223372036854775807 := by unfold maxLen; omega
theorem szS_l0 (l : List ByteArray) (hl : l.length ≤ 9223372036854775807) (hs : ∀ s ∈ l, s.size ≤ 9223372036854775807) : ∀ (d i : Nat) (b : Int), i + d = l.length → 0 ≤ b → b ≤ 1048576 → ∃ r, Ev (fun k => laws_szStringS.l0 k l b (i : Int)) r ∧ (0 ≤ r → r ≤ 1048576 ∧ ∀ s ∈ l.drop i, s.size ≤ 1048576)
  | 0, i, b, hd, h0, hb => by
    refine ⟨b, Ev.succ ?_, fun _ => ⟨hb, fun s h => ?_⟩⟩
    · simp only [laws_szStringS.l0]; exact Ev.neg (by omega) (Ev.now _)
    · rw [List.drop_of_length_le (by omega)] at h; cases h
  | d + 1, i, b, hd, h0, hb => by
    have h1 : i < l.length := by omega
    have h2 := hs _ (List.getElem_mem h1)
    have e : Aside0 (wrap64 (b - (l[i].size : Int)) = b - (l[i].size : Int)) := ⟨w64 (by omega) (by omega)⟩
    by_cases hc : b - (l[i].size : Int) < 0
    · refine ⟨-1, Ev.succ ?_, fun h => by omega⟩
      simp only [laws_szStringS.l0, rdOf_nat l i h1, e.out]
      exact Ev.pos (by omega) (Ev.pos (by omega) (Ev.pos hc (Ev.now _)))
    · obtain ⟨r, hr, hh⟩ := szS_l0 l hl hs d (i + 1) (b - (l[i].size : Int)) (by omega) (by omega) (by omega)
      refine ⟨r, Ev.succ ?_, fun h => ⟨(hh h).1, fun s hm => ?_⟩⟩
      · simp only [laws_szStringS.l0, rdOf_nat l i h1, e.out, w1 (show 0 ≤ (i : Int) by omega) (show (i : Int) < 9223372036854775807 by omega)]
        exact Ev.pos (by omega) (Ev.pos (by omega) (Ev.neg hc hr))
      · rw [List.drop_eq_getElem_cons h1] at hm
        rcases List.mem_cons.1 hm with rfl | hm
        · omega
        · exact (hh h).2 s hm
theorem szS_ev (l : List ByteArray) (hl : l.length ≤ maxLen) (hs : ∀ s ∈ l, s.size ≤ maxLen) : ∃ r, Ev (fun k => laws_szStringS.f k l 1048576) r ∧ (0 ≤ r → l.length ≤ 1048576 ∧ r ≤ 1048576 ∧ ∀ s ∈ l, s.size ≤ 1048576) := by
  have hm := maxLen_le
  have e : Aside0 (wrap64 (1048576 - (l.length : Int)) = 1048576 - (l.length : Int)) := ⟨w64 (by omega) (by omega)⟩
  unfold laws_szStringS.f
  rw [e.out]
  by_cases hc : 1048576 - (l.length : Int) < 0
  · exact ⟨-1, Ev.pos hc (Ev.now _), fun h => by omega⟩
  · obtain ⟨r, hr, hh⟩ := szS_l0 l (by omega) (fun s h => Nat.le_trans (hs s h) hm) l.length 0 (1048576 - (l.length : Int)) (by omega) (by omega) (by omega)
    exact ⟨r, Ev.neg hc hr, fun h => ⟨by omega, (hh h).1, by simpa using (hh h).2⟩⟩
theorem toS_l0 (l : List ByteArray) (hl : l.length ≤ 1048576) : ∀ (d i : Nat) (xs : List ByteArray), i + d = l.length → xs.length = l.length → xs.take i = l.take i → Ev (fun k => laws_toStringS.l0 k l xs (i : Int)) l
  | 0, i, xs, hd, hx, ht => by
    refine Ev.step (f := fun _ => some xs) (fun k => ?_) (Ev.pure ?_)
    · simp only [laws_toStringS.l0]; rw [if_neg (by omega)]
    · rw [List.take_of_length_le (by omega), List.take_of_length_le (by omega)] at ht; exact ht
  | d + 1, i, xs, hd, hx, ht => by
    refine Ev.step (f := fun k => laws_toStringS.l0 k l (xs.set i (rdOf ByteArray.empty l i)) ((i + 1 : Nat) : Int)) (fun k => ?_) (toS_l0 l hl d (i + 1) _ (by omega) (by simp [hx]) ?_)
    · simp only [laws_toStringS.l0]; rw [if_pos (by omega), if_pos (by omega), if_pos (by omega), w1 (by omega) (by omega)]; simp
    · have h1 : i < l.length := by omega
      have h2 : i < (xs.set i (rdOf ByteArray.empty l i)).length := by simp; omega
      have e := rdOf_nat l i h1
      rw [List.take_succ_eq_append_getElem h2, List.take_succ_eq_append_getElem h1, List.take_set, List.set_eq_of_length_le (by simp; omega), ht]
      simp [e]
theorem toS_ev (l : List ByteArray) (hl : l.length ≤ 1048576) : Ev (fun k => laws_toStringS.f k l) l := by
  unfold laws_toStringS.f
  refine Ev.pos (by omega) (Ev.pos (by omega) ?_)
  have h := toS_l0 l hl l.length 0 (List.replicate l.length ⟨#[]⟩) (by omega) (by simp) (by simp)
  simpa using h
theorem eqS_l0 (l : List ByteArray) (hl : l.length ≤ 1048576) : ∀ (d i : Nat), i + d = l.length → Ev (fun k => laws_eqStringS.l0 k l l (i : Int)) true
  | 0, i, hd => Ev.step (f := fun _ => some true) (fun k => by simp only [laws_eqStringS.l0]; rw [if_neg (by omega)]) (Ev.now _)
  | d + 1, i, hd => by
    refine Ev.step (f := fun k => laws_eqStringS.l0 k l l ((i + 1 : Nat) : Int)) (fun k => ?_) (eqS_l0 l hl d (i + 1) (by omega))
    simp only [laws_eqStringS.l0]; rw [if_pos (by omega), if_pos (by omega), if_pos (by omega), if_pos trivial, w1 (by omega) (by omega)]; simp
theorem eqS_ev (l : List ByteArray) (hl : l.length ≤ 1048576) : Ev (fun k => laws_eqStringS.f k l l) true := by
  unfold laws_eqStringS.f
  exact Ev.pos rfl (by simpa using eqS_l0 l hl l.length 0 (by omega))


theorem strOfNums_one (x : Int) : (strOfNums [x]).size = 1 := by simp [strOfNums, ByteArray.size]
theorem markText_l0 : ∀ (d n : Nat) (s : ByteArray), n < 10 ^ d → n < 4611686018427387904 → s.size + d ≤ 1000 → ∃ t, Ev (fun k => laws_markText.l0 k (n : Int) s) t
  | 0, n, s, hn, _, hs => by
    refine ⟨(⟨#[109]⟩ : ByteArray) ++ s, Ev.succ ?_⟩
    simp only [laws_markText.l0]
    exact Ev.neg (by omega) (Ev.pos (by omega) (Ev.now _))
  | d + 1, n, s, hn, hb, hs => by
    by_cases h0 : n = 0
    · refine ⟨(⟨#[109]⟩ : ByteArray) ++ s, Ev.succ ?_⟩
      simp only [laws_markText.l0]
      exact Ev.neg (by omega) (Ev.pos (by omega) (Ev.now _))
    · have e0 : (strOfNums [(wrap64 (48 + (Int.tmod (n : Int) 10))) % 256]).size = 1 := strOfNums_one _
      have hq : n / 10 < 10 ^ d := by rw [Nat.pow_succ] at hn; omega
      obtain ⟨t, ht⟩ := markText_l0 d (n / 10) (strOfNums [(wrap64 (48 + (Int.tmod (n : Int) 10))) % 256] ++ s) hq (by omega) (by rw [ByteArray.size_append, e0]; omega)
      have e2 : Aside0 (wrap64 (Int.tdiv (n : Int) 10) = ((n / 10 : Nat) : Int)) := ⟨by
        rw [show (10 : Int) = ((10 : Nat) : Int) from rfl, ← Int.ofNat_tdiv]; exact w64 (by omega) (by omega)⟩
      refine ⟨t, Ev.succ ?_⟩
      simp only [laws_markText.l0, e2.out]
      exact Ev.pos (by omega) (Ev.known (fun _ => rfl) (Ev.pos (by rw [e0]; omega) ht))
theorem marks : ∃ mt : Nat → ByteArray, ∀ n : Nat, n ≤ 1048577 → Ev (fun k => laws_markText.f k (n : Int)) (mt n) := by
  have h : ∀ n : Nat, ∃ t, n ≤ 1048577 → Ev (fun k => laws_markText.f k (n : Int)) t := by
    intro n
    by_cases hn : n ≤ 1048577
    · by_cases h0 : n = 0
      · exact ⟨_, fun _ => Ev.pos (by omega) (Ev.now _)⟩
      · obtain ⟨t, ht⟩ := markText_l0 7 n ⟨#[]⟩ (by omega) (by omega) (by decide)
        exact ⟨t, fun _ => Ev.neg (by omega) ht⟩
    · exact ⟨ByteArray.empty, fun h => absurd h hn⟩
  exact ⟨fun n => (h n).choose, fun n hn => (h n).choose_spec hn⟩
/-- n texts, all different -/
def marked (mt : Nat → ByteArray) (n : Nat) : List ByteArray := (List.range n).map fun j => mt (j + 1)
theorem marked_length (mt : Nat → ByteArray) (n : Nat) : (marked mt n).length = n := by simp [marked]
theorem markS_l0 (mt : Nat → ByteArray) (hmt : ∀ n : Nat, n ≤ 1048577 → Ev (fun k => laws_markText.f k (n : Int)) (mt n)) (n : Nat) (hn : n ≤ 1048576) : ∀ (d i : Nat) (xs : List ByteArray), i + d = n → xs.length = n → xs.take i = (marked mt n).take i → Ev (fun k => laws_markStringS.l0 k xs ((i + 1 : Nat) : Int) (i : Int)) (((n + 1 : Nat) : Int), marked mt n)
  | 0, i, xs, hd, hx, ht => by
    refine Ev.succ ?_
    simp only [laws_markStringS.l0]
    refine Ev.neg (by omega) (Ev.pure ?_)
    have := marked_length mt n
    rw [List.take_of_length_le (by omega), List.take_of_length_le (by omega)] at ht
    rw [ht, show i = n by omega]
  | d + 1, i, xs, hd, hx, ht => by
    have hlen := marked_length mt n
    have h1 : i < (marked mt n).length := by omega
    have ih := markS_l0 mt hmt n hn d (i + 1) (xs.set i (mt (i + 1))) (by omega) (by simp [hx]) (by
      have h2 : i < (xs.set i (mt (i + 1))).length := by simp; omega
      rw [List.take_succ_eq_append_getElem h2, List.take_succ_eq_append_getElem h1, List.take_set, List.set_eq_of_length_le (by simp; omega), ht]
      simp [marked])
    refine Ev.succ ?_
    simp only [laws_markStringS.l0, w1 (show 0 ≤ (i : Int) by omega) (show (i : Int) < 9223372036854775807 by omega), w1 (show 0 ≤ ((i + 1 : Nat) : Int) by omega) (show ((i + 1 : Nat) : Int) < 9223372036854775807 by omega)]
    exact Ev.pos (by omega) (Ev.bind (hmt (i + 1) (by omega)) (Ev.pos (by omega) ih))
theorem markS_ev {mt : Nat → ByteArray} (hmt : ∀ n : Nat, n ≤ 1048577 → Ev (fun k => laws_markText.f k (n : Int)) (mt n)) (xs : List ByteArray) (hn : xs.length ≤ 1048576) : Ev (fun k => laws_markStringS.f k xs 1) (((xs.length + 1 : Nat) : Int), marked mt xs.length) :=
  markS_l0 mt hmt xs.length hn xs.length 0 xs (by omega) rfl rfl

theorem eqIntS_l0 (l : List Int) (hl : l.length ≤ 1048576) : ∀ (d i : Nat), i + d = l.length → Ev (fun k => laws_eqIntS.l0 k l l (i : Int)) true
  | 0, i, hd => Ev.step (f := fun _ => some true) (fun k => by simp only [laws_eqIntS.l0]; rw [if_neg (by omega)]) (Ev.now _)
  | d + 1, i, hd => by
    refine Ev.step (f := fun k => laws_eqIntS.l0 k l l ((i + 1 : Nat) : Int)) (fun k => ?_) (eqIntS_l0 l hl d (i + 1) (by omega))
    simp only [laws_eqIntS.l0]; rw [if_pos (by omega), if_pos (by omega), if_pos (by omega), if_pos trivial, w1 (by omega) (by omega)]; simp
theorem eqIntS_ev (l : List Int) (hl : l.length ≤ 1048576) : Ev (fun k => laws_eqIntS.f k l l) true := by
  unfold laws_eqIntS.f
  exact Ev.pos rfl (by simpa using eqIntS_l0 l hl l.length 0 (by omega))

/-- n numbers, all different -/
def imarked (n : Nat) : List Int := (List.range n).map fun j => ((j + 1 : Nat) : Int)
theorem imarked_length (n : Nat) : (imarked n).length = n := by simp [imarked]
theorem markI_l0 (n : Nat) (hn : n ≤ 1048576) : ∀ (d i : Nat) (xs : List Int), i + d = n → xs.length = n → xs.take i = (imarked n).take i → Ev (fun k => laws_markIntS.l0 k xs ((i + 1 : Nat) : Int) (i : Int)) (((n + 1 : Nat) : Int), imarked n)
  | 0, i, xs, hd, hx, ht => by
    refine Ev.succ ?_
    simp only [laws_markIntS.l0]
    refine Ev.neg (by omega) (Ev.pure ?_)
    have := imarked_length n
    rw [List.take_of_length_le (by omega), List.take_of_length_le (by omega)] at ht
    rw [ht, show i = n by omega]
  | d + 1, i, xs, hd, hx, ht => by
    have hlen := imarked_length n
    have h1 : i < (imarked n).length := by omega
    have ih := markI_l0 n hn d (i + 1) (xs.set i ((i + 1 : Nat) : Int)) (by omega) (by simp [hx]) (by
      have h2 : i < (xs.set i ((i + 1 : Nat) : Int)).length := by simp; omega
      rw [List.take_succ_eq_append_getElem h2, List.take_succ_eq_append_getElem h1, List.take_set, List.set_eq_of_length_le (by simp; omega), ht]
      simp [imarked])
    refine Ev.succ ?_
    simp only [laws_markIntS.l0, Int.toNat_natCast, w1 (show 0 ≤ (i : Int) by omega) (show (i : Int) < 9223372036854775807 by omega), w1 (show 0 ≤ ((i + 1 : Nat) : Int) by omega) (show ((i + 1 : Nat) : Int) < 9223372036854775807 by omega)]
    exact Ev.pos (by omega) (Ev.pos (by omega) ih)
theorem markI2_ev (xs : List Int) (hn : xs.length ≤ 1048576) : Ev (fun k => laws_markIntS.f k xs 1) (((xs.length + 1 : Nat) : Int), imarked xs.length) :=
  markI_l0 xs.length hn xs.length 0 xs (by omega) rfl rfl
theorem heldI_l0 (n : Nat) (hn : n ≤ 1048576) : ∀ (d i : Nat), i + d = n → Ev (fun k => laws_heldIntS.l0 k (imarked n) ((i + 1 : Nat) : Int) (i : Int)) ((n + 1 : Nat) : Int)
  | 0, i, hd => by
    have hlen := imarked_length n
    refine Ev.succ ?_
    simp only [laws_heldIntS.l0]
    exact Ev.neg (by omega) (Ev.pure (by rw [show i = n by omega]))
  | d + 1, i, hd => by
    have hlen := imarked_length n
    have h1 : i < (imarked n).length := by omega
    have ih := heldI_l0 n hn d (i + 1) (by omega)
    refine Ev.succ ?_
    simp only [laws_heldIntS.l0, rd_nat _ i h1, w1 (show 0 ≤ (i : Int) by omega) (show (i : Int) < 9223372036854775807 by omega), w1 (show 0 ≤ ((i + 1 : Nat) : Int) by omega) (show ((i + 1 : Nat) : Int) < 9223372036854775807 by omega)]
    exact Ev.pos (by omega) (Ev.pos (by omega) (Ev.pos (by simp [imarked]) ih))
theorem heldI_ev (n : Nat) (hn : n ≤ 1048576) : Ev (fun k => laws_heldIntS.f k (imarked n) 1) ((n + 1 : Nat) : Int) :=
  heldI_l0 n hn n 0 (by omega)

theorem spec_in (a b c : Int) : spec_l1In.f a b c = some (decide (b ≤ a ∧ a ≤ c)) := by
  unfold spec_l1In.f
  by_cases h : a ≥ b
  · rw [if_pos h]; simp [h]
  · rw [if_neg h]; simp; omega

theorem impl_in_eq (a b c : Int) : impl_in.f a b c = some (decide (b ≤ a ∧ a ≤ c)) := by
  unfold impl_in.f
  by_cases h : b ≤ a
  · rw [if_pos h]; simp [h]
  · rw [if_neg h]; simp [h]

theorem bt_nat (s : ByteArray) (i : Nat) (h : i < s.data.toList.length) : bt s (i : Int) = ((s.data.toList[i]).toNat : Int) := by
  have h' : i < s.size := by have e : s.size = s.data.toList.length := Array.length_toList.symm; omega
  unfold bt
  rw [dif_pos (show (i : Int).toNat < s.size by simpa using h')]
  simp [ByteArray.getElem_eq_getElem_data]
theorem size_data (s : ByteArray) : s.size = s.data.toList.length := Array.length_toList.symm
theorem letter_test (c : UInt8) : ((c.toNat : Int) < 97 ∨ ((c.toNat : Int) - 97) % 256 ≥ 3) ↔ isLetter c = false := by
  have := c.toNat_lt
  unfold isLetter
  rw [decide_eq_false_iff_not]
  omega
theorem wdIs_l0 (s : ByteArray) (hs : s.size < 4611686018427387904) : ∀ (d i : Nat), i + d = s.data.toList.length → Ev (fun k => spec_wdIs.l0 k s (i : Int)) ((s.data.toList.drop i).all isLetter)
  | 0, i, hd => by
    refine Ev.succ ?_
    simp only [spec_wdIs.l0]
    exact Ev.neg (by rw [size_data]; omega) (Ev.pure (by rw [List.drop_of_length_le (by omega)]; rfl))
  | d + 1, i, hd => by
    have h1 : i < s.data.toList.length := by omega
    have ih := wdIs_l0 s hs d (i + 1) (by omega)
    have ht := letter_test s.data.toList[i]
    have hsz := size_data s
    rw [List.drop_eq_getElem_cons h1, List.all_cons]
    refine Ev.succ ?_
    simp only [spec_wdIs.l0, bt_nat s i h1, w1 (show 0 ≤ (i : Int) by omega) (show (i : Int) < 9223372036854775807 by omega)]
    refine Ev.pos (by omega) (Ev.pos (by omega) (Ev.cases (fun h => ?_) (fun h => Ev.cases (fun h' => ?_) (fun h' => ?_))))
    · rw [ht.1 (Or.inl h)]; exact Ev.now _
    · rw [ht.1 (Or.inr h')]; exact Ev.now _
    · have : isLetter s.data.toList[i] = true := by
        cases hl : isLetter s.data.toList[i]
        · exact absurd (ht.2 hl) (by omega)
        · rfl
      rw [this, Bool.true_and]; exact ih
theorem wdIs_ev (s : ByteArray) (hs : s.size < 4611686018427387904) : Ev (fun k => spec_wdIs.f k s) (s.data.toList.all isLetter) := by
  have h := wdIs_l0 s hs s.data.toList.length 0 (by omega)
  simpa [spec_wdIs.f] using h

theorem wdGood_ev (s : ByteArray) : Ev (fun k => spec_wdGood.f k s) (decide (s.size ≤ 60) && s.data.toList.all isLetter) := by
  unfold spec_wdGood.f
  refine Ev.cases (fun h => ?_) (fun h => ?_)
  · rw [decide_eq_true (show s.size ≤ 60 by omega), Bool.true_and]
    exact Ev.bind (wdIs_ev s (by omega)) (Ev.now _)
  · rw [decide_eq_false (show ¬ s.size ≤ 60 by omega), Bool.false_and]
    exact Ev.now _

/-- a word of a set -/
def short (s : ByteArray) : Bool := decide (1 ≤ s.size ∧ s.size ≤ 8) && s.data.toList.all isLetter
theorem wdShort_ev (s : ByteArray) : Ev (fun k => spec_wdShort.f k s) (short s) := by
  unfold spec_wdShort.f short
  refine Ev.known (fun _ => spec_in _ _ _) (Ev.cases (fun h => ?_) (fun h => ?_))
  · have h' := of_decide_eq_true h
    rw [decide_eq_true (show 1 ≤ s.size ∧ s.size ≤ 8 by omega), Bool.true_and]
    exact Ev.bind (wdIs_ev s (by omega)) (Ev.now _)
  · rw [decide_eq_false (show ¬ (1 ≤ s.size ∧ s.size ≤ 8) by intro hh; exact h (decide_eq_true (by omega))), Bool.false_and]
    exact Ev.now _
theorem isShort_eq (s : ByteArray) : impl_isShort.f s = some (short s) := by
  unfold impl_isShort.f impl_isWord.f short
  by_cases h : 1 ≤ s.size ∧ s.size ≤ 8
  · rw [decide_eq_true h, decide_eq_true (show s.size ≤ 60 by omega)]
    cases s.data.toList.all isLetter
    · rfl
    · simp [impl_in_eq]; omega
  · rw [decide_eq_false h]
    cases (decide (s.size ≤ 60) && s.data.toList.all isLetter)
    · rfl
    · simp [impl_in_eq]; omega
theorem bytesLess_cmp : ∀ (x y : List UInt8), Op.bytesLess x y = decide (Lib.compareBytes x y < 0)
  | [], [] => by simp [Op.bytesLess, Lib.compareBytes]
  | _ :: _, [] => by simp [Op.bytesLess, Lib.compareBytes]
  | [], _ :: _ => by simp [Op.bytesLess, Lib.compareBytes]
  | a :: x, b :: y => by
    rw [Op.bytesLess, bytesLess_cmp x y, Lib.compareBytes]
    by_cases h1 : a < b
    · simp [h1]
    · by_cases h2 : b < a
      · have : (a == b) = false := by
          rw [beq_eq_false_iff_ne]; rintro rfl; exact h1 h2
        simp [h1, h2, this]
      · have : a = b := by
          have h1' : ¬ a.toNat < b.toNat := h1
          have h2' : ¬ b.toNat < a.toNat := h2
          exact UInt8.toNat_inj.1 (by omega)
        subst this; simp [h1]
theorem bytesLess_irrefl : ∀ (x : List UInt8), Op.bytesLess x x = false
  | [] => rfl
  | a :: x => by rw [Op.bytesLess, bytesLess_irrefl x]; simp
theorem bytesLess_trans : ∀ (x y z : List UInt8), Op.bytesLess x y = true → Op.bytesLess y z = true → Op.bytesLess x z = true
  | _, [], _ => by simp [Op.bytesLess]
  | _, _ :: _, [] => by simp [Op.bytesLess]
  | [], _ :: _, _ :: _ => by simp [Op.bytesLess]
  | a :: x, b :: y, c :: z => by
    have ih := bytesLess_trans x y z
    simp only [Op.bytesLess, Bool.or_eq_true, decide_eq_true_eq, Bool.and_eq_true, beq_iff_eq]
    intro h1 h2
    rcases h1 with h1 | ⟨rfl, h1⟩
    · rcases h2 with h2 | ⟨rfl, h2⟩
      · exact Or.inl (UInt8.lt_trans h1 h2)
      · exact Or.inl h1
    · rcases h2 with h2 | ⟨rfl, h2⟩
      · exact Or.inl h2
      · exact Or.inr ⟨rfl, ih h1 h2⟩
/-- the order of words: by length, then by letters -/
def wless (a b : ByteArray) : Bool := decide (a.size < b.size) || (decide (a.size = b.size) && Op.bytesLess a.data.toList b.data.toList)
theorem wless_irrefl (a : ByteArray) : wless a a = false := by unfold wless; rw [bytesLess_irrefl]; simp
theorem wless_trans (a b c : ByteArray) (h1 : wless a b = true) (h2 : wless b c = true) : wless a c = true := by
  unfold wless at *
  simp only [Bool.or_eq_true, decide_eq_true_eq, Bool.and_eq_true] at *
  rcases h1 with h1 | ⟨h1, g1⟩ <;> rcases h2 with h2 | ⟨h2, g2⟩
  · left; omega
  · left; omega
  · left; omega
  · exact Or.inr ⟨by omega, bytesLess_trans _ _ _ g1 g2⟩
theorem wdLess_eq (a b : ByteArray) : spec_wdLess.f a b = some (wless a b) := by
  unfold spec_wdLess.f wless
  by_cases h : a.size < b.size
  · rw [if_pos (by omega)]; simp [h]
  · rw [if_neg (by omega)]
    by_cases h' : a.size = b.size
    · rw [if_pos (by omega)]; simp [h', ByteArray.toList_eq]
    · rw [if_neg (by omega)]; simp [h, h']
theorem or2 (a b : Int) : Ev (fun k => cmp_Or_int.f k [a, b]) (if a = 0 then b else a) := by
  refine ⟨3, fun k hk => ?_⟩
  obtain ⟨k, rfl⟩ : ∃ m, k = m + 3 := ⟨k - 3, by omega⟩
  by_cases ha : a = 0 <;> by_cases hb : b = 0 <;> simp [cmp_Or_int.f, cmp_Or_int.l0, rd, wrap64, ha, hb]
theorem compareWords_ev (a b : ByteArray) : ∃ c, Ev (fun k => impl_compareWords.f k a b) c ∧ wless a b = decide (c < 0) := by
  have hn : ∀ x : Int, cmp_isNaN_int.f x = some false := fun x => by simp [cmp_isNaN_int.f]
  have hc : cmp_Compare_int.f (a.size : Int) (b.size : Int) = some (if a.size < b.size then -1 else if b.size < a.size then 1 else 0) := by
    unfold cmp_Compare_int.f
    simp only [hn, Option.bind_some]
    rw [if_neg (by simp), if_neg (by simp)]
    by_cases h1 : a.size < b.size
    · rw [if_pos (by omega), if_pos h1]
    · rw [if_neg (by omega), if_neg h1]
      by_cases h2 : b.size < a.size
      · rw [if_pos (by omega), if_pos h2]
      · rw [if_neg (by omega), if_neg h2]
  refine ⟨_, Ev.known (fun _ => hc) (Ev.known (fun _ => rfl) (Ev.bind (or2 _ _) (Ev.now _))), ?_⟩
  unfold wless
  rw [bytesLess_cmp]
  by_cases h1 : a.size < b.size
  · simp [h1]
  · by_cases h2 : b.size < a.size
    · rw [if_neg h1, if_pos h2]; simp [h1, show ¬ a.size = b.size by omega]
    · rw [if_neg h1, if_neg h2]; simp [h1, show a.size = b.size by omega]
/-- a set: words of the right size, one by one in order -/
def SetUpto (l : List ByteArray) (i : Nat) : Prop := ∀ (j : Nat) (h : j < l.length), i ≤ j → short l[j] = true ∧ (0 < j → wless l[j - 1] l[j] = true)
theorem set_l0 (l : List ByteArray) (hl : l.length ≤ 1048576) : ∀ (d i : Nat), i + d = l.length → ∃ b, Ev (fun k => spec_wdSet.l0 k l l (l.length : Int) (i : Int)) b ∧ Ev (fun k => impl_isSet.l0 k l l (l.length : Int) (i : Int)) (b && decide (l.length ≤ 12)) ∧ (b = true → SetUpto l i)
  | 0, i, hd => by
    refine ⟨true, Ev.succ ?_, Ev.succ ?_, fun _ j h hj => by omega⟩
    · simp only [spec_wdSet.l0]; exact Ev.neg (by omega) (Ev.now _)
    · simp only [impl_isSet.l0]; refine Ev.neg (by omega) (Ev.pure ?_); rw [Bool.true_and]; exact decide_eq_decide.2 (by omega)
  | d + 1, i, hd => by
    have h1 : i < l.length := by omega
    obtain ⟨b, e1, e2, hb⟩ := set_l0 l hl d (i + 1) (by omega)
    have s1 := wdShort_ev l[i]
    have s2 := isShort_eq l[i]
    cases hs : short l[i]
    · rw [hs] at s1 s2
      refine ⟨false, Ev.succ ?_, Ev.succ ?_, fun h => by cases h⟩
      · simp only [spec_wdSet.l0, rdOf_nat l i h1]
        exact Ev.pos (by omega) (Ev.pos (by omega) (Ev.pos (by omega) (Ev.bind s1 (Ev.neg (by simp) (Ev.now _)))))
      · simp only [impl_isSet.l0, rdOf_nat l i h1]
        exact Ev.pos (by omega) (Ev.pos (by omega) (Ev.pos (by omega) (Ev.known (fun _ => s2) (Ev.neg (by simp) (Ev.now _)))))
    · rw [hs] at s1 s2
      by_cases h0 : i = 0
      · refine ⟨b, Ev.succ ?_, Ev.succ ?_, fun h j hj hij => ?_⟩
        · simp only [spec_wdSet.l0, rdOf_nat l i h1, w1 (show 0 ≤ (i : Int) by omega) (show (i : Int) < 9223372036854775807 by omega)]
          exact Ev.pos (by omega) (Ev.pos (by omega) (Ev.pos (by omega) (Ev.bind s1 (Ev.pos rfl (Ev.neg (by omega) e1)))))
        · simp only [impl_isSet.l0, rdOf_nat l i h1, w1 (show 0 ≤ (i : Int) by omega) (show (i : Int) < 9223372036854775807 by omega)]
          exact Ev.pos (by omega) (Ev.pos (by omega) (Ev.pos (by omega) (Ev.known (fun _ => s2) (Ev.pos rfl (Ev.neg (by omega) e2)))))
        · by_cases he : i = j
          · subst he; exact ⟨hs, fun h => by omega⟩
          · exact hb h j hj (by omega)
      · obtain ⟨c, hc, hw⟩ := compareWords_ev l[i - 1] l[i]
        have e3 : Aside0 (wrap64 ((i : Int) - 1) = ((i - 1 : Nat) : Int)) := ⟨by rw [w64 (by omega) (by omega)]; omega⟩
        have l1 := wdLess_eq l[i - 1] l[i]
        refine ⟨wless l[i - 1] l[i] && b, Ev.succ ?_, Ev.succ ?_, fun h j hj hij => ?_⟩
        · simp only [spec_wdSet.l0, rdOf_nat l i h1, e3.out, rdOf_nat l (i - 1) (by omega), w1 (show 0 ≤ (i : Int) by omega) (show (i : Int) < 9223372036854775807 by omega)]
          refine Ev.pos (by omega) (Ev.pos (by omega) (Ev.pos (by omega) (Ev.bind s1 (Ev.pos rfl (Ev.pos (by omega) (Ev.pos (by omega) (Ev.pos (by omega) (Ev.known (fun _ => l1) (Ev.cases (fun h => ?_) (fun h => ?_))))))))))
          · rw [h, Bool.true_and]; exact e1
          · rw [Bool.eq_false_iff.mpr h, Bool.false_and]; exact Ev.now _
        · simp only [impl_isSet.l0, rdOf_nat l i h1, e3.out, rdOf_nat l (i - 1) (by omega), w1 (show 0 ≤ (i : Int) by omega) (show (i : Int) < 9223372036854775807 by omega)]
          refine Ev.pos (by omega) (Ev.pos (by omega) (Ev.pos (by omega) (Ev.known (fun _ => s2) (Ev.pos rfl (Ev.pos (by omega) (Ev.pos (by omega) (Ev.pos (by omega) (Ev.bind hc (Ev.cases (fun h => ?_) (fun h => ?_))))))))))
          · rw [hw, decide_eq_false (by omega)]; exact Ev.now _
          · rw [hw, decide_eq_true (by omega)]; exact e2
        · simp only [Bool.and_eq_true] at h
          by_cases he : i = j
          · subst he; exact ⟨hs, fun _ => h.1⟩
          · exact hb h.2 j hj (by omega)
/-- what a set is -/
structure IsSet (l : List ByteArray) : Prop where
  few : l.length ≤ 12
  each : SetUpto l 0
theorem isSet_same (l : List ByteArray) (hl : l.length ≤ 1048576) : ∃ b, Ev (fun k => spec_wdSet.f k l) b ∧ Ev (fun k => impl_isSet.f k l) b ∧ (b = true → IsSet l) := by
  obtain ⟨b, h1, h2, hb⟩ := set_l0 l hl l.length 0 (by omega)
  unfold spec_wdSet.f impl_isSet.f
  by_cases h12 : l.length ≤ 12
  · rw [decide_eq_true h12, Bool.and_true] at h2
    exact ⟨b, Ev.neg (by omega) h1, h2, fun h => ⟨h12, hb h⟩⟩
  · rw [decide_eq_false h12, Bool.and_false] at h2
    exact ⟨false, Ev.pos (by omega) (Ev.now _), h2, fun h => by cases h⟩
theorem IsSet.lt {l : List ByteArray} (h : IsSet l) : ∀ (j i : Nat) (hj : j < l.length) (hi : i < j), wless l[i] l[j] = true
  | 0, i, hj, hi => by omega
  | j + 1, i, hj, hi => by
    have h1 := (h.each (j + 1) hj (by omega)).2 (by omega)
    by_cases e : i = j
    · subst e; exact h1
    · exact wless_trans _ _ _ (h.lt j i (by omega) (by omega)) h1
theorem IsSet.short {l : List ByteArray} (h : IsSet l) (w : ByteArray) (hw : w ∈ l) : Pure.short w = true := by
  obtain ⟨i, hi, rfl⟩ := List.getElem_of_mem hw
  exact (h.each i hi (by omega)).1
theorem IsSet.size {l : List ByteArray} (h : IsSet l) (w : ByteArray) (hw : w ∈ l) : 1 ≤ w.size ∧ w.size ≤ 8 := by
  have := h.short w hw
  unfold Pure.short at this
  simp only [Bool.and_eq_true, decide_eq_true_eq] at this
  exact this.1

/-- a text's letters -/
abbrev ch (s : ByteArray) : List UInt8 := s.data.toList
theorem ch_length (s : ByteArray) : (ch s).length = s.size := Array.length_toList
theorem ch_extract (s : ByteArray) (a b : Nat) : ch (s.extract a b) = ((ch s).drop a).take (b - a) := by
  simp [ch, ByteArray.data_extract, Array.toList_extract, List.extract_eq_take_drop]
theorem ch_drop (s : ByteArray) (a : Nat) : ch (s.extract a s.size) = (ch s).drop a := by
  rw [ch_extract, List.take_of_length_le]; simp only [List.length_drop, ch_length]; omega
theorem begins_test (a w : ByteArray) (h : w.size ≤ a.size) : ((a.extract 0 w.size).toList == w.toList) = (ch w).isPrefixOf (ch a) := by
  rw [ByteArray.toList_eq, ByteArray.toList_eq]
  change (ch (a.extract 0 w.size) == ch w) = _
  rw [ch_extract, List.drop_zero, Nat.sub_zero, ← ch_length w, Bool.eq_iff_iff, beq_iff_eq, List.isPrefixOf_iff_prefix, List.prefix_iff_eq_take]
  exact eq_comm
theorem prefix_long (a w : ByteArray) (h : ¬ w.size ≤ a.size) : (ch w).isPrefixOf (ch a) = false := by
  rw [Bool.eq_false_iff]
  intro hp
  have := (List.isPrefixOf_iff_prefix.1 hp).length_le
  rw [ch_length, ch_length] at this
  exact h this
theorem wdBegins_eq (a w : ByteArray) : spec_wdBegins.f a w = some ((ch w).isPrefixOf (ch a)) := by
  unfold spec_wdBegins.f
  by_cases h : w.size ≤ a.size
  · rw [if_pos (by omega), if_pos (by omega), begins_test a w h]
  · rw [if_neg (by omega), prefix_long a w h]

theorem hasPrefix_eq (a w : ByteArray) : strings_HasPrefix.f a w = some ((ch w).isPrefixOf (ch a)) := by
  unfold strings_HasPrefix.f stringslite_HasPrefix.f
  by_cases h : w.size ≤ a.size
  · rw [if_pos (by omega), if_pos (by omega), if_pos (by omega), begins_test a w h]; rfl
  · rw [if_neg (by omega), prefix_long a w h]; rfl

/-- whether a text is the beginning of words put behind each other, with so many steps -/
def begN (W : List (List UInt8)) : Nat → List UInt8 → Bool
  | _, [] => true
  | 0, _ :: _ => false
  | n + 1, c :: s => W.any fun t => (c :: s).isPrefixOf t || (t.isPrefixOf (c :: s) && begN W n ((c :: s).drop t.length))
theorem begN_more (W : List (List UInt8)) (hW : ∀ t ∈ W, t ≠ []) : ∀ (n m : Nat) (s : List UInt8), s.length ≤ n → s.length ≤ m → begN W n s = begN W m s
  | n, m, [], _, _ => by cases n <;> cases m <;> rfl
  | 0, _, c :: s, h, _ => by simp at h
  | _ + 1, 0, c :: s, _, h => by simp at h
  | n + 1, m + 1, c :: s, h1, h2 => by
    simp only [begN]
    have hany : ∀ V : List (List UInt8), (∀ t ∈ V, t ≠ []) → (V.any fun t => (c :: s).isPrefixOf t || (t.isPrefixOf (c :: s) && begN W n ((c :: s).drop t.length))) = (V.any fun t => (c :: s).isPrefixOf t || (t.isPrefixOf (c :: s) && begN W m ((c :: s).drop t.length))) := by
      intro V hV
      induction V with
      | nil => rfl
      | cons t V ih =>
        have ht := hV t (by simp)
        have hl : 0 < t.length := List.length_pos_iff.2 ht
        rw [List.any_cons, List.any_cons, ih (fun u hu => hV u (by simp [hu]))]
        rw [begN_more W hW n m ((c :: s).drop t.length) (by simp only [List.length_drop, List.length_cons] at *; omega) (by simp only [List.length_drop, List.length_cons] at *; omega)]
    exact hany W hW
/-- whether a text is the beginning of words put behind each other -/
def bg (W : List (List UInt8)) (s : List UInt8) : Bool := begN W s.length s
theorem bg_nil (W : List (List UInt8)) : bg W [] = true := rfl
theorem bg_ne (W : List (List UInt8)) (hW : ∀ t ∈ W, t ≠ []) (s : List UInt8) (hs : s ≠ []) : bg W s = W.any fun t => s.isPrefixOf t || (t.isPrefixOf s && bg W (s.drop t.length)) := by
  cases s with
  | nil => exact absurd rfl hs
  | cons c s =>
    unfold bg
    simp only [begN, List.length_cons]
    rw [Bool.eq_iff_iff, List.any_eq_true, List.any_eq_true]
    refine exists_congr fun t => and_congr_right fun ht => ?_
    have hl : 0 < t.length := List.length_pos_iff.2 (hW t ht)
    rw [begN_more W hW s.length ((c :: s).drop t.length).length ((c :: s).drop t.length) (by simp only [List.length_drop, List.length_cons]; omega) (Nat.le_refl _)]
theorem bg_true (W : List (List UInt8)) (hW : ∀ t ∈ W, t ≠ []) (s : List UInt8) : bg W s = true ↔ s = [] ∨ ∃ t ∈ W, s <+: t ∨ (t <+: s ∧ bg W (s.drop t.length) = true) := by
  by_cases hs : s = []
  · subst hs; simp [bg_nil]
  · rw [bg_ne W hW s hs, List.any_eq_true]
    simp only [hs, false_or, Bool.or_eq_true, Bool.and_eq_true, List.isPrefixOf_iff_prefix]
/-- the table of beginnings, place by place -/
theorem begRun_eq (l : List ByteArray) (hne : ∀ w ∈ l, 1 ≤ w.size) (s : ByteArray) : ∀ (k : Nat) (t : List Bool), k ≤ s.size → t.length = s.size + 1 → (∀ j, k ≤ j → j ≤ s.size → t.getD j false = bg (l.map ch) ((ch s).drop j)) → begRun l s k t = (List.range (s.size + 1)).map fun j => bg (l.map ch) ((ch s).drop j)
  | 0, t, _, hl, ht => by
    unfold begRun
    apply List.ext_getElem
    · simp [hl]
    · intro i h1 h2
      have := ht i (Nat.zero_le _) (by omega)
      rw [List.getD_eq_getElem?_getD, List.getElem?_eq_getElem h1] at this
      simpa using this
  | k + 1, t, hk, hl, ht => by
    have hW : ∀ t ∈ l.map ch, t ≠ [] := fun t ht => by
      obtain ⟨w, hw, rfl⟩ := List.mem_map.1 ht
      intro e; have := hne w hw; have := ch_length w; rw [e] at this; simp at this; omega
    have hcs := ch_length s
    rw [begRun]
    refine begRun_eq l hne s k _ (by omega) (by simpa using hl) (fun j h1 h2 => ?_)
    by_cases e : k = j
    · subst e
      rw [List.getD_eq_getElem?_getD, List.getElem?_set_self (by omega), Option.getD_some]
      rw [bg_ne _ hW _ (by intro e; have : ((ch s).drop k).length = 0 := by rw [e]; rfl
                           simp only [List.length_drop] at this; omega)]
      rw [List.any_map]
      rw [Bool.eq_iff_iff, List.any_eq_true, List.any_eq_true]
      refine exists_congr fun w => and_congr_right fun hw => ?_
      unfold begStep
      simp only [Function.comp, Bool.or_eq_true, Bool.and_eq_true]
      refine or_congr_right (and_congr_right fun hp => ?_)
      have hle : (ch w).length ≤ (ch s).length - k := by have := (List.isPrefixOf_iff_prefix.1 hp).length_le; rwa [List.length_drop] at this
      have hcw := ch_length w
      have hw1 := hne w hw
      rw [List.drop_drop, ch_length w, ht (k + w.size) (by omega) (by omega)]
    · rw [List.getD_eq_getElem?_getD, List.getElem?_set_ne e, ← List.getD_eq_getElem?_getD]
      exact ht j (by omega) h2
theorem beginnings_eq (l : List ByteArray) (hne : ∀ w ∈ l, 1 ≤ w.size) (s : ByteArray) (hs : s.size ≤ 1048576) : impl_beginnings.f l s = some ((List.range (s.size + 1)).map fun j => bg (l.map ch) ((ch s).drop j)) := by
  unfold impl_beginnings.f
  rw [if_pos hs, begRun_eq l hne s s.size _ (Nat.le_refl _) (by simp)]
  intro j h1 h2
  obtain rfl : j = s.size := by omega
  rw [List.drop_of_length_le (by rw [ch_length]; exact Nat.le_refl _), bg_nil]
  simp [List.getD_eq_getElem?_getD]
theorem tabB_at (W : List (List UInt8)) (s : ByteArray) (j : Nat) (h : j ≤ s.size) : rdOf false ((List.range (s.size + 1)).map fun j => bg W ((ch s).drop j)) (j : Int) = bg W ((ch s).drop j) := by
  unfold rdOf
  simp [List.getD_eq_getElem?_getD, show j < s.size + 1 by omega]

theorem toList_ch (s : ByteArray) : s.toList = ch s := ByteArray.toList_eq s
theorem chNe (l : List ByteArray) (hne : ∀ w ∈ l, 1 ≤ w.size) : ∀ t ∈ l.map ch, t ≠ [] := fun t ht => by
  obtain ⟨w, hw, rfl⟩ := List.mem_map.1 ht
  intro e; have := hne w hw; have := ch_length w; rw [e] at this; simp at this; omega
theorem wdHas_l0 (l : List ByteArray) (s : ByteArray) (hl : l.length ≤ 1048576) : ∀ (d i : Nat), i + d = l.length → Ev (fun k => spec_wdHas.l0 k s l (l.length : Int) (i : Int)) (((l.drop i).map ch).contains (ch s))
  | 0, i, hd => by
    refine Ev.succ ?_
    simp only [spec_wdHas.l0]
    exact Ev.neg (by omega) (Ev.pure (by rw [List.drop_of_length_le (by omega)]; rfl))
  | d + 1, i, hd => by
    have h1 : i < l.length := by omega
    have ih := wdHas_l0 l s hl d (i + 1) (by omega)
    rw [List.drop_eq_getElem_cons h1, List.map_cons, List.contains_cons]
    refine Ev.succ ?_
    simp only [spec_wdHas.l0, rdOf_nat l i h1, toList_ch, w1 (show 0 ≤ (i : Int) by omega) (show (i : Int) < 9223372036854775807 by omega)]
    refine Ev.pos (by omega) (Ev.pos (by omega) (Ev.pos (by omega) (Ev.cases (fun h => ?_) (fun h => ?_))))
    · rw [h]; simp only [BEq.rfl, Bool.true_or]; exact Ev.now _
    · rw [show (ch s == ch l[i]) = false by rw [beq_eq_false_iff_ne]; exact h, Bool.false_or]; exact ih
theorem wdHas_ev (l : List ByteArray) (s : ByteArray) (hl : l.length ≤ 1048576) : Ev (fun k => spec_wdHas.f k l s) ((l.map ch).contains (ch s)) := by
  have := wdHas_l0 l s hl l.length 0 (by omega)
  simpa [spec_wdHas.f] using this

/-- the list of ends that are looked at: what holds of it -/
structure EndsInv (W : List (List UInt8)) (s : List UInt8) (L : List ByteArray) (k : Nat) : Prop where
  sound : ∀ x ∈ L, bg W (ch x) = true → bg W s = true
  first : ∃ x ∈ L, ch x = s
  done : ∀ j (h : j < L.length), j < k → ch L[j] ≠ [] ∧ ∀ t ∈ W, ¬ ch L[j] <+: t ∧ (t <+: ch L[j] → ∃ y ∈ L, ch y = (ch L[j]).drop t.length)
  tail : ∀ x ∈ L, ∃ a, a ≤ s.length ∧ ch x = s.drop a
  once : (L.map ch).Nodup
theorem nodup_le {α : Type} [DecidableEq α] : ∀ (M N : List α), M.Nodup → M ⊆ N → M.length ≤ N.length
  | [], _, _, _ => Nat.zero_le _
  | x :: M, N, hn, hs => by
    have hx : x ∈ N := hs (by simp)
    have hn' := List.nodup_cons.1 hn
    have := nodup_le M (N.erase x) hn'.2 (fun y hy => (List.mem_erase_of_ne (by rintro rfl; exact hn'.1 hy)).2 (hs (by simp [hy])))
    have h1 := List.length_erase_of_mem hx
    have h2 := List.length_pos_of_mem hx
    simp only [List.length_cons]
    omega
theorem tails_few (s : List UInt8) (M : List (List UInt8)) (h : ∀ x ∈ M, ∃ a, a ≤ s.length ∧ x = s.drop a) (hn : M.Nodup) : M.length ≤ s.length + 1 := by
  have hsub : M ⊆ (List.range (s.length + 1)).map fun a => s.drop a := fun x hx => by
    obtain ⟨a, ha, rfl⟩ := h x hx
    exact List.mem_map.2 ⟨a, by simp; omega, rfl⟩
  have := nodup_le _ _ hn hsub
  simpa using this
theorem EndsInv.few {W : List (List UInt8)} {s : List UInt8} {L : List ByteArray} {k : Nat} (h : EndsInv W s L k) : L.length ≤ s.length + 1 := by
  have := tails_few s (L.map ch) (fun x hx => by obtain ⟨y, hy, rfl⟩ := List.mem_map.1 hx; exact h.tail y hy) h.once
  simpa using this
theorem EndsInv.no {W : List (List UInt8)} (hW : ∀ t ∈ W, t ≠ []) {s : List UInt8} {L : List ByteArray} {k : Nat} (h : EndsInv W s L k) (hk : L.length ≤ k) : bg W s = false := by
  have hx : ∀ (n : Nat) (x : ByteArray), x ∈ L → x.size = n → bg W (ch x) = false := by
    intro n
    induction n using Nat.strongRecOn with
    | _ n ih =>
      intro x hx hn
      obtain ⟨j, hj, rfl⟩ := List.getElem_of_mem hx
      obtain ⟨h0, h1⟩ := h.done j hj (by omega)
      rw [Bool.eq_false_iff]
      intro hb
      rcases (bg_true W hW _).1 hb with hb | ⟨t, ht, hb⟩
      · exact h0 hb
      · rcases hb with hb | ⟨hp, hb⟩
        · exact (h1 t ht).1 hb
        · obtain ⟨y, hy, e⟩ := (h1 t ht).2 hp
          have hl : 0 < t.length := List.length_pos_iff.2 (hW t ht)
          have hle := hp.length_le
          have hcy := ch_length y
          have hcx := ch_length L[j]
          rw [e, List.length_drop] at hcy
          have := ih y.size (by omega) y hy rfl
          rw [e, hb] at this; cases this
  obtain ⟨x, hxL, e⟩ := h.first
  rw [← e]; exact hx _ x hxL rfl
theorem EndsInv.yes {W : List (List UInt8)} (hW : ∀ t ∈ W, t ≠ []) {s : List UInt8} {L : List ByteArray} {k : Nat} (h : EndsInv W s L k) {x : ByteArray} (hx : x ∈ L) (hb : bg W (ch x) = true) : bg W s = true := h.sound x hx hb
theorem EndsInv.grow {W : List (List UInt8)} (hW : ∀ t ∈ W, t ≠ []) {s : List UInt8} {L : List ByteArray} {k : Nat} (h : EndsInv W s L k) (hk : k < L.length) {t : List UInt8} (ht : t ∈ W) (hp : t <+: ch L[k]) {y : ByteArray} (hy : ch y = (ch L[k]).drop t.length) (hno : (L.map ch).contains (ch y) = false) : EndsInv W s (L ++ [y]) k where
  sound x hx hb := by
    rcases List.mem_append.1 hx with hx | hx
    · exact h.sound x hx hb
    · obtain rfl := List.mem_singleton.1 hx
      refine h.sound L[k] (List.getElem_mem hk) ((bg_true W hW _).2 (Or.inr ⟨t, ht, Or.inr ⟨hp, ?_⟩⟩))
      rw [← hy]; exact hb
  first := by obtain ⟨x, hx, e⟩ := h.first; exact ⟨x, List.mem_append_left _ hx, e⟩
  done j hj hjk := by
    have hj' : j < L.length := by omega
    rw [List.getElem_append_left hj']
    obtain ⟨h0, h1⟩ := h.done j hj' hjk
    exact ⟨h0, fun u hu => ⟨(h1 u hu).1, fun hpu => by obtain ⟨z, hz, e⟩ := (h1 u hu).2 hpu; exact ⟨z, List.mem_append_left _ hz, e⟩⟩⟩
  tail x hx := by
    rcases List.mem_append.1 hx with hx | hx
    · exact h.tail x hx
    · obtain rfl := List.mem_singleton.1 hx
      obtain ⟨a, ha, e⟩ := h.tail L[k] (List.getElem_mem hk)
      have hle := hp.length_le
      rw [e, List.length_drop] at hle
      exact ⟨a + t.length, by omega, by rw [hy, e, List.drop_drop]⟩
  once := by
    rw [List.map_append, List.nodup_append]
    refine ⟨h.once, by simp, fun a ha b hb => ?_⟩
    simp only [List.map_cons, List.map_nil, List.mem_singleton] at hb
    subst hb
    intro e
    subst e
    rw [List.contains_iff_mem.2 ha] at hno; cases hno
theorem dlIs_same (l : List ByteArray) (hl : l.length ≤ 1048576) (hne : ∀ w ∈ l, 1 ≤ w.size) (s : List UInt8) (hs : s.length ≤ 1000) : ∀ (d k : Nat) (L : List ByteArray), k + d = s.length + 1 → k ≤ L.length → EndsInv (l.map ch) s L k → Ev (fun n => spec_dlIs.l0 n l L (k : Int)) (bg (l.map ch) s) := by
  have hW := chNe l hne
  intro d
  induction d with
  | zero =>
    intro k L hd hk hi
    have := hi.few
    rw [hi.no hW (by omega)]
    refine Ev.succ ?_
    simp only [spec_dlIs.l0]
    exact Ev.neg (by omega) (Ev.now _)
  | succ d ih =>
    intro k L hd hk hi
    have hfew := hi.few
    by_cases hkL : k < L.length
    · refine Ev.succ ?_
      simp only [spec_dlIs.l0, rdOf_nat L k hkL, toList_ch]
      refine Ev.pos (by omega) (Ev.pos (by omega) (Ev.cases (fun h => ?_) (fun h0 => ?_)))
      · rw [hi.yes hW (List.getElem_mem hkL) (by rw [h]; exact bg_nil _)]; exact Ev.now _
      · have inner : ∀ (e i : Nat) (M : List ByteArray), i + e = l.length → (hM : L <+: M) → EndsInv (l.map ch) s M k → (∀ j (h : j < l.length), j < i → ¬ ch L[k] <+: ch l[j] ∧ (ch l[j] <+: ch L[k] → ∃ y ∈ M, ch y = (ch L[k]).drop (ch l[j]).length)) → Ev (fun n => spec_dlIs.l1 n l M (k : Int) l (l.length : Int) (i : Int)) (bg (l.map ch) s) := by
          intro e
          induction e with
          | zero =>
            intro i M he hM hiM hpart
            have hkM : k < M.length := Nat.lt_of_lt_of_le hkL hM.length_le
            have hMk : M[k] = L[k] := (hM.getElem hkL).symm
            refine Ev.succ ?_
            simp only [spec_dlIs.l1, w1 (show 0 ≤ (k : Int) by omega) (show (k : Int) < 9223372036854775807 by omega)]
            refine Ev.neg (by omega) (ih (k + 1) M (by omega) (by omega) ⟨hiM.sound, hiM.first, fun j hj hjk => ?_, hiM.tail, hiM.once⟩)
            by_cases e : j = k
            · subst e
              rw [hMk]
              refine ⟨h0, fun t ht => ?_⟩
              obtain ⟨w, hw, rfl⟩ := List.mem_map.1 ht
              obtain ⟨j', hj', rfl⟩ := List.getElem_of_mem hw
              exact hpart j' hj' (by omega)
            · exact hiM.done j hj (by omega)
          | succ e ihe =>
            intro i M he hM hiM hpart
            have hkM : k < M.length := Nat.lt_of_lt_of_le hkL hM.length_le
            have hMk : M[k] = L[k] := (hM.getElem hkL).symm
            have h1 : i < l.length := by omega
            have hMf := hiM.few
            have hmem : ch l[i] ∈ l.map ch := List.mem_map.2 ⟨_, List.getElem_mem h1, rfl⟩
            refine Ev.succ ?_
            simp only [spec_dlIs.l1, rdOf_nat l i h1, rdOf_nat M k hkM, hMk, Int.toNat_natCast, w1 (show 0 ≤ (i : Int) by omega) (show (i : Int) < 9223372036854775807 by omega)]
            refine Ev.pos (by omega) (Ev.pos (by omega) (Ev.pos (by omega) (Ev.pos (by omega) (Ev.pos (by omega) (Ev.known (fun _ => wdBegins_eq _ _) (Ev.cases (fun hb => ?_) (fun hb => ?_)))))))
            · have hb' := List.isPrefixOf_iff_prefix.1 hb
              rw [hi.yes hW (List.getElem_mem hkL) ((bg_true _ hW _).2 (Or.inr ⟨_, hmem, Or.inl hb'⟩))]
              exact Ev.now _
            · have hb' : ¬ ch L[k] <+: ch l[i] := fun h => hb (List.isPrefixOf_iff_prefix.2 h)
              refine Ev.known (fun _ => wdBegins_eq _ _) (Ev.cases (fun hc => ?_) (fun hc => ?_))
              · have hc' := List.isPrefixOf_iff_prefix.1 hc
                have hle := hc'.length_le
                rw [ch_length, ch_length] at hle
                have hcy := ch_drop L[k] l[i].size
                refine Ev.pos (by omega) (Ev.pos (by omega) (Ev.bind (wdHas_ev M _ (by omega)) (Ev.cases (fun hh => ?_) (fun hh => ?_))))
                · refine ihe (i + 1) M (by omega) hM hiM (fun j hj hji => ?_)
                  by_cases e : j = i
                  · subst e
                    refine ⟨hb', fun _ => ?_⟩
                    obtain ⟨y, hy, e⟩ := List.mem_map.1 (List.contains_iff_mem.1 hh)
                    exact ⟨y, hy, by rw [e, hcy, ch_length]⟩
                  · exact hpart j hj (by omega)
                · have hh' : (M.map ch).contains (ch (L[k].extract l[i].size L[k].size)) = false := by simpa using hh
                  refine Ev.pos (by omega) (ihe (i + 1) _ (by omega) (hM.trans (List.prefix_append _ _)) (hiM.grow hW hkM hmem (by rw [hMk]; exact hc') (by rw [hMk, hcy, ch_length]) hh') (fun j hj hji => ?_))
                  by_cases e : j = i
                  · subst e
                    exact ⟨hb', fun _ => ⟨_, List.mem_append_right _ (List.mem_singleton.2 rfl), by rw [hcy, ch_length]⟩⟩
                  · obtain ⟨p1, p2⟩ := hpart j hj (by omega)
                    exact ⟨p1, fun hq => by obtain ⟨y, hy, e⟩ := p2 hq; exact ⟨y, List.mem_append_left _ hy, e⟩⟩
              · refine ihe (i + 1) M (by omega) hM hiM (fun j hj hji => ?_)
                by_cases e : j = i
                · subst e
                  exact ⟨hb', fun hq => absurd (List.isPrefixOf_iff_prefix.2 hq) hc⟩
                · exact hpart j hj (by omega)
        exact inner l.length 0 L (by omega) (List.prefix_refl _) hi (fun j hj h => by omega)
    · rw [hi.no hW (by omega)]
      refine Ev.succ ?_
      simp only [spec_dlIs.l0]
      exact Ev.neg (by omega) (Ev.now _)
theorem dlIs_ev (l : List ByteArray) (hl : l.length ≤ 1048576) (hne : ∀ w ∈ l, 1 ≤ w.size) (s : ByteArray) (hs : s.size ≤ 1000) : Ev (fun n => spec_dlIs.f n l s) (bg (l.map ch) (ch s)) := by
  have hcs := ch_length s
  refine dlIs_same l hl hne (ch s) (by omega) ((ch s).length + 1) 0 [s] (by omega) (by simp) ⟨?_, ⟨s, by simp, rfl⟩, fun j h hj => by omega, ?_, by simp⟩
  · intro x hx; obtain rfl := List.mem_singleton.1 hx; exact id
  · intro x hx; obtain rfl := List.mem_singleton.1 hx; exact ⟨0, by omega, by simp⟩

theorem dcAsked_ev (l : List ByteArray) (s : ByteArray) {b : Bool} (h : Ev (fun k => spec_wdSet.f k l) b) : Ev (fun k => spec_dcAsked.f k l s) (b && (decide (s.size ≤ 60) && s.data.toList.all isLetter)) := by
  unfold spec_dcAsked.f
  cases b with
  | false => exact Ev.bind h (Ev.neg (by simp) (Ev.now _))
  | true => exact Ev.bind h (Ev.pos rfl (Ev.bind (wdGood_ev s) (Ev.now _)))

/-- the places of a list, from a number on, at which something is so -/
def idx (p : ByteArray → Bool) : Nat → List ByteArray → List Int
  | _, [] => []
  | i, w :: l => if p w then (i : Int) :: idx p (i + 1) l else idx p (i + 1) l
theorem idx_len (p : ByteArray → Bool) : ∀ (l : List ByteArray) (i : Nat), (idx p i l).length ≤ l.length
  | [], i => by simp [idx]
  | w :: l, i => by
    have := idx_len p l (i + 1)
    unfold idx
    split <;> simp <;> omega
theorem idx_mem (p : ByteArray → Bool) : ∀ (l : List ByteArray) (i : Nat) (j : Int), j ∈ idx p i l → ∃ (n : Nat) (h : n < l.length), j = ((i + n : Nat) : Int) ∧ p l[n] = true
  | [], i, j, h => by simp [idx] at h
  | w :: l, i, j, h => by
    unfold idx at h
    by_cases hp : p w = true
    · rw [if_pos hp] at h
      rcases List.mem_cons.1 h with rfl | h
      · exact ⟨0, by simp, by simp, by simpa using hp⟩
      · obtain ⟨n, hn, e, q⟩ := idx_mem p l (i + 1) j h
        exact ⟨n + 1, by simp; omega, by rw [e]; congr 1; omega, by simpa using q⟩
    · rw [if_neg hp] at h
      obtain ⟨n, hn, e, q⟩ := idx_mem p l (i + 1) j h
      exact ⟨n + 1, by simp; omega, by rw [e]; congr 1; omega, by simpa using q⟩
theorem idx_congr (p q : ByteArray → Bool) : ∀ (l : List ByteArray) (i : Nat), (∀ w ∈ l, p w = q w) → idx p i l = idx q i l
  | [], i, _ => rfl
  | w :: l, i, h => by
    unfold idx
    rw [h w (by simp), idx_congr p q l (i + 1) (fun u hu => h u (by simp [hu]))]
/-- whether a word can be the first one -/
def canFirst (W : List (List UInt8)) (x : List UInt8) (w : ByteArray) : Bool := x.isPrefixOf (ch w) || ((ch w).isPrefixOf x && bg W (x.drop w.size))

theorem dlFirsts_l0 (l : List ByteArray) (hl : l.length ≤ 1048576) (hne : ∀ w ∈ l, 1 ≤ w.size) (s : ByteArray) (hs : s.size ≤ 1000) : ∀ (d i : Nat) (acc : List Int), i + d = l.length → acc.length ≤ i → Ev (fun k => spec_dlFirsts.l0 k l s acc l (l.length : Int) (i : Int)) (acc ++ idx (canFirst (l.map ch) (ch s)) i (l.drop i))
  | 0, i, acc, hd, ha => by
    refine Ev.succ ?_
    simp only [spec_dlFirsts.l0]
    exact Ev.neg (by omega) (Ev.pure (by rw [List.drop_of_length_le (show l.length ≤ i by omega), idx, List.append_nil]))
  | d + 1, i, acc, hd, ha => by
    have h1 : i < l.length := by omega
    have ih1 := dlFirsts_l0 l hl hne s hs d (i + 1) (acc ++ [(i : Int)]) (by omega) (by simp; omega)
    have ih2 := dlFirsts_l0 l hl hne s hs d (i + 1) acc (by omega) (by omega)
    rw [List.append_assoc] at ih1
    rw [List.drop_eq_getElem_cons h1, idx]
    refine Ev.succ ?_
    simp only [spec_dlFirsts.l0, rdOf_nat l i h1, Int.toNat_natCast, w1 (show 0 ≤ (i : Int) by omega) (show (i : Int) < 9223372036854775807 by omega)]
    refine Ev.pos (by omega) (Ev.pos (by omega) (Ev.pos (by omega) (Ev.known (fun _ => wdBegins_eq _ _) (Ev.cases (fun hb => ?_) (fun hb => Ev.known (fun _ => wdBegins_eq _ _) (Ev.cases (fun hc => ?_) (fun hc => ?_)))))))
    · rw [if_pos (by unfold canFirst; rw [hb]; rfl)]
      exact Ev.pos (by omega) ih1
    · have hle := (List.isPrefixOf_iff_prefix.1 hc).length_le
      rw [ch_length, ch_length] at hle
      have hd := dlIs_ev l hl hne (s.extract l[i].size s.size) (by simp; omega)
      rw [ch_drop] at hd
      refine Ev.pos (by omega) (Ev.pos (by omega) (Ev.bind hd (Ev.cases (fun hh => ?_) (fun hh => ?_))))
      · rw [if_pos (by unfold canFirst; rw [hc, hh]; simp)]
        exact Ev.pos (by omega) ih1
      · rw [if_neg (by unfold canFirst; rw [Bool.eq_false_iff.2 hb, Bool.eq_false_iff.2 hh]; simp)]
        exact ih2
    · rw [if_neg (by unfold canFirst; rw [Bool.eq_false_iff.2 hb, Bool.eq_false_iff.2 hc]; simp)]
      exact ih2
theorem dlFirsts_ev (l : List ByteArray) (hl : l.length ≤ 1048576) (hne : ∀ w ∈ l, 1 ≤ w.size) (s : ByteArray) (hs : s.size ≤ 1000) : Ev (fun k => spec_dlFirsts.f k l s) (idx (canFirst (l.map ch) (ch s)) 0 l) := by
  have := dlFirsts_l0 l hl hne s hs l.length 0 [] (by omega) (by simp)
  simpa [spec_dlFirsts.f] using this

theorem firstWords_l0 (l : List ByteArray) (hl : l.length ≤ 1048576) (s : ByteArray) (hs : s.size ≤ 1000) (a : Nat) (ha : a ≤ s.size) : ∀ (d i : Nat) (acc : List Int), i + d = l.length → acc.length ≤ i → Ev (fun k => impl_firstWords.l0 k s (a : Int) ((List.range (s.size + 1)).map fun j => bg (l.map ch) ((ch s).drop j)) acc l (l.length : Int) (i : Int)) (acc ++ idx (canFirst (l.map ch) ((ch s).drop a)) i (l.drop i))
  | 0, i, acc, hd, hc => by
    refine Ev.succ ?_
    simp only [impl_firstWords.l0]
    exact Ev.neg (by omega) (Ev.pure (by rw [List.drop_of_length_le (show l.length ≤ i by omega), idx, List.append_nil]))
  | d + 1, i, acc, hd, hc => by
    have h1 : i < l.length := by omega
    have ih1 := firstWords_l0 l hl s hs a ha d (i + 1) (acc ++ [(i : Int)]) (by omega) (by simp; omega)
    have ih2 := firstWords_l0 l hl s hs a ha d (i + 1) acc (by omega) (by omega)
    rw [List.append_assoc] at ih1
    rw [List.drop_eq_getElem_cons h1, idx]
    have p1 := hasPrefix_eq l[i] (s.extract a s.size)
    have p2 := hasPrefix_eq (s.extract a s.size) l[i]
    rw [ch_drop] at p1 p2
    refine Ev.succ ?_
    simp only [impl_firstWords.l0, rdOf_nat l i h1, Int.toNat_natCast, w1 (show 0 ≤ (i : Int) by omega) (show (i : Int) < 9223372036854775807 by omega)]
    refine Ev.pos (by omega) (Ev.pos (by omega) (Ev.pos (by omega) (Ev.pos (by omega) (Ev.pos (by omega) (Ev.known (fun _ => p1) (Ev.cases (fun hb => ?_) (fun hb => Ev.known (fun _ => p2) (Ev.cases (fun hc => ?_) (fun hc => ?_)))))))))
    · rw [if_pos (by unfold canFirst; rw [hb]; rfl)]
      exact Ev.pos (by omega) ih1
    · have hle : (ch l[i]).length ≤ (ch s).length - a := by have := (List.isPrefixOf_iff_prefix.1 hc).length_le; rwa [List.length_drop] at this
      rw [ch_length, ch_length] at hle
      have e : Aside0 (wrap64 ((a : Int) + (l[i].size : Int)) = ((a + l[i].size : Nat) : Int)) := ⟨by rw [w64 (by omega) (by omega)]; omega⟩
      have ht := tabB_at (l.map ch) s (a + l[i].size) (by omega)
      simp only [e.out]
      refine Ev.pos (by omega) (Ev.pos (by simp; omega) (Ev.cases (fun hh => ?_) (fun hh => ?_)))
      · rw [ht] at hh
        rw [if_pos (by unfold canFirst; rw [hc, List.drop_drop, hh]; simp)]
        exact Ev.pos (by omega) ih1
      · rw [ht] at hh
        rw [if_neg (by unfold canFirst; rw [Bool.eq_false_iff.2 hb, List.drop_drop, Bool.eq_false_iff.2 hh]; simp)]
        exact ih2
    · rw [if_neg (by unfold canFirst; rw [Bool.eq_false_iff.2 hb, Bool.eq_false_iff.2 hc]; simp)]
      exact ih2
theorem firstWords_ev (l : List ByteArray) (hl : l.length ≤ 1048576) (s : ByteArray) (hs : s.size ≤ 1000) (a : Nat) (ha : a ≤ s.size) : Ev (fun k => impl_firstWords.f k l s (a : Int) ((List.range (s.size + 1)).map fun j => bg (l.map ch) ((ch s).drop j))) (idx (canFirst (l.map ch) ((ch s).drop a)) 0 l) := by
  have := firstWords_l0 l hl s hs a ha l.length 0 [] (by omega) (by simp)
  simpa [impl_firstWords.f] using this

theorem ch_eq {a b : ByteArray} (h : ch a = ch b) : a = b := ByteArray.ext (Array.toList_inj.1 h)
theorem rd_zero (j : Int) : rd [j] 0 = j := rfl
theorem decided_same (l : List ByteArray) (hl : l.length ≤ 1048576) (hne : ∀ w ∈ l, 1 ≤ w.size) (h8 : ∀ w ∈ l, w.size ≤ 8) (s : ByteArray) (hs : s.size ≤ 1000) : ∀ (d a : Nat) (acc : List Int), a + d = s.size → acc.length ≤ a → ∃ r : List Int × ByteArray, Ev (fun k => spec_dlDecided.l0 k l (s.extract a s.size) acc) r ∧ Ev (fun k => impl_decided.l0 k l s acc (a : Int) ((List.range (s.size + 1)).map fun j => bg (l.map ch) ((ch s).drop j))) r ∧ r.1.length ≤ s.size := by
  intro d
  induction d using Nat.strongRecOn with
  | _ d ih =>
    intro a acc hd hacc
    have hcs := ch_length s
    have hce := ch_drop s a
    have hsz : (s.extract a s.size).size = s.size - a := by simp
    by_cases h0 : a < s.size
    · have hnil : ¬ (s.extract a s.size).toList = ([] : List UInt8) := by
        rw [toList_ch, hce]; intro e
        have : ((ch s).drop a).length = 0 := by rw [e]; rfl
        rw [List.length_drop] at this; omega
      have f1 := dlFirsts_ev l hl hne (s.extract a s.size) (by omega)
      rw [hce] at f1
      have f2 := firstWords_ev l hl s hs a (by omega)
      have hmem := idx_mem (canFirst (l.map ch) ((ch s).drop a)) l 0
      obtain ⟨F, hF⟩ : ∃ F, F = idx (canFirst (l.map ch) ((ch s).drop a)) 0 l := ⟨_, rfl⟩
      rw [← hF] at f1 f2 hmem
      by_cases h1 : F.length = 1
      · obtain ⟨j, rfl⟩ := List.length_eq_one_iff.1 h1
        obtain ⟨n, hn, ej, -⟩ := hmem j (by simp)
        rw [Nat.zero_add] at ej
        subst ej
        have hw1 := hne l[n] (List.getElem_mem hn)
        have hw8 := h8 l[n] (List.getElem_mem hn)
        have e : Aside0 (wrap64 ((a : Int) + (l[n].size : Int)) = ((a + l[n].size : Nat) : Int)) := ⟨by rw [w64 (by omega) (by omega)]; omega⟩
        by_cases hm : s.size - a < l[n].size
        · obtain ⟨r, r1, r2, r3⟩ := ih 0 (by omega) s.size (acc ++ [(n : Int)]) (by omega) (by simp; omega)
          refine ⟨r, Ev.succ ?_, Ev.succ ?_, r3⟩
          · simp only [spec_dlDecided.l0]
            refine Ev.neg hnil (Ev.bind f1 (Ev.pos (by simp) (Ev.pos (by simp) (Ev.pos (by omega) ?_))))
            simp only [rd_zero, rdOf_nat l n hn, Int.toNat_natCast, hsz]
            refine Ev.pos (by omega) (Ev.pos (by omega) ?_)
            refine Ev.known (a := ((s.size - a : Nat) : Int)) (fun _ => by unfold spec_l1Least.f; rw [if_pos (by omega)]) (Ev.pos (by omega) (Ev.pos (by omega) ?_))
            have e2 : (s.extract a s.size).extract ((s.size - a : Nat) : Int).toNat (s.size - a) = s.extract s.size s.size := by
              apply ch_eq
              rw [ch_extract, ch_extract, ch_extract]; simp
            rw [e2]; exact r1
          · simp only [impl_decided.l0]
            refine Ev.pos (by omega) (Ev.bind f2 (Ev.pos (by simp) (Ev.pos (by simp) (Ev.pos (by omega) ?_))))
            simp only [rd_zero, rdOf_nat l n hn, e.out]
            refine Ev.pos (by omega) (Ev.pos (by omega) ?_)
            rw [show mn (s.size : Int) ((a + l[n].size : Nat) : Int) = (s.size : Int) by unfold mn; split <;> omega]
            exact r2
        · obtain ⟨r, r1, r2, r3⟩ := ih (d - l[n].size) (by omega) (a + l[n].size) (acc ++ [(n : Int)]) (by omega) (by simp; omega)
          refine ⟨r, Ev.succ ?_, Ev.succ ?_, r3⟩
          · simp only [spec_dlDecided.l0]
            refine Ev.neg hnil (Ev.bind f1 (Ev.pos (by simp) (Ev.pos (by simp) (Ev.pos (by omega) ?_))))
            simp only [rd_zero, rdOf_nat l n hn, Int.toNat_natCast, hsz]
            refine Ev.pos (by omega) (Ev.pos (by omega) ?_)
            refine Ev.known (a := (l[n].size : Int)) (fun _ => by unfold spec_l1Least.f; rw [if_neg (by omega)]) (Ev.pos (by omega) (Ev.pos (by omega) ?_))
            have e2 : (s.extract a s.size).extract (l[n].size : Int).toNat (s.size - a) = s.extract (a + l[n].size) s.size := by
              apply ch_eq
              rw [← hsz, Int.toNat_natCast, ch_drop, ch_drop, ch_drop, List.drop_drop]
            rw [e2]; exact r1
          · simp only [impl_decided.l0]
            refine Ev.pos (by omega) (Ev.bind f2 (Ev.pos (by simp) (Ev.pos (by simp) (Ev.pos (by omega) ?_))))
            simp only [rd_zero, rdOf_nat l n hn, e.out]
            refine Ev.pos (by omega) (Ev.pos (by omega) ?_)
            rw [show mn (s.size : Int) ((a + l[n].size : Nat) : Int) = ((a + l[n].size : Nat) : Int) by unfold mn; split <;> omega]
            exact r2
      · refine ⟨(acc, s.extract a s.size), Ev.succ ?_, Ev.succ ?_, by simp only; omega⟩
        · simp only [spec_dlDecided.l0]
          exact Ev.neg hnil (Ev.bind f1 (Ev.neg (by omega) (Ev.now _)))
        · simp only [impl_decided.l0, Int.toNat_natCast]
          exact Ev.pos (by omega) (Ev.bind f2 (Ev.neg (by omega) (Ev.pos (by omega) (Ev.pos (by omega) (Ev.now _)))))
    · obtain rfl : a = s.size := by omega
      refine ⟨(acc, s.extract s.size s.size), Ev.succ ?_, Ev.succ ?_, by simp only; omega⟩
      · simp only [spec_dlDecided.l0]
        exact Ev.pos (by rw [toList_ch, ch_extract]; simp) (Ev.now _)
      · simp only [impl_decided.l0, Int.toNat_natCast]
        exact Ev.neg (by omega) (Ev.pos (by omega) (Ev.pos (by omega) (Ev.now _)))
theorem decided_ev (l : List ByteArray) (hl : l.length ≤ 1048576) (hne : ∀ w ∈ l, 1 ≤ w.size) (h8 : ∀ w ∈ l, w.size ≤ 8) (s : ByteArray) (hs : s.size ≤ 1000) : ∃ r : List Int × ByteArray, Ev (fun k => spec_dlDecided.f k l s) r ∧ Ev (fun k => impl_decided.f k l s) r ∧ r.1.length ≤ s.size := by
  obtain ⟨r, r1, r2, r3⟩ := decided_same l hl hne h8 s hs s.size 0 [] (by omega) (by simp)
  rw [show s.extract 0 s.size = s by apply ch_eq; rw [ch_drop, List.drop_zero]] at r1
  exact ⟨r, r1, by unfold impl_decided.f; exact Ev.known (fun _ => beginnings_eq l hne s (by omega)) r2, r3⟩

theorem decidedWords_same (l : List ByteArray) (s : ByteArray) (hl : l.length ≤ 1048576) : ∃ r, Ev (fun k => spec_DecidedWords.f k l s) r ∧ Ev (fun k => impl_DecidedWords.f k l s) r ∧ r.1.length ≤ 100 := by
  obtain ⟨b, h1, h2, hb⟩ := isSet_same l hl
  have g1 := dcAsked_ev l s h1
  have g2 : impl_isWord.f s = some (decide (s.size ≤ 60) && s.data.toList.all isLetter) := rfl
  unfold spec_DecidedWords.f impl_DecidedWords.f
  cases b with
  | false => exact ⟨([], false), Ev.bind g1 (Ev.neg (by simp) (Ev.now _)), Ev.bind h2 (Ev.neg (by simp) (Ev.now _)), by simp⟩
  | true =>
    cases hg : (decide (s.size ≤ 60) && s.data.toList.all isLetter) with
    | false => rw [hg] at g1 g2; exact ⟨([], false), Ev.bind g1 (Ev.neg (by simp) (Ev.now _)), Ev.bind h2 (Ev.pos rfl (Ev.known (fun _ => g2) (Ev.neg (by simp) (Ev.now _)))), by simp⟩
    | true =>
      have hset := hb rfl
      have h60 : s.size ≤ 60 := by simp only [Bool.and_eq_true, decide_eq_true_eq] at hg; exact hg.1
      rw [hg] at g1 g2
      have hne : ∀ w ∈ l, 1 ≤ w.size := fun w hw => (hset.size w hw).1
      obtain ⟨r, r1, r2, r3⟩ := decided_ev l hl hne (fun w hw => (hset.size w hw).2) s (by omega)
      exact ⟨(r.1, true), Ev.bind g1 (Ev.pos rfl (Ev.bind r1 (Ev.now _))), Ev.bind h2 (Ev.pos rfl (Ev.known (fun _ => g2) (Ev.pos rfl (Ev.bind r2 (Ev.now _))))), by simp only; omega⟩
theorem FnExactDecidedWords : laws_FnExactDecidedWords.Pure := by
  intro l s hl hs h
  refine Ev.rounds ?_
  unfold laws_FnExactDecidedWords.f
  obtain ⟨z, hz, hzz⟩ := szS_ev l hl hs
  refine Ev.cases (fun _ => Ev.now _) (fun _ => Ev.bind hz (Ev.cases (fun _ => Ev.now _) (fun hzn => ?_)))
  obtain ⟨hl', -⟩ := hzz (by omega)
  obtain ⟨mt, hmt⟩ := marks
  obtain ⟨r, h1, h2, h3⟩ := decidedWords_same l s hl'
  refine Ev.bind (toS_ev l hl') (Ev.bind h1 (Ev.bind (toS_ev l hl') (Ev.bind h2 (Ev.bind (eqIntS_ev r.1 (by omega)) (Ev.pos rfl ?_)))))
  refine Ev.succ ?_
  simp only [laws_FnExactDecidedWords.j0]
  refine Ev.neg (by simp) (Ev.bind (toS_ev l hl') (Ev.bind (eqS_ev l hl') (Ev.pos rfl (Ev.bind (markS_ev hmt l hl') (Ev.neg (by omega) (Ev.bind (eqIntS_ev r.1 (by omega)) (Ev.pos rfl ?_)))))))
  refine Ev.succ ?_
  simp only [laws_FnExactDecidedWords.j1]
  refine Ev.neg (by simp) (Ev.bind (markI2_ev r.1 (by omega)) (Ev.bind (heldI_ev r.1.length (by omega)) (Ev.neg (by omega) (Ev.pos rfl (Ev.bind (toS_ev l hl') (Ev.bind h2 (Ev.bind (eqIntS_ev r.1 (by omega)) (Ev.pos rfl ?_))))))))
  refine Ev.succ ?_
  simp only [laws_FnExactDecidedWords.j2]
  exact Ev.neg (by simp) (Ev.bind (heldI_ev r.1.length (by omega)) (Ev.neg (by omega) (Ev.pos rfl (Ev.now _))))
end Go.Proofs.YtkefjfpjnghkdaaDoor.Pure
