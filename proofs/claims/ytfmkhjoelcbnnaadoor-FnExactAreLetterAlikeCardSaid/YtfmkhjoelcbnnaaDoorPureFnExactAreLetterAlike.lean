/- AreLetterAlike of the program and of the reference answer alike for all arguments, and leave them as they were: no condition. -/
import Derived.Test.YtfmkhjoelcbnnaaDoorXFnExactAreLetterAlikexp
import Derived.Sort.LotA
namespace Go.Proofs.YtfmkhjoelcbnnaaDoor.Pure
set_option linter.unusedSimpArgs false
set_option linter.unusedVariables false
open Go.RowKit Go.Proofs.YtfmkhjoelcbnnaaDoor.Hand Go.Proofs.YtfmkhjoelcbnnaaDoor.XFnExactAreLetterAlike Go.Proofs.YtfmkhjoelcbnnaaDoorW.PrintWords Go.Proofs.YtfmkhjoelcbnnaaDoorW.PrintLast Go.Proofs.YtfmkhjoelcbnnaaDoorW.PrintMore

theorem w1 {i : Int} (h0 : 0 ≤ i) (h : i < 9223372036854775807) : wrap64 (i + 1) = i + 1 := by unfold wrap64; omega
theorem w64 {i : Int} (h0 : -9223372036854775808 ≤ i) (h : i < 9223372036854775808) : wrap64 i = i := by unfold wrap64; omega
theorem rd_nat (l : List Int) (i : Nat) (h : i < l.length) : rd l (i : Int) = l[i] := by
  unfold rd; simp [List.getD_eq_getElem?_getD, h]
theorem Ev.pos {α : Type} {c : Prop} [Decidable c] {g g' : Nat → Option α} {r : α} (h : c) (k : Ev g r) : Ev (fun n => if c then g n else g' n) r :=
  Ev.congr (fun n => if_pos h) k
theorem Ev.neg {α : Type} {c : Prop} [Decidable c] {g g' : Nat → Option α} {r : α} (h : ¬ c) (k : Ev g' r) : Ev (fun n => if c then g n else g' n) r :=
  Ev.congr (fun n => if_neg h) k
theorem Ev.cases {α : Type} {c : Prop} [Decidable c] {g g' : Nat → Option α} {r : α} (h : c → Ev g r) (k : ¬ c → Ev g' r) : Ev (fun n => if c then g n else g' n) r := by
  by_cases e : c
  · exact Ev.pos e (h e)
  · exact Ev.neg e (k e)
/-- a call whose answer is known at every number of rounds -/
theorem Ev.known {α β : Type} {g : Nat → Option α} {f : Nat → α → Option β} {a : α} {r : β} (h : ∀ n, g n = some a) (k : Ev (fun n => f n a) r) : Ev (fun n => (g n).bind (f n)) r :=
  Ev.bind ⟨0, fun n _ => h n⟩ k
/-- one bind of two, joined with what follows -/
theorem Ev.pure {α : Type} {r q : α} (h : r = q) : Ev (fun _ => some r) q := h ▸ Ev.now r
theorem Ev.succ {α : Type} {g : Nat → Option α} {r : α} (h : Ev (fun k => g (k + 1)) r) : Ev g r := Ev.step (f := fun k => g (k + 1)) (fun _ => rfl) h

theorem rdOf_nat (l : List ByteArray) (i : Nat) (h : i < l.length) : rdOf ByteArray.empty l (i : Int) = l[i] := by
  unfold rdOf; simp [List.getD_eq_getElem?_getD, h]

theorem maxLen_le : maxLen ≤ 9223372036854775807 := by unfold maxLen; omega
theorem szS_l0 (l : List ByteArray) (hl : l.length ≤ 9223372036854775807) (hs : ∀ s ∈ l, s.size ≤ 9223372036854775807) : ∀ (d i : Nat) (b : Int), i + d = l.length → 0 ≤ b → b ≤ 1048576 → ∃ r, Ev (fun k => laws_szStringS.l0 k l b (i : Int)) r ∧ (0 ≤ r → r ≤ 1048576 ∧ ∀ s ∈ l.drop i, s.size ≤ 1048576)
  | 0, i, b, hd, h0, hb => by
    refine ⟨b, Ev.succ ?_, fun _ => ⟨hb, fun s h => ?_⟩⟩
    · simp only [laws_szStringS.l0]; exact Ev.neg (by omega) (Ev.now _)
    · rw [List.drop_of_length_le (by omega)] at h; cases h
  | d + 1, i, b, hd, h0, hb => by
    have h1 : i < l.length := by omega
    have h2 := hs _ (List.getElem_mem h1)
    have e : Aside0 (wrap64 (b - (l[i].size : Int)) = b - (l[i].size : Int)) := ⟨w64 (by omega) (by omega)⟩
    by_cases hc : b - (l[i].size : Int) < 0
    · refine ⟨-1, Ev.succ ?_, fun h => by omega⟩
      simp only [laws_szStringS.l0, rdOf_nat l i h1, e.out]
      exact Ev.pos (by omega) (Ev.pos (by omega) (Ev.pos hc (Ev.now _)))
    · obtain ⟨r, hr, hh⟩ := szS_l0 l hl hs d (i + 1) (b - (l[i].size : Int)) (by omega) (by omega) (by omega)
      refine ⟨r, Ev.succ ?_, fun h => ⟨(hh h).1, fun s hm => ?_⟩⟩
      · simp only [laws_szStringS.l0, rdOf_nat l i h1, e.out, w1 (show 0 ≤ (i : Int) by omega) (show (i : Int) < 9223372036854775807 by omega)]
        exact Ev.pos (by omega) (Ev.pos (by omega) (Ev.neg hc hr))
      · rw [List.drop_eq_getElem_cons h1] at hm
        rcases List.mem_cons.1 hm with rfl | hm
        · omega
        · exact (hh h).2 s hm
theorem szS_ev (l : List ByteArray) (hl : l.length ≤ maxLen) (hs : ∀ s ∈ l, s.size ≤ maxLen) : ∃ r, Ev (fun k => laws_szStringS.f k l 1048576) r ∧ (0 ≤ r → l.length ≤ 1048576 ∧ r ≤ 1048576 ∧ ∀ s ∈ l, s.size ≤ 1048576) := by
  have hm := maxLen_le
  have e : Aside0 (wrap64 (1048576 - (l.length : Int)) = 1048576 - (l.length : Int)) := ⟨w64 (by omega) (by omega)⟩
  unfold laws_szStringS.f
  rw [e.out]
  by_cases hc : 1048576 - (l.length : Int) < 0
  · exact ⟨-1, Ev.pos hc (Ev.now _), fun h => by omega⟩
  · obtain ⟨r, hr, hh⟩ := szS_l0 l (by omega) (fun s h => Nat.le_trans (hs s h) hm) l.length 0 (1048576 - (l.length : Int)) (by omega) (by omega) (by omega)
    exact ⟨r, Ev.neg hc hr, fun h => ⟨by omega, (hh h).1, by simpa using (hh h).2⟩⟩
theorem toS_l0 (l : List ByteArray) (hl : l.length ≤ 1048576) : ∀ (d i : Nat) (xs : List ByteArray), i + d = l.length → xs.length = l.length → xs.take i = l.take i → Ev (fun k => laws_toStringS.l0 k l xs (i : Int)) l
  | 0, i, xs, hd, hx, ht => by
    refine Ev.step (f := fun _ => some xs) (fun k => ?_) (Ev.pure ?_)
    · simp only [laws_toStringS.l0]; rw [if_neg (by omega)]
    · rw [List.take_of_length_le (by omega), List.take_of_length_le (by omega)] at ht; exact ht
  | d + 1, i, xs, hd, hx, ht => by
    refine Ev.step (f := fun k => laws_toStringS.l0 k l (xs.set i (rdOf ByteArray.empty l i)) ((i + 1 : Nat) : Int)) (fun k => ?_) (toS_l0 l hl d (i + 1) _ (by omega) (by simp [hx]) ?_)
    · simp only [laws_toStringS.l0]; rw [if_pos (by omega), if_pos (by omega), if_pos (by omega), w1 (by omega) (by omega)]; simp
    · have h1 : i < l.length := by omega
      have h2 : i < (xs.set i (rdOf ByteArray.empty l i)).length := by simp; omega
      have e := rdOf_nat l i h1
      rw [List.take_succ_eq_append_getElem h2, List.take_succ_eq_append_getElem h1, List.take_set, List.set_eq_of_length_le (by simp; omega), ht]
      simp [e]
theorem toS_ev (l : List ByteArray) (hl : l.length ≤ 1048576) : Ev (fun k => laws_toStringS.f k l) l := by
  unfold laws_toStringS.f
  refine Ev.pos (by omega) (Ev.pos (by omega) ?_)
  have h := toS_l0 l hl l.length 0 (List.replicate l.length ⟨#[]⟩) (by omega) (by simp) (by simp)
  simpa using h
theorem eqS_l0 (l : List ByteArray) (hl : l.length ≤ 1048576) : ∀ (d i : Nat), i + d = l.length → Ev (fun k => laws_eqStringS.l0 k l l (i : Int)) true
  | 0, i, hd => Ev.step (f := fun _ => some true) (fun k => by simp only [laws_eqStringS.l0]; rw [if_neg (by omega)]) (Ev.now _)
  | d + 1, i, hd => by
    refine Ev.step (f := fun k => laws_eqStringS.l0 k l l ((i + 1 : Nat) : Int)) (fun k => ?_) (eqS_l0 l hl d (i + 1) (by omega))
    simp only [laws_eqStringS.l0]; rw [if_pos (by omega), if_pos (by omega), if_pos (by omega), if_pos trivial, w1 (by omega) (by omega)]; simp
theorem eqS_ev (l : List ByteArray) (hl : l.length ≤ 1048576) : Ev (fun k => laws_eqStringS.f k l l) true := by
  unfold laws_eqStringS.f
  exact Ev.pos rfl (by simpa using eqS_l0 l hl l.length 0 (by omega))


theorem spec_in (a b c : Int) : spec_l1In.f a b c = some (decide (b ≤ a ∧ a ≤ c)) := by
  unfold spec_l1In.f
  by_cases h : a ≥ b
  · rw [if_pos h]; simp [h]
  · rw [if_neg h]; simp; omega

theorem impl_in_eq (a b c : Int) : impl_in.f a b c = some (decide (b ≤ a ∧ a ≤ c)) := by
  unfold impl_in.f
  by_cases h : b ≤ a
  · rw [if_pos h]; simp [h]
  · rw [if_neg h]; simp [h]

theorem bt_nat (s : ByteArray) (i : Nat) (h : i < s.data.toList.length) : bt s (i : Int) = ((s.data.toList[i]).toNat : Int) := by
  have h' : i < s.size := by have e : s.size = s.data.toList.length := Array.length_toList.symm; omega
  unfold bt
  rw [dif_pos (show (i : Int).toNat < s.size by simpa using h')]
  simp [ByteArray.getElem_eq_getElem_data]
theorem size_data (s : ByteArray) : s.size = s.data.toList.length := Array.length_toList.symm
theorem letter_test (c : UInt8) : ((c.toNat : Int) < 97 ∨ ((c.toNat : Int) - 97) % 256 ≥ 3) ↔ isLetter c = false := by
  have := c.toNat_lt
  unfold isLetter
  rw [decide_eq_false_iff_not]
  omega
theorem wdIs_l0 (s : ByteArray) (hs : s.size < 4611686018427387904) : ∀ (d i : Nat), i + d = s.data.toList.length → Ev (fun k => spec_wdIs.l0 k s (i : Int)) ((s.data.toList.drop i).all isLetter)
  | 0, i, hd => by
    refine Ev.succ ?_
    simp only [spec_wdIs.l0]
    exact Ev.neg (by rw [size_data]; omega) (Ev.pure (by rw [List.drop_of_length_le (by omega)]; rfl))
  | d + 1, i, hd => by
    have h1 : i < s.data.toList.length := by omega
    have ih := wdIs_l0 s hs d (i + 1) (by omega)
    have ht := letter_test s.data.toList[i]
    have hsz := size_data s
    rw [List.drop_eq_getElem_cons h1, List.all_cons]
    refine Ev.succ ?_
    simp only [spec_wdIs.l0, bt_nat s i h1, w1 (show 0 ≤ (i : Int) by omega) (show (i : Int) < 9223372036854775807 by omega)]
    refine Ev.pos (by omega) (Ev.pos (by omega) (Ev.cases (fun h => ?_) (fun h => Ev.cases (fun h' => ?_) (fun h' => ?_))))
    · rw [ht.1 (Or.inl h)]; exact Ev.now _
    · rw [ht.1 (Or.inr h')]; exact Ev.now _
    · have : isLetter s.data.toList[i] = true := by
        cases hl : isLetter s.data.toList[i]
        · exact absurd (ht.2 hl) (by omega)
        · rfl
      rw [this, Bool.true_and]; exact ih
theorem wdIs_ev (s : ByteArray) (hs : s.size < 4611686018427387904) : Ev (fun k => spec_wdIs.f k s) (s.data.toList.all isLetter) := by
  have h := wdIs_l0 s hs s.data.toList.length 0 (by omega)
  simpa [spec_wdIs.f] using h

/-- a word of a set -/
def short (s : ByteArray) : Bool := decide (1 ≤ s.size ∧ s.size ≤ 8) && s.data.toList.all isLetter
theorem wdShort_ev (s : ByteArray) : Ev (fun k => spec_wdShort.f k s) (short s) := by
  unfold spec_wdShort.f short
  refine Ev.known (fun _ => spec_in _ _ _) (Ev.cases (fun h => ?_) (fun h => ?_))
  · have h' := of_decide_eq_true h
    rw [decide_eq_true (show 1 ≤ s.size ∧ s.size ≤ 8 by omega), Bool.true_and]
    exact Ev.bind (wdIs_ev s (by omega)) (Ev.now _)
  · rw [decide_eq_false (show ¬ (1 ≤ s.size ∧ s.size ≤ 8) by intro hh; exact h (decide_eq_true (by omega))), Bool.false_and]
    exact Ev.now _
theorem isShort_eq (s : ByteArray) : impl_isShort.f s = some (short s) := by
  unfold impl_isShort.f impl_isWord.f short
  by_cases h : 1 ≤ s.size ∧ s.size ≤ 8
  · rw [decide_eq_true h, decide_eq_true (show s.size ≤ 60 by omega)]
    cases s.data.toList.all isLetter
    · rfl
    · simp [impl_in_eq]; omega
  · rw [decide_eq_false h]
    cases (decide (s.size ≤ 60) && s.data.toList.all isLetter)
    · rfl
    · simp [impl_in_eq]; omega
theorem bytesLess_cmp : ∀ (x y : List UInt8), Op.bytesLess x y = decide (Lib.compareBytes x y < 0)
  | [], [] => by simp [Op.bytesLess, Lib.compareBytes]
  | _ :: _, [] => by simp [Op.bytesLess, Lib.compareBytes]
  | [], _ :: _ => by simp [Op.bytesLess, Lib.compareBytes]
  | a :: x, b :: y => by
    rw [Op.bytesLess, bytesLess_cmp x y, Lib.compareBytes]
    by_cases h1 : a < b
    · simp [h1]
    · by_cases h2 : b < a
      · have : (a == b) = false := by
          rw [beq_eq_false_iff_ne]; rintro rfl; exact h1 h2
        simp [h1, h2, this]
      · have : a = b := by
          have h1' : ¬ a.toNat < b.toNat := h1
          have h2' : ¬ b.toNat < a.toNat := h2
          exact UInt8.toNat_inj.1 (by omega)
        subst this; simp [h1]
theorem bytesLess_irrefl : ∀ (x : List UInt8), Op.bytesLess x x = false
  | [] => rfl
  | a :: x => by rw [Op.bytesLess, bytesLess_irrefl x]; simp
theorem bytesLess_trans : ∀ (x y z : List UInt8), Op.bytesLess x y = true → Op.bytesLess y z = true → Op.bytesLess x z = true
  | _, [], _ => by simp [Op.bytesLess]
  | _, _ :: _, [] => by simp [Op.bytesLess]
  | [], _ :: _, _ :: _ => by simp [Op.bytesLess]
  | a :: x, b :: y, c :: z => by
    have ih := bytesLess_trans x y z
    simp only [Op.bytesLess, Bool.or_eq_true, decide_eq_true_eq, Bool.and_eq_true, beq_iff_eq]
    intro h1 h2
    rcases h1 with h1 | ⟨rfl, h1⟩
    · rcases h2 with h2 | ⟨rfl, h2⟩
      · exact Or.inl (UInt8.lt_trans h1 h2)
      · exact Or.inl h1
    · rcases h2 with h2 | ⟨rfl, h2⟩
      · exact Or.inl h2
      · exact Or.inr ⟨rfl, ih h1 h2⟩
/-- the order of words: by length, then by letters -/
def wless (a b : ByteArray) : Bool := decide (a.size < b.size) || (decide (a.size = b.size) && Op.bytesLess a.data.toList b.data.toList)
theorem wless_irrefl (a : ByteArray) : wless a a = false := by unfold wless; rw [bytesLess_irrefl]; simp
theorem wless_trans (a b c : ByteArray) (h1 : wless a b = true) (h2 : wless b c = true) : wless a c = true := by
  unfold wless at *
  simp only [Bool.or_eq_true, decide_eq_true_eq, Bool.and_eq_true] at *
  rcases h1 with h1 | ⟨h1, g1⟩ <;> rcases h2 with h2 | ⟨h2, g2⟩
  · left; omega
  · left; omega
  · left; omega
  · exact Or.inr ⟨by omega, bytesLess_trans _ _ _ g1 g2⟩
theorem wdLess_eq (a b : ByteArray) : spec_wdLess.f a b = some (wless a b) := by
  unfold spec_wdLess.f wless
  by_cases h : a.size < b.size
  · rw [if_pos (by omega)]; simp [h]
  · rw [if_neg (by omega)]
    by_cases h' : a.size = b.size
    · rw [if_pos (by omega)]; simp [h', ByteArray.toList_eq]
    · rw [if_neg (by omega)]; simp [h, h']
theorem or2 (a b : Int) : Ev (fun k => cmp_Or_int.f k [a, b]) (if a = 0 then b else a) := by
  refine ⟨3, fun k hk => ?_⟩
  obtain ⟨k, rfl⟩ : ∃ m, k = m + 3 := ⟨k - 3, by omega⟩
  by_cases ha : a = 0 <;> by_cases hb : b = 0 <;> simp [cmp_Or_int.f, cmp_Or_int.l0, rd, wrap64, ha, hb]
theorem compareWords_ev (a b : ByteArray) : ∃ c, Ev (fun k => impl_compareWords.f k a b) c ∧ wless a b = decide (c < 0) := by
  have hn : ∀ x : Int, cmp_isNaN_int.f x = some false := fun x => by simp [cmp_isNaN_int.f]
  have hc : cmp_Compare_int.f (a.size : Int) (b.size : Int) = some (if a.size < b.size then -1 else if b.size < a.size then 1 else 0) := by
    unfold cmp_Compare_int.f
    simp only [hn, Option.bind_some]
    rw [if_neg (by simp), if_neg (by simp)]
    by_cases h1 : a.size < b.size
    · rw [if_pos (by omega), if_pos h1]
    · rw [if_neg (by omega), if_neg h1]
      by_cases h2 : b.size < a.size
      · rw [if_pos (by omega), if_pos h2]
      · rw [if_neg (by omega), if_neg h2]
  refine ⟨_, Ev.known (fun _ => hc) (Ev.known (fun _ => rfl) (Ev.bind (or2 _ _) (Ev.now _))), ?_⟩
  unfold wless
  rw [bytesLess_cmp]
  by_cases h1 : a.size < b.size
  · simp [h1]
  · by_cases h2 : b.size < a.size
    · rw [if_neg h1, if_pos h2]; simp [h1, show ¬ a.size = b.size by omega]
    · rw [if_neg h1, if_neg h2]; simp [h1, show a.size = b.size by omega]
/-- a set: words of the right size, one by one in order -/
def SetUpto (l : List ByteArray) (i : Nat) : Prop := ∀ (j : Nat) (h : j < l.length), i ≤ j → short l[j] = true ∧ (0 < j → wless l[j - 1] l[j] = true)
theorem set_l0 (l : List ByteArray) (hl : l.length ≤ 1048576) : ∀ (d i : Nat), i + d = l.length → ∃ b, Ev (fun k => spec_wdSet.l0 k l l (l.length : Int) (i : Int)) b ∧ Ev (fun k => impl_isSet.l0 k l l (l.length : Int) (i : Int)) (b && decide (l.length ≤ 12)) ∧ (b = true → SetUpto l i)
  | 0, i, hd => by
    refine ⟨true, Ev.succ ?_, Ev.succ ?_, fun _ j h hj => by omega⟩
    · simp only [spec_wdSet.l0]; exact Ev.neg (by omega) (Ev.now _)
    · simp only [impl_isSet.l0]; refine Ev.neg (by omega) (Ev.pure ?_); rw [Bool.true_and]; exact decide_eq_decide.2 (by omega)
  | d + 1, i, hd => by
    have h1 : i < l.length := by omega
    obtain ⟨b, e1, e2, hb⟩ := set_l0 l hl d (i + 1) (by omega)
    have s1 := wdShort_ev l[i]
    have s2 := isShort_eq l[i]
    cases hs : short l[i]
    · rw [hs] at s1 s2
      refine ⟨false, Ev.succ ?_, Ev.succ ?_, fun h => by cases h⟩
      · simp only [spec_wdSet.l0, rdOf_nat l i h1]
        exact Ev.pos (by omega) (Ev.pos (by omega) (Ev.pos (by omega) (Ev.bind s1 (Ev.neg (by simp) (Ev.now _)))))
      · simp only [impl_isSet.l0, rdOf_nat l i h1]
        exact Ev.pos (by omega) (Ev.pos (by omega) (Ev.pos (by omega) (Ev.known (fun _ => s2) (Ev.neg (by simp) (Ev.now _)))))
    · rw [hs] at s1 s2
      by_cases h0 : i = 0
      · refine ⟨b, Ev.succ ?_, Ev.succ ?_, fun h j hj hij => ?_⟩
        · simp only [spec_wdSet.l0, rdOf_nat l i h1, w1 (show 0 ≤ (i : Int) by omega) (show (i : Int) < 9223372036854775807 by omega)]
          exact Ev.pos (by omega) (Ev.pos (by omega) (Ev.pos (by omega) (Ev.bind s1 (Ev.pos rfl (Ev.neg (by omega) e1)))))
        · simp only [impl_isSet.l0, rdOf_nat l i h1, w1 (show 0 ≤ (i : Int) by omega) (show (i : Int) < 9223372036854775807 by omega)]
          exact Ev.pos (by omega) (Ev.pos (by omega) (Ev.pos (by omega) (Ev.known (fun _ => s2) (Ev.pos rfl (Ev.neg (by omega) e2)))))
        · by_cases he : i = j
          · subst he; exact ⟨hs, fun h => by omega⟩
          · exact hb h j hj (by omega)
      · obtain ⟨c, hc, hw⟩ := compareWords_ev l[i - 1] l[i]
        have e3 : Aside0 (wrap64 ((i : Int) - 1) = ((i - 1 : Nat) : Int)) := ⟨by rw [w64 (by omega) (by omega)]; omega⟩
        have l1 := wdLess_eq l[i - 1] l[i]
        refine ⟨wless l[i - 1] l[i] && b, Ev.succ ?_, Ev.succ ?_, fun h j hj hij => ?_⟩
        · simp only [spec_wdSet.l0, rdOf_nat l i h1, e3.out, rdOf_nat l (i - 1) (by omega), w1 (show 0 ≤ (i : Int) by omega) (show (i : Int) < 9223372036854775807 by omega)]
          refine Ev.pos (by omega) (Ev.pos (by omega) (Ev.pos (by omega) (Ev.bind s1 (Ev.pos rfl (Ev.pos (by omega) (Ev.pos (by omega) (Ev.pos (by omega) (Ev.known (fun _ => l1) (Ev.cases (fun h => ?_) (fun h => ?_))))))))))
          · rw [h, Bool.true_and]; exact e1
          · rw [Bool.eq_false_iff.mpr h, Bool.false_and]; exact Ev.now _
        · simp only [impl_isSet.l0, rdOf_nat l i h1, e3.out, rdOf_nat l (i - 1) (by omega), w1 (show 0 ≤ (i : Int) by omega) (show (i : Int) < 9223372036854775807 by omega)]
          refine Ev.pos (by omega) (Ev.pos (by omega) (Ev.pos (by omega) (Ev.known (fun _ => s2) (Ev.pos rfl (Ev.pos (by omega) (Ev.pos (by omega) (Ev.pos (by omega) (Ev.bind hc (Ev.cases (fun h => ?_) (fun h => ?_))))))))))
          · rw [hw, decide_eq_false (by omega)]; exact Ev.now _
          · rw [hw, decide_eq_true (by omega)]; exact e2
        · simp only [Bool.and_eq_true] at h
          by_cases he : i = j
          · subst he; exact ⟨hs, fun _ => h.1⟩
          · exact hb h.2 j hj (by omega)
/-- what a set is -/
structure IsSet (l : List ByteArray) : Prop where
  few : l.length ≤ 12
  each : SetUpto l 0
theorem isSet_same (l : List ByteArray) (hl : l.length ≤ 1048576) : ∃ b, Ev (fun k => spec_wdSet.f k l) b ∧ Ev (fun k => impl_isSet.f k l) b ∧ (b = true → IsSet l) := by
  obtain ⟨b, h1, h2, hb⟩ := set_l0 l hl l.length 0 (by omega)
  unfold spec_wdSet.f impl_isSet.f
  by_cases h12 : l.length ≤ 12
  · rw [decide_eq_true h12, Bool.and_true] at h2
    exact ⟨b, Ev.neg (by omega) h1, h2, fun h => ⟨h12, hb h⟩⟩
  · rw [decide_eq_false h12, Bool.and_false] at h2
    exact ⟨false, Ev.pos (by omega) (Ev.now _), h2, fun h => by cases h⟩
theorem IsSet.lt {l : List ByteArray} (h : IsSet l) : ∀ (j i : Nat) (hj : j < l.length) (hi : i < j), wless l[i] l[j] = true
  | 0, i, hj, hi => by omega
  | j + 1, i, hj, hi => by
    have h1 := (h.each (j + 1) hj (by omega)).2 (by omega)
    by_cases e : i = j
    · subst e; exact h1
    · exact wless_trans _ _ _ (h.lt j i (by omega) (by omega)) h1
theorem IsSet.short {l : List ByteArray} (h : IsSet l) (w : ByteArray) (hw : w ∈ l) : Pure.short w = true := by
  obtain ⟨i, hi, rfl⟩ := List.getElem_of_mem hw
  exact (h.each i hi (by omega)).1
theorem IsSet.size {l : List ByteArray} (h : IsSet l) (w : ByteArray) (hw : w ∈ l) : 1 ≤ w.size ∧ w.size ≤ 8 := by
  have := h.short w hw
  unfold Pure.short at this
  simp only [Bool.and_eq_true, decide_eq_true_eq] at this
  exact this.1

/-- how often each letter stands in a text -/
def lcOf (l : List UInt8) : List Int := [((l.count 97 : Nat) : Int), ((l.count 98 : Nat) : Int), ((l.count 99 : Nat) : Int)]
theorem letter_three (c : UInt8) (h : isLetter c = true) : c = 97 ∨ c = 98 ∨ c = 99 := by
  have h1 := letter_test c
  have h2 : ¬ ((c.toNat : Int) < 97 ∨ ((c.toNat : Int) - 97) % 256 ≥ 3) := fun q => by rw [h1.1 q] at h; cases h
  have := c.toNat_lt
  have h3 : c.toNat = 97 ∨ c.toNat = 98 ∨ c.toNat = 99 := by omega
  rcases h3 with e | e | e
  · exact Or.inl (UInt8.toNat_inj.1 e)
  · exact Or.inr (Or.inl (UInt8.toNat_inj.1 e))
  · exact Or.inr (Or.inr (UInt8.toNat_inj.1 e))
theorem wdLetters_l0 (s : ByteArray) (hs : s.size ≤ 8) (ha : s.data.toList.all isLetter = true) : ∀ (d i : Nat), i + d = s.data.toList.length → Ev (fun k => spec_wdLetters.l0 k s (lcOf (s.data.toList.take i)) (i : Int)) (lcOf s.data.toList)
  | 0, i, hd => by
    refine Ev.succ ?_
    simp only [spec_wdLetters.l0]
    exact Ev.neg (by rw [size_data]; omega) (Ev.pure (by rw [List.take_of_length_le (by omega)]))
  | d + 1, i, hd => by
    have h1 : i < s.data.toList.length := by omega
    have hsz := size_data s
    have ih := wdLetters_l0 s hs ha d (i + 1) (by omega)
    have hc : isLetter s.data.toList[i] = true := List.all_eq_true.1 ha _ (List.getElem_mem h1)
    have hb := bt_nat s i h1
    have ht : s.data.toList.take (i + 1) = s.data.toList.take i ++ [s.data.toList[i]] := List.take_succ_eq_append_getElem h1
    have hn : ∀ c : UInt8, (s.data.toList.take i).count c ≤ 8 := fun c => Nat.le_trans List.count_le_length (by rw [List.length_take]; omega)
    have n1 := hn 97
    have n2 := hn 98
    have n3 := hn 99
    rw [ht] at ih
    refine Ev.succ ?_
    simp only [spec_wdLetters.l0, w1 (show 0 ≤ (i : Int) by omega) (show (i : Int) < 9223372036854775807 by omega)]
    refine Ev.pos (by omega) (Ev.pos (by omega) ?_)
    rcases letter_three _ hc with e | e | e
    · rw [e] at hb ih
      have e1 : Aside0 ((bt s (i : Int) - 97) % 256 = 0) := ⟨by rw [hb]; rfl⟩
      rw [e1.out]
      have e2 : Aside0 (wrap64 (rd (lcOf (s.data.toList.take i)) 0 + 1) = (((s.data.toList.take i).count 97 + 1 : Nat) : Int)) := ⟨by
        show wrap64 ((((s.data.toList.take i).count 97 : Nat) : Int) + 1) = _
        rw [w64 (by omega) (by omega)]; omega⟩
      rw [e2.out]
      refine Ev.pos (by omega) (Ev.pos (by simp [lcOf]) ?_)
      simpa [lcOf, List.count_append, List.count_cons] using ih
    · rw [e] at hb ih
      have e1 : Aside0 ((bt s (i : Int) - 97) % 256 = 1) := ⟨by rw [hb]; rfl⟩
      rw [e1.out]
      have e2 : Aside0 (wrap64 (rd (lcOf (s.data.toList.take i)) 1 + 1) = (((s.data.toList.take i).count 98 + 1 : Nat) : Int)) := ⟨by
        show wrap64 ((((s.data.toList.take i).count 98 : Nat) : Int) + 1) = _
        rw [w64 (by omega) (by omega)]; omega⟩
      rw [e2.out]
      refine Ev.pos (by omega) (Ev.pos (by simp [lcOf]) ?_)
      simpa [lcOf, List.count_append, List.count_cons] using ih
    · rw [e] at hb ih
      have e1 : Aside0 ((bt s (i : Int) - 97) % 256 = 2) := ⟨by rw [hb]; rfl⟩
      rw [e1.out]
      have e2 : Aside0 (wrap64 (rd (lcOf (s.data.toList.take i)) 2 + 1) = (((s.data.toList.take i).count 99 + 1 : Nat) : Int)) := ⟨by
        show wrap64 ((((s.data.toList.take i).count 99 : Nat) : Int) + 1) = _
        rw [w64 (by omega) (by omega)]; omega⟩
      rw [e2.out]
      refine Ev.pos (by omega) (Ev.pos (by simp [lcOf]) ?_)
      simpa [lcOf, List.count_append, List.count_cons] using ih
theorem wdLetters_ev (s : ByteArray) (hs : s.size ≤ 8) (ha : s.data.toList.all isLetter = true) : Ev (fun k => spec_wdLetters.f k s) (lcOf s.data.toList) := by
  unfold spec_wdLetters.f
  exact Ev.pos (by omega) (wdLetters_l0 s hs ha s.data.toList.length 0 (by omega))
theorem lettersOf_ev (s : ByteArray) : Ev (fun k => impl_lettersOf.f k s) (lcOf s.data.toList) := by
  have e1 : wrap64 (0 + 1) = 1 := by rw [w64 (by omega) (by omega)]; rfl
  have e2 : wrap64 (1 + 1) = 2 := by rw [w64 (by omega) (by omega)]; rfl
  have e3 : wrap64 (2 + 1) = 3 := by rw [w64 (by omega) (by omega)]; rfl
  unfold impl_lettersOf.f
  refine Ev.succ ?_
  simp only [impl_lettersOf.l0, e1]
  refine Ev.pos (by decide) (Ev.pos (by decide) (Ev.pos (by decide) (Ev.pos (by decide) (Ev.known (a := ((s.data.toList.count 97 : Nat) : Int)) (fun _ => rfl) (Ev.pos (by simp) ?_)))))
  refine Ev.succ ?_
  simp only [impl_lettersOf.l0, e2]
  refine Ev.pos (by decide) (Ev.pos (by decide) (Ev.pos (by decide) (Ev.pos (by decide) (Ev.known (a := ((s.data.toList.count 98 : Nat) : Int)) (fun _ => rfl) (Ev.pos (by simp) ?_)))))
  refine Ev.succ ?_
  simp only [impl_lettersOf.l0, e3]
  refine Ev.pos (by decide) (Ev.pos (by decide) (Ev.pos (by decide) (Ev.pos (by decide) (Ev.known (a := ((s.data.toList.count 99 : Nat) : Int)) (fun _ => rfl) (Ev.pos (by simp) ?_)))))
  refine Ev.succ ?_
  simp only [impl_lettersOf.l0]
  exact Ev.neg (by decide) (Ev.now _)

theorem impl_lc_l0 (l : List ByteArray) (hl : IsSet l) : ∀ (d i : Nat), i + d = l.length → Ev (fun k => impl_LetterCounts.l0 k ((l.take i).map fun s => lcOf s.data.toList) l (l.length : Int) (i : Int)) (l.map fun s => lcOf s.data.toList, true)
  | 0, i, hd => Ev.succ (by simp only [impl_LetterCounts.l0]; exact Ev.neg (by omega) (Ev.pure (by rw [List.take_of_length_le (by omega)])))
  | d + 1, i, hd => by
    have h1 : i < l.length := by omega
    have h12 := hl.few
    have ih := impl_lc_l0 l hl d (i + 1) (by omega)
    rw [List.take_succ_eq_append_getElem h1, List.map_append] at ih
    refine Ev.succ ?_
    simp only [impl_LetterCounts.l0, rdOf_nat l i h1, w1 (show 0 ≤ (i : Int) by omega) (show (i : Int) < 9223372036854775807 by omega)]
    exact Ev.pos (by omega) (Ev.pos (by omega) (Ev.pos (by omega) (Ev.bind (lettersOf_ev _) (Ev.pos (by rw [List.length_map, List.length_take]; omega) ih))))

theorem szS_from (b : Int) (hb0 : 0 ≤ b) (hb : b ≤ 1048576) (l : List ByteArray) (hl : l.length ≤ maxLen) (hs : ∀ s ∈ l, s.size ≤ maxLen) : ∃ r, Ev (fun k => laws_szStringS.f k l b) r ∧ (0 ≤ r → l.length ≤ 1048576 ∧ r ≤ 1048576 ∧ ∀ s ∈ l, s.size ≤ 1048576) := by
  have hm := maxLen_le
  have e : Aside0 (wrap64 (b - (l.length : Int)) = b - (l.length : Int)) := ⟨w64 (by omega) (by omega)⟩
  unfold laws_szStringS.f
  rw [e.out]
  by_cases hc : b - (l.length : Int) < 0
  · exact ⟨-1, Ev.pos hc (Ev.now _), fun h => by omega⟩
  · obtain ⟨r, hr, hh⟩ := szS_l0 l (by omega) (fun s h => Nat.le_trans (hs s h) hm) l.length 0 (b - (l.length : Int)) (by omega) (by omega) (by omega)
    exact ⟨r, Ev.neg hc hr, fun h => ⟨by omega, (hh h).1, by simpa using (hh h).2⟩⟩

/-- the counts of a set's words -/
def rowsOf (l : List ByteArray) : List (List Int) := l.map fun s => lcOf s.data.toList
/-- counts -/
def IsRow (x : List Int) : Prop := ∃ a b c : Int, x = [a, b, c] ∧ 0 ≤ a ∧ a ≤ 8 ∧ 0 ≤ b ∧ b ≤ 8 ∧ 0 ≤ c ∧ c ≤ 8
/-- a number for counts -/
def keyR (x : List Int) : Int := x.getD 0 0 * 10000 + x.getD 1 0 * 100 + x.getD 2 0
theorem key_inj {x y : List Int} (hx : IsRow x) (hy : IsRow y) (h : keyR x = keyR y) : x = y := by
  obtain ⟨a, b, c, rfl, h1, h2, h3, h4, h5, h6⟩ := hx
  obtain ⟨d, e, f, rfl, g1, g2, g3, g4, g5, g6⟩ := hy
  unfold keyR at h
  simp only [List.getD_cons_zero, List.getD_cons_succ] at h
  obtain rfl : a = d := by omega
  obtain rfl : b = e := by omega
  obtain rfl : c = f := by omega
  rfl
theorem isRow_of (l : List ByteArray) (hl : IsSet l) : ∀ x ∈ rowsOf l, IsRow x := fun x hx => by
  obtain ⟨s, hs, rfl⟩ := List.mem_map.1 hx
  have hz := hl.size s hs
  have hn : ∀ c : UInt8, s.data.toList.count c ≤ 8 := fun c => Nat.le_trans List.count_le_length (by rw [← size_data]; exact hz.2)
  have n1 := hn 97
  have n2 := hn 98
  have n3 := hn 99
  exact ⟨_, _, _, rfl, by omega, by omega, by omega, by omega, by omega, by omega⟩
def c1 (a d : Int) : Int := if a < d then -1 else if a > d then 1 else 0
theorem cmpI (a d : Int) : cmp_Compare_int.f a d = some (c1 a d) := by
  have hn : ∀ x : Int, cmp_isNaN_int.f x = some false := fun x => by simp [cmp_isNaN_int.f]
  unfold cmp_Compare_int.f c1
  simp only [hn, Option.bind_some]
  rw [if_neg (by simp), if_neg (by simp)]
  split
  · rfl
  · split <;> rfl
theorem cmp_rows {x y : List Int} (hx : IsRow x) (hy : IsRow y) : ∃ c, slices_Compare_int_int.f 4 x y = some c ∧ (c < 0 ↔ keyR x < keyR y) := by
  obtain ⟨a, b, c, rfl, h1, h2, h3, h4, h5, h6⟩ := hx
  obtain ⟨d, e, f, rfl, g1, g2, g3, g4, g5, g6⟩ := hy
  have w0 : wrap64 (0 + 1) = 1 := w64 (by omega) (by omega)
  have w1' : wrap64 (1 + 1) = 2 := w64 (by omega) (by omega)
  have w2 : wrap64 (2 + 1) = 3 := w64 (by omega) (by omega)
  have r0 : rd [a, b, c] 0 = a := rfl
  have r1 : rd [a, b, c] 1 = b := rfl
  have r2 : rd [a, b, c] 2 = c := rfl
  have s0 : rd [d, e, f] 0 = d := rfl
  have s1 : rd [d, e, f] 1 = e := rfl
  have s2 : rd [d, e, f] 2 = f := rfl
  have hl : ((([a, b, c] : List Int).length : Nat) : Int) = 3 := rfl
  have hl2 : ((([d, e, f] : List Int).length : Nat) : Int) = 3 := rfl
  unfold slices_Compare_int_int.f keyR
  simp only [slices_Compare_int_int.l0, hl, hl2, cmpI, Option.bind_some, w0, w1', w2, r0, r1, r2, s0, s1, s2, List.getD_cons_zero, List.getD_cons_succ]
  by_cases q1 : c1 a d = 0
  · have e1 : a = d := by unfold c1 at q1; split at q1 <;> first | omega | (split at q1 <;> omega)
    by_cases q2 : c1 b e = 0
    · have e2 : b = e := by unfold c1 at q2; split at q2 <;> first | omega | (split at q2 <;> omega)
      by_cases q3 : c1 c f = 0
      · have e3 : c = f := by unfold c1 at q3; split at q3 <;> first | omega | (split at q3 <;> omega)
        refine ⟨0, by simp [q1, q2, q3], by omega⟩
      · refine ⟨c1 c f, by simp [q1, q2, q3], ?_⟩
        unfold c1 at q3 ⊢
        split
        · omega
        · split <;> omega
    · refine ⟨c1 b e, by simp [q1, q2], ?_⟩
      unfold c1 at q2 ⊢
      split
      · omega
      · split <;> omega
  · refine ⟨c1 a d, by simp [q1], ?_⟩
    unfold c1 at q1 ⊢
    split
    · omega
    · split <;> omega
theorem rowsOk_of (rows : List (List Int)) (h12 : rows.length ≤ 12) (hr : ∀ x ∈ rows, IsRow x) : rowsOk rows = true := by
  unfold rowsOk
  rw [Bool.and_eq_true]
  refine ⟨decide_eq_true h12, List.all_eq_true.2 fun x hx => List.all_eq_true.2 fun y hy => ?_⟩
  obtain ⟨c, hc, -⟩ := cmp_rows (hr x hx) (hr y hy)
  rw [hc]; rfl
theorem sort_props (rows : List (List Int)) (hr : ∀ x ∈ rows, IsRow x) : (sortRows rows).Perm rows ∧ (sortRows rows).Pairwise fun x y => keyR x ≤ keyR y := by
  unfold sortRows
  by_cases h0 : rows.length = 0
  · rw [if_pos h0, List.eq_nil_of_length_eq_zero h0]
    exact ⟨List.Perm.refl _, List.Pairwise.nil⟩
  · rw [if_neg h0]
    obtain ⟨n, hn⟩ : ∃ n, rows.length = n + 1 := ⟨rows.length - 1, by omega⟩
    rw [show rows.length - 1 = n by omega]
    have hmem : ∀ i : Fin (n + 1), IsRow (rows.getD i.val []) := fun i => by
      have : i.val < rows.length := by rw [hn]; exact i.isLt
      rw [List.getD_eq_getElem?_getD, List.getElem?_eq_getElem this, Option.getD_some]
      exact hr _ (List.getElem_mem this)
    have hlt : ∀ i j : Fin (n + 1), ltOf (cmpR rows) i j = decide (keyR (rows.getD i.val []) < keyR (rows.getD j.val [])) := fun i j => by
      obtain ⟨c, hc, hk⟩ := cmp_rows (hmem i) (hmem j)
      unfold ltOf cmpR cmpL
      rw [hc]
      exact decide_eq_decide.2 hk
    have hswo : Sort.SWO (ltOf (cmpR rows) : Fin (n + 1) → Fin (n + 1) → Bool) := ⟨fun x => by rw [hlt]; exact decide_eq_false (by omega), fun x y z h1 h2 => by
      rw [hlt] at h1 h2 ⊢
      have := of_decide_eq_true h1
      have := of_decide_eq_true h2
      exact decide_eq_true (by omega), fun x y z h1 h2 => by
      rw [hlt] at h1 h2 ⊢
      have := of_decide_eq_false h1
      have := of_decide_eq_false h2
      exact decide_eq_false (by omega)⟩
    obtain ⟨⟨hsz, -, hp⟩, hs⟩ := Sort.insertionSort_holds hswo (allP n) 0 (allP n).size (Nat.zero_le _) (Nat.le_refl _)
    have hd := idxR_size n rows
    have ha := allP_size n
    change (idxR n rows).size = _ at hsz
    change ((idxR n rows).extract 0 (allP n).size).toList.Perm _ at hp
    change Sort.SortedIn _ 0 (allP n).size (idxR n rows) at hs
    have x1 : (idxR n rows).extract 0 (allP n).size = idxR n rows := by rw [← hsz]; exact Array.extract_size
    rw [x1, Array.extract_size] at hp
    have hall : ((allP n).toList.map fun i : Fin (n + 1) => rows.getD i.val []) = rows := by
      apply List.ext_getElem
      · simp [allP, hn]
      · intro j h1 h2
        simp only [allP, List.getElem_map, Array.getElem_toList, Array.getElem_ofFn, id, List.getD_eq_getElem?_getD, List.getElem?_eq_getElem h2, Option.getD_some]
    refine ⟨by have := hp.map (fun i : Fin (n + 1) => rows.getD i.val []); rw [hall] at this; exact this, ?_⟩
    rw [List.pairwise_map, List.pairwise_iff_getElem]
    intro i j hi hj hij
    have h9 := hs i j (Nat.zero_le _) hij (by rw [ha]; rw [Array.length_toList, hd] at hj; exact hj)
    rw [Array.length_toList] at hi hj
    rw [hlt, getElem!_pos (idxR n rows) i hi, getElem!_pos (idxR n rows) j hj] at h9
    have := of_decide_eq_false h9
    simp only [Array.getElem_toList]
    omega
theorem perm_sorted : ∀ (A B : List (List Int)), A.Perm B → (∀ x ∈ A, IsRow x) → A.Pairwise (fun x y => keyR x ≤ keyR y) → B.Pairwise (fun x y => keyR x ≤ keyR y) → A = B
  | [], B, h, _, _, _ => (List.nil_perm.1 h).symm
  | a :: A, [], h, _, _, _ => absurd h.length_eq (by simp)
  | a :: A, b :: B, h, hr, h1, h2 => by
    have ha : a ∈ b :: B := h.subset (List.mem_cons_self ..)
    have hb : b ∈ a :: A := h.symm.subset (List.mem_cons_self ..)
    have k1 : keyR b ≤ keyR a := by
      rcases List.mem_cons.1 ha with rfl | h9
      · omega
      · exact (List.pairwise_cons.1 h2).1 a h9
    have k2 : keyR a ≤ keyR b := by
      rcases List.mem_cons.1 hb with rfl | h9
      · omega
      · exact (List.pairwise_cons.1 h1).1 b h9
    obtain rfl : a = b := key_inj (hr a (List.mem_cons_self ..)) (hr b hb) (by omega)
    rw [perm_sorted A B h.cons_inv (fun x hx => hr x (List.mem_cons_of_mem _ hx)) (List.pairwise_cons.1 h1).2 (List.pairwise_cons.1 h2).2]
theorem perm_of_count : ∀ (A B : List (List Int)), A.length = B.length → (∀ x ∈ A, A.count x = B.count x) → A.Perm B
  | [], B, hl, _ => by
    have hB : B = [] := List.eq_nil_of_length_eq_zero (by simpa using hl.symm)
    subst hB
    exact List.Perm.refl _
  | a :: A, B, hl, hc => by
    have h1 := hc a (List.mem_cons_self ..)
    rw [List.count_cons_self] at h1
    have hm : a ∈ B := List.count_pos_iff.1 (by omega)
    refine (List.Perm.cons a (perm_of_count A (B.erase a) (by rw [List.length_erase_of_mem hm]; simp at hl; omega) fun x hx => ?_)).trans (List.perm_cons_erase hm).symm
    have h2 := hc x (List.mem_cons_of_mem _ hx)
    rw [List.count_erase]
    rw [List.count_cons] at h2
    by_cases e : x = a
    · subst e; simp at h2 ⊢; omega
    · have e2 : (a == x) = false := beq_eq_false_iff_ne.2 fun q => e q.symm
      have e3 : (x == a) = false := beq_eq_false_iff_ne.2 e
      simp only [e2, e3] at h2 ⊢
      simpa using h2
/-- whether two sets are letter alike -/
def alike (A B : List (List Int)) : Bool := decide (A.length = B.length) && A.all fun x => decide (A.count x = B.count x)
theorem alike_sorted (A B : List (List Int)) (ha : ∀ x ∈ A, IsRow x) (hb : ∀ x ∈ B, IsRow x) : decide (sortRows A = sortRows B) = alike A B := by
  obtain ⟨p1, s1⟩ := sort_props A ha
  obtain ⟨p2, s2⟩ := sort_props B hb
  rw [Bool.eq_iff_iff]
  unfold alike
  rw [decide_eq_true_eq, Bool.and_eq_true, decide_eq_true_eq, List.all_eq_true]
  constructor
  · intro e
    have hp : A.Perm B := p1.symm.trans (e ▸ p2)
    exact ⟨hp.length_eq, fun x _ => decide_eq_true (hp.count_eq x)⟩
  · rintro ⟨hl, hc⟩
    have hp := perm_of_count A B hl fun x hx => of_decide_eq_true (hc x hx)
    exact perm_sorted _ _ (p1.trans (hp.trans p2.symm)) (fun x hx => ha x (p1.subset hx)) s1 s2
theorem eqRow_l0 (x y : List Int) (hl : x.length = y.length) (h3 : x.length ≤ 1000) : ∀ (d i : Nat), i + d = x.length → Ev (fun k => slices_Equal_int_int.l0 k x y (x.length : Int) (i : Int)) (decide (x.drop i = y.drop i))
  | 0, i, hd => Ev.succ (by
      simp only [slices_Equal_int_int.l0]
      refine Ev.neg (by omega) (Ev.pure ?_)
      rw [List.drop_of_length_le (by omega), List.drop_of_length_le (by omega)]; rfl)
  | d + 1, i, hd => by
    have ih := eqRow_l0 x y hl h3 d (i + 1) (by omega)
    have e1 := rd_nat x i (by omega)
    have e2 := rd_nat y i (by omega)
    rw [List.drop_eq_getElem_cons (show i < x.length by omega), List.drop_eq_getElem_cons (show i < y.length by omega)]
    refine Ev.succ ?_
    simp only [slices_Equal_int_int.l0, e1, e2, w1 (show 0 ≤ (i : Int) by omega) (show (i : Int) < 9223372036854775807 by omega)]
    refine Ev.pos (by omega) (Ev.pos (by omega) (Ev.pos (by omega) (Ev.pos (by omega) (Ev.cases (fun h => ?_) (fun h => ?_)))))
    · rw [h, show decide (y[i] :: x.drop (i + 1) = y[i] :: y.drop (i + 1)) = decide (x.drop (i + 1) = y.drop (i + 1)) from decide_eq_decide.2 ⟨fun q => (List.cons.inj q).2, fun q => by rw [q]⟩]
      exact ih
    · exact Ev.pure (by rw [decide_eq_false]; intro q; exact h (List.cons.inj q).1)
theorem eqRow_ev (x y : List Int) (h1 : x.length ≤ 1000) (h2 : y.length ≤ 1000) : Ev (fun k => slices_Equal_int_int.f k x y) (decide (x = y)) := by
  unfold slices_Equal_int_int.f
  by_cases h : x.length = y.length
  · refine Ev.pos (by omega) ?_
    simpa using eqRow_l0 x y h h1 x.length 0 (by omega)
  · exact Ev.neg (by omega) (Ev.pure (by rw [decide_eq_false]; intro q; exact h (by rw [q])))
theorem rd_L3_nat (l : List (List Int)) (i : Nat) (h : i < l.length) : rd_L3 l (i : Int) = l[i] := by
  unfold rd_L3; simp [List.getD_eq_getElem?_getD, h]
theorem eqRows_l0 (x y : List (List Int)) (hl : x.length = y.length) (h3 : x.length ≤ 1000) (hx : ∀ r ∈ x, r.length ≤ 1000) (hy : ∀ r ∈ y, r.length ≤ 1000) : ∀ (d i : Nat), i + d = x.length → Ev (fun k => slices_EqualFunc_int_int_int_int__at_slices_Equal_int_int.l0 k y x (x.length : Int) (i : Int)) (decide (x.drop i = y.drop i))
  | 0, i, hd => Ev.succ (by
      simp only [slices_EqualFunc_int_int_int_int__at_slices_Equal_int_int.l0]
      refine Ev.neg (by omega) (Ev.pure ?_)
      rw [List.drop_of_length_le (by omega), List.drop_of_length_le (by omega)]; rfl)
  | d + 1, i, hd => by
    have ih := eqRows_l0 x y hl h3 hx hy d (i + 1) (by omega)
    have l1 : i < x.length := by omega
    have l2 : i < y.length := by omega
    have e1 := rd_L3_nat x i l1
    have e2 := rd_L3_nat y i l2
    have he := eqRow_ev x[i] y[i] (hx _ (List.getElem_mem l1)) (hy _ (List.getElem_mem l2))
    rw [List.drop_eq_getElem_cons l1, List.drop_eq_getElem_cons l2]
    refine Ev.succ ?_
    simp only [slices_EqualFunc_int_int_int_int__at_slices_Equal_int_int.l0, e1, e2, w1 (show 0 ≤ (i : Int) by omega) (show (i : Int) < 9223372036854775807 by omega)]
    refine Ev.pos (by omega) (Ev.pos (by omega) (Ev.pos (by omega) (Ev.pos (by omega) (Ev.bind he (Ev.cases (fun h => ?_) (fun h => ?_))))))
    · rw [of_decide_eq_true h, show decide (y[i] :: x.drop (i + 1) = y[i] :: y.drop (i + 1)) = decide (x.drop (i + 1) = y.drop (i + 1)) from decide_eq_decide.2 ⟨fun q => (List.cons.inj q).2, fun q => by rw [q]⟩]
      exact ih
    · exact Ev.pure (by rw [decide_eq_false]; intro q; exact h (decide_eq_true (List.cons.inj q).1))
theorem eqRows_ev (x y : List (List Int)) (h1 : x.length ≤ 1000) (hx : ∀ r ∈ x, r.length ≤ 1000) (hy : ∀ r ∈ y, r.length ≤ 1000) : Ev (fun k => slices_EqualFunc_int_int_int_int__at_slices_Equal_int_int.f k x y) (decide (x = y)) := by
  unfold slices_EqualFunc_int_int_int_int__at_slices_Equal_int_int.f
  by_cases h : x.length = y.length
  · refine Ev.pos (by omega) ?_
    simpa using eqRows_l0 x y h h1 hx hy x.length 0 (by omega)
  · exact Ev.neg (by omega) (Ev.pure (by rw [decide_eq_false]; intro q; exact h (by rw [q])))
theorem rowsOf_length (l : List ByteArray) : (rowsOf l).length = l.length := List.length_map _
theorem sorted_ev (l : List ByteArray) (hl : l.length ≤ 1048576) (hs : IsSet l) (hb : Ev (fun k => impl_isSet.f k l) true) : Ev (fun k => impl_sortedCounts.f k l) (sortRows (rowsOf l)) := by
  unfold impl_sortedCounts.f
  have h1 : Ev (fun k => impl_LetterCounts.f k l) (rowsOf l, true) := by
    unfold impl_LetterCounts.f
    exact Ev.bind hb (Ev.pos rfl (by simpa [rowsOf] using impl_lc_l0 l hs l.length 0 (by omega)))
  exact Ev.bind h1 (Ev.pos (rowsOk_of _ (by rw [rowsOf_length]; exact hs.few) (isRow_of l hs)) (Ev.now _))
theorem isRow_len {x : List Int} (h : IsRow x) : x.length ≤ 1000 := by obtain ⟨a, b, c, rfl, -⟩ := h; simp
theorem same_l0 (x y : List Int) (hl : x.length = y.length) (h3 : x.length ≤ 1000) : ∀ (d i : Nat), i + d = x.length → Ev (fun k => spec_l1Same.l0 k x y (x.length : Int) (i : Int)) (decide (x.drop i = y.drop i))
  | 0, i, hd => Ev.succ (by
      simp only [spec_l1Same.l0]
      refine Ev.neg (by omega) (Ev.pure ?_)
      rw [List.drop_of_length_le (by omega), List.drop_of_length_le (by omega)]; rfl)
  | d + 1, i, hd => by
    have ih := same_l0 x y hl h3 d (i + 1) (by omega)
    have e1 := rd_nat x i (by omega)
    have e2 := rd_nat y i (by omega)
    rw [List.drop_eq_getElem_cons (show i < x.length by omega), List.drop_eq_getElem_cons (show i < y.length by omega)]
    refine Ev.succ ?_
    simp only [spec_l1Same.l0, e1, e2, w1 (show 0 ≤ (i : Int) by omega) (show (i : Int) < 9223372036854775807 by omega)]
    refine Ev.pos (by omega) (Ev.pos (by omega) (Ev.pos (by omega) (Ev.pos (by omega) (Ev.cases (fun h => ?_) (fun h => ?_)))))
    · rw [h, show decide (y[i] :: x.drop (i + 1) = y[i] :: y.drop (i + 1)) = decide (x.drop (i + 1) = y.drop (i + 1)) from decide_eq_decide.2 ⟨fun q => (List.cons.inj q).2, fun q => by rw [q]⟩]
      exact ih
    · exact Ev.pure (by rw [decide_eq_false]; intro q; exact h (List.cons.inj q).1)
theorem same_ev (x y : List Int) (h1 : x.length ≤ 1000) (h2 : y.length ≤ 1000) : Ev (fun k => spec_l1Same.f k x y) (decide (x = y)) := by
  unfold spec_l1Same.f
  by_cases h : x.length = y.length
  · refine Ev.pos (by omega) ?_
    simpa using same_l0 x y h h1 x.length 0 (by omega)
  · exact Ev.neg (by omega) (Ev.pure (by rw [decide_eq_false]; intro q; exact h (by rw [q])))
theorem letters_ev (l : List ByteArray) (hs : IsSet l) (i : Nat) (h : i < l.length) : Ev (fun k => spec_wdLetters.f k l[i]) (lcOf l[i].data.toList) := by
  have h1 := hs.short _ (List.getElem_mem h)
  unfold Pure.short at h1
  simp only [Bool.and_eq_true, decide_eq_true_eq] at h1
  exact wdLetters_ev _ h1.1.2 h1.2
theorem lc_len (s : List UInt8) : (lcOf s).length ≤ 1000 := by simp [lcOf]
theorem rowsOf_at (l : List ByteArray) (i : Nat) (h : i < l.length) : (rowsOf l)[i]'(by rw [rowsOf_length]; exact h) = lcOf l[i].data.toList := List.getElem_map _
theorem count_step (R : List (List Int)) (x : List Int) (j : Nat) (h : j < R.length) : (R.take (j + 1)).count x = (R.take j).count x + (if R[j] = x then 1 else 0) := by
  rw [List.take_succ_eq_append_getElem h, List.count_append, List.count_singleton]
  congr 1
  by_cases e : R[j] = x
  · simp [e]
  · simp [e]
theorem spec_l1 (a b : List ByteArray) (ha : IsSet a) (hb : IsSet b) (hl : a.length = b.length) (s : ByteArray) (x : List Int) (hx : Ev (fun k => spec_wdLetters.f k s) x) (hx3 : x.length ≤ 1000) (l : List ByteArray) (n i : Nat) (R : Bool × Bool)
    (hnext : (rowsOf a).count x = (rowsOf b).count x → Ev (fun k => spec_AreLetterAlike.l0 k a b l (n : Int) (wrap64 ((i : Int) + 1))) R) (hno : (rowsOf a).count x ≠ (rowsOf b).count x → R = (false, true)) :
    ∀ (d j : Nat), j + d = a.length → Ev (fun k => spec_AreLetterAlike.l1 k a b s ((((rowsOf a).take j).count x : Int) - (((rowsOf b).take j).count x : Int)) l (n : Int) (i : Int) (a.length : Int) (j : Int)) R
  | 0, j, hd => Ev.succ (by
      simp only [spec_AreLetterAlike.l1]
      refine Ev.neg (by omega) ?_
      rw [List.take_of_length_le (by rw [rowsOf_length]; omega), List.take_of_length_le (by rw [rowsOf_length]; omega)]
      by_cases h : (rowsOf a).count x = (rowsOf b).count x
      · exact Ev.pos (by omega) (hnext h)
      · exact Ev.neg (by omega) (Ev.pure (hno h).symm))
  | d + 1, j, hd => by
    have ih := spec_l1 a b ha hb hl s x hx hx3 l n i R hnext hno d (j + 1) (by omega)
    have j1 : j < a.length := by omega
    have h12 := ha.few
    have j2 : j < b.length := by omega
    have c1' : ((rowsOf a).take j).count x ≤ 12 := Nat.le_trans List.count_le_length (by rw [List.length_take, rowsOf_length]; have := ha.few; omega)
    have c2' : ((rowsOf b).take j).count x ≤ 12 := Nat.le_trans List.count_le_length (by rw [List.length_take, rowsOf_length]; have := hb.few; omega)
    have ra := rowsOf_at a j j1
    have rb := rowsOf_at b j j2
    have ka := count_step (rowsOf a) x j (by rw [rowsOf_length]; exact j1)
    have kb := count_step (rowsOf b) x j (by rw [rowsOf_length]; exact j2)
    rw [ra] at ka
    rw [rb] at kb
    have sa := same_ev (lcOf a[j].data.toList) x (lc_len _) hx3
    have sb := same_ev (lcOf b[j].data.toList) x (lc_len _) hx3
    rw [ka, kb] at ih
    generalize ((rowsOf a).take j).count x = p at c1' ih
    generalize ((rowsOf b).take j).count x = q at c2' ih
    have e1 : Aside0 (wrap64 ((p : Int) - (q : Int) + 1) = (p : Int) - (q : Int) + 1) := ⟨w64 (by omega) (by omega)⟩
    have e2 : Aside0 (wrap64 ((p : Int) - (q : Int) - 1) = (p : Int) - (q : Int) - 1) := ⟨w64 (by omega) (by omega)⟩
    have e3 : Aside0 (wrap64 ((p : Int) - (q : Int) + 1 - 1) = (p : Int) - (q : Int)) := ⟨by rw [w64 (by omega) (by omega)]; omega⟩
    have hstep : ∀ z : Int, (z = (p : Int) - (q : Int) ∧ ¬ lcOf a[j].data.toList = x ∨ z = (p : Int) - (q : Int) + 1 ∧ lcOf a[j].data.toList = x) → Ev (fun k => spec_AreLetterAlike.j3 k a b s z (j : Int) l (n : Int) (i : Int) (a.length : Int) (j : Int)) R := fun z hz => by
      refine Ev.succ ?_
      simp only [spec_AreLetterAlike.j3, rdOf_nat b j j2, w1 (show 0 ≤ (j : Int) by omega) (show (j : Int) < 9223372036854775807 by omega)]
      refine Ev.pos (by omega) (Ev.pos (by omega) (Ev.bind (letters_ev b hb j j2) (Ev.bind hx (Ev.bind sb (Ev.cases (fun h => ?_) (fun h => ?_))))))
      · have hbx := of_decide_eq_true h
        rw [if_pos hbx] at ih
        rcases hz with ⟨rfl, hax⟩ | ⟨rfl, hax⟩
        · rw [if_neg hax] at ih
          rw [e2.out]
          rw [show (p : Int) - (q : Int) - 1 = ((p + 0 : Nat) : Int) - ((q + 1 : Nat) : Int) by omega]
          exact ih
        · rw [if_pos hax] at ih
          rw [e3.out]
          rw [show (p : Int) - (q : Int) = ((p + 1 : Nat) : Int) - ((q + 1 : Nat) : Int) by omega]
          exact ih
      · have hbx : ¬ lcOf b[j].data.toList = x := fun e => h (decide_eq_true e)
        rw [if_neg hbx] at ih
        rcases hz with ⟨rfl, hax⟩ | ⟨rfl, hax⟩
        · rw [if_neg hax] at ih
          rw [show (p : Int) - (q : Int) = ((p + 0 : Nat) : Int) - ((q + 0 : Nat) : Int) by omega]
          exact ih
        · rw [if_pos hax] at ih
          rw [show (p : Int) - (q : Int) + 1 = ((p + 1 : Nat) : Int) - ((q + 0 : Nat) : Int) by omega]
          exact ih
    refine Ev.succ ?_
    simp only [spec_AreLetterAlike.l1, rdOf_nat a j j1, e1.out]
    refine Ev.pos (by omega) (Ev.pos (by omega) (Ev.pos (by omega) (Ev.bind (letters_ev a ha j j1) (Ev.bind hx (Ev.bind sa (Ev.cases (fun h => ?_) (fun h => ?_)))))))
    · exact hstep _ (Or.inr ⟨rfl, of_decide_eq_true h⟩)
    · exact hstep _ (Or.inl ⟨rfl, fun e => h (decide_eq_true e)⟩)
theorem spec_l0 (a b : List ByteArray) (ha : IsSet a) (hb : IsSet b) (hl : a.length = b.length) : ∀ (d i : Nat), i + d = a.length → Ev (fun k => spec_AreLetterAlike.l0 k a b a (a.length : Int) (i : Int)) (((rowsOf a).drop i).all (fun x => decide ((rowsOf a).count x = (rowsOf b).count x)), true)
  | 0, i, hd => Ev.succ (by
      simp only [spec_AreLetterAlike.l0]
      exact Ev.neg (by omega) (Ev.pure (by rw [List.drop_of_length_le (by rw [rowsOf_length]; omega)]; rfl)))
  | d + 1, i, hd => by
    have h1 : i < a.length := by omega
    have h12 := ha.few
    have ih := spec_l0 a b ha hb hl d (i + 1) (by omega)
    have ra := rowsOf_at a i h1
    have e1 := w1 (show 0 ≤ (i : Int) by omega) (show (i : Int) < 9223372036854775807 by omega)
    rw [List.drop_eq_getElem_cons (by rw [rowsOf_length]; exact h1), List.all_cons, ra]
    have hh := spec_l1 a b ha hb hl a[i] (lcOf a[i].data.toList) (letters_ev a ha i h1) (lc_len _) a a.length i (decide ((rowsOf a).count (lcOf a[i].data.toList) = (rowsOf b).count (lcOf a[i].data.toList)) && ((rowsOf a).drop (i + 1)).all (fun x => decide ((rowsOf a).count x = (rowsOf b).count x)), true) (fun h => by
      rw [decide_eq_true h, Bool.true_and, e1]; exact ih) (fun h => by rw [decide_eq_false h, Bool.false_and]) a.length 0 (by omega)
    refine Ev.succ ?_
    simp only [spec_AreLetterAlike.l0, rdOf_nat a i h1]
    exact Ev.pos (by omega) (Ev.pos (by omega) (Ev.pos (by omega) (by simpa using hh)))
theorem ala_same (a b : List ByteArray) (hla : a.length ≤ 1048576) (hlb : b.length ≤ 1048576) : ∃ R, Ev (fun k => spec_AreLetterAlike.f k a b) R ∧ Ev (fun k => impl_AreLetterAlike.f k a b) R := by
  obtain ⟨b1, s1, i1, h1⟩ := isSet_same a hla
  obtain ⟨b2, s2, i2, h2⟩ := isSet_same b hlb
  unfold spec_AreLetterAlike.f impl_AreLetterAlike.f
  cases b1 with
  | false =>
    refine ⟨(false, false), Ev.bind s1 (Ev.neg (by simp) (Ev.succ ?_)), Ev.bind i1 (Ev.neg (by simp) (Ev.succ ?_))⟩
    · simp only [spec_AreLetterAlike.j0]; exact Ev.pos trivial (Ev.now _)
    · simp only [impl_AreLetterAlike.j0]; exact Ev.pos trivial (Ev.now _)
  | true =>
    cases b2 with
    | false =>
      refine ⟨(false, false), Ev.bind s1 (Ev.pos rfl (Ev.bind s2 (Ev.succ ?_))), Ev.bind i1 (Ev.pos rfl (Ev.bind i2 (Ev.succ ?_)))⟩
      · simp only [spec_AreLetterAlike.j0]; exact Ev.pos rfl (Ev.now _)
      · simp only [impl_AreLetterAlike.j0]; exact Ev.pos rfl (Ev.now _)
    | true =>
      have ha := h1 rfl
      have hb := h2 rfl
      have hra := isRow_of a ha
      have hrb := isRow_of b hb
      obtain ⟨p1, -⟩ := sort_props (rowsOf a) hra
      obtain ⟨p2, -⟩ := sort_props (rowsOf b) hrb
      have heq := eqRows_ev (sortRows (rowsOf a)) (sortRows (rowsOf b)) (by rw [p1.length_eq, rowsOf_length]; have := ha.few; omega) (fun r hr => isRow_len (hra r (p1.subset hr))) (fun r hr => isRow_len (hrb r (p2.subset hr)))
      rw [alike_sorted _ _ hra hrb] at heq
      refine ⟨(alike (rowsOf a) (rowsOf b), true), Ev.bind s1 (Ev.pos rfl (Ev.bind s2 (Ev.succ ?_))), Ev.bind i1 (Ev.pos rfl (Ev.bind i2 (Ev.succ ?_)))⟩
      · simp only [spec_AreLetterAlike.j0]
        refine Ev.neg (by simp) ?_
        unfold alike
        rw [rowsOf_length, rowsOf_length]
        by_cases hl : a.length = b.length
        · rw [decide_eq_true hl, Bool.true_and]
          exact Ev.pos (by omega) (by simpa using spec_l0 a b ha hb hl a.length 0 (by omega))
        · rw [decide_eq_false hl, Bool.false_and]
          exact Ev.neg (by omega) (Ev.now _)
      · simp only [impl_AreLetterAlike.j0]
        exact Ev.neg (by simp) (Ev.bind (sorted_ev a hla ha i1) (Ev.bind (sorted_ev b hlb hb i2) (Ev.bind heq (Ev.now _))))
theorem FnExactAreLetterAlike : laws_FnExactAreLetterAlike.Pure := by
  intro l0 l1 hl0 hs0 hl1 hs1
  refine Ev.rounds ?_
  unfold laws_FnExactAreLetterAlike.f
  obtain ⟨z, hz, hzz⟩ := szS_ev l0 hl0 hs0
  refine Ev.bind hz (Ev.cases (fun _ => Ev.now _) (fun hzn => ?_))
  obtain ⟨h0, hz1, -⟩ := hzz (by omega)
  obtain ⟨z2, hy, hyy⟩ := szS_from z (by omega) hz1 l1 hl1 hs1
  refine Ev.bind hy (Ev.cases (fun _ => Ev.now _) (fun hyn => ?_))
  obtain ⟨h1, -⟩ := hyy (by omega)
  obtain ⟨R, e1, e2⟩ := ala_same l0 l1 h0 h1
  refine Ev.bind (toS_ev l0 h0) (Ev.bind (toS_ev l1 h1) (Ev.bind e1 (Ev.bind (toS_ev l0 h0) (Ev.bind (toS_ev l1 h1) (Ev.bind e2 (Ev.neg (by simp) (Ev.succ ?_)))))))
  simp only [laws_FnExactAreLetterAlike.j0, bne_self_eq_false]
  exact Ev.neg (by simp) (Ev.bind (toS_ev l0 h0) (Ev.bind (eqS_ev l0 h0) (Ev.pos rfl (Ev.bind (toS_ev l1 h1) (Ev.bind (eqS_ev l1 h1) (Ev.pos rfl (Ev.now _)))))))
end Go.Proofs.YtfmkhjoelcbnnaaDoor.Pure
