/- CountByLetters of the program and of the reference answer alike for all arguments, and leave them as they were: no condition. -/
import Derived.Test.YtfmkhjoelcbnnaaDoorXFnExactCountByLettersxp
import Derived.Sort.LotA
namespace Go.Proofs.YtfmkhjoelcbnnaaDoor.Pure
set_option linter.unusedSimpArgs false
set_option linter.unusedVariables false
open Go.RowKit Go.Proofs.YtfmkhjoelcbnnaaDoor.Hand Go.Proofs.YtfmkhjoelcbnnaaDoor.XFnExactCountByLetters Go.Proofs.YtfmkhjoelcbnnaaDoorW.PrintWords Go.Proofs.YtfmkhjoelcbnnaaDoorW.PrintLast Go.Proofs.YtfmkhjoelcbnnaaDoorW.PrintMore

theorem w1 {i : Int} (h0 : 0 ≤ i) (h : i < 9223372036854775807) : wrap64 (i + 1) = i + 1 := by unfold wrap64; omega
theorem w64 {i : Int} (h0 : -9223372036854775808 ≤ i) (h : i < 9223372036854775808) : wrap64 i = i := by unfold wrap64; omega
theorem rd_nat (l : List Int) (i : Nat) (h : i < l.length) : rd l (i : Int) = l[i] := by
  unfold rd; simp [List.getD_eq_getElem?_getD, h]
theorem Ev.pos {α : Type} {c : Prop} [Decidable c] {g g' : Nat → Option α} {r : α} (h : c) (k : Ev g r) : Ev (fun n => if c then g n else g' n) r :=
  Ev.congr (fun n => if_pos h) k
theorem Ev.neg {α : Type} {c : Prop} [Decidable c] {g g' : Nat → Option α} {r : α} (h : ¬ c) (k : Ev g' r) : Ev (fun n => if c then g n else g' n) r :=
  Ev.congr (fun n => if_neg h) k
theorem Ev.cases {α : Type} {c : Prop} [Decidable c] {g g' : Nat → Option α} {r : α} (h : c → Ev g r) (k : ¬ c → Ev g' r) : Ev (fun n => if c then g n else g' n) r := by
  by_cases e : c
  · exact Ev.pos e (h e)
  · exact Ev.neg e (k e)
/-- a call whose answer is known at every number of rounds -/
theorem Ev.known {α β : Type} {g : Nat → Option α} {f : Nat → α → Option β} {a : α} {r : β} (h : ∀ n, g n = some a) (k : Ev (fun n => f n a) r) : Ev (fun n => (g n).bind (f n)) r :=
  Ev.bind ⟨0, fun n _ => h n⟩ k
/-- one bind of two, joined with what follows -/
theorem Ev.pure {α : Type} {r q : α} (h : r = q) : Ev (fun _ => some r) q := h ▸ Ev.now r
theorem Ev.succ {α : Type} {g : Nat → Option α} {r : α} (h : Ev (fun k => g (k + 1)) r) : Ev g r := Ev.step (f := fun k => g (k + 1)) (fun _ => rfl) h

theorem rdOf_nat (l : List ByteArray) (i : Nat) (h : i < l.length) : rdOf ByteArray.empty l (i : Int) = l[i] := by
  unfold rdOf; simp [List.getD_eq_getElem?_getD, h]

theorem maxLen_le : maxLen ≤ 9223372036854775807 := by unfold maxLen; omega
theorem szS_l0 (l : List ByteArray) (hl : l.length ≤ 9223372036854775807) (hs : ∀ s ∈ l, s.size ≤ 9223372036854775807) : ∀ (d i : Nat) (b : Int), i + d = l.length → 0 ≤ b → b ≤ 1048576 → ∃ r, Ev (fun k => laws_szStringS.l0 k l b (i : Int)) r ∧ (0 ≤ r → r ≤ 1048576 ∧ ∀ s ∈ l.drop i, s.size ≤ 1048576)
  | 0, i, b, hd, h0, hb => by
    refine ⟨b, Ev.succ ?_, fun _ => ⟨hb, fun s h => ?_⟩⟩
    · simp only [laws_szStringS.l0]; exact Ev.neg (by omega) (Ev.now _)
    · rw [List.drop_of_length_le (by omega)] at h; cases h
  | d + 1, i, b, hd, h0, hb => by
    have h1 : i < l.length := by omega
    have h2 := hs _ (List.getElem_mem h1)
    have e : Aside0 (wrap64 (b - (l[i].size : Int)) = b - (l[i].size : Int)) := ⟨w64 (by omega) (by omega)⟩
    by_cases hc : b - (l[i].size : Int) < 0
    · refine ⟨-1, Ev.succ ?_, fun h => by omega⟩
      simp only [laws_szStringS.l0, rdOf_nat l i h1, e.out]
      exact Ev.pos (by omega) (Ev.pos (by omega) (Ev.pos hc (Ev.now _)))
    · obtain ⟨r, hr, hh⟩ := szS_l0 l hl hs d (i + 1) (b - (l[i].size : Int)) (by omega) (by omega) (by omega)
      refine ⟨r, Ev.succ ?_, fun h => ⟨(hh h).1, fun s hm => ?_⟩⟩
      · simp only [laws_szStringS.l0, rdOf_nat l i h1, e.out, w1 (show 0 ≤ (i : Int) by omega) (show (i : Int) < 9223372036854775807 by omega)]
        exact Ev.pos (by omega) (Ev.pos (by omega) (Ev.neg hc hr))
      · rw [List.drop_eq_getElem_cons h1] at hm
        rcases List.mem_cons.1 hm with rfl | hm
        · omega
        · exact (hh h).2 s hm
theorem szS_ev (l : List ByteArray) (hl : l.length ≤ maxLen) (hs : ∀ s ∈ l, s.size ≤ maxLen) : ∃ r, Ev (fun k => laws_szStringS.f k l 1048576) r ∧ (0 ≤ r → l.length ≤ 1048576 ∧ r ≤ 1048576 ∧ ∀ s ∈ l, s.size ≤ 1048576) := by
  have hm := maxLen_le
  have e : Aside0 (wrap64 (1048576 - (l.length : Int)) = 1048576 - (l.length : Int)) := ⟨w64 (by omega) (by omega)⟩
  unfold laws_szStringS.f
  rw [e.out]
  by_cases hc : 1048576 - (l.length : Int) < 0
  · exact ⟨-1, Ev.pos hc (Ev.now _), fun h => by omega⟩
  · obtain ⟨r, hr, hh⟩ := szS_l0 l (by omega) (fun s h => Nat.le_trans (hs s h) hm) l.length 0 (1048576 - (l.length : Int)) (by omega) (by omega) (by omega)
    exact ⟨r, Ev.neg hc hr, fun h => ⟨by omega, (hh h).1, by simpa using (hh h).2⟩⟩
theorem toS_l0 (l : List ByteArray) (hl : l.length ≤ 1048576) : ∀ (d i : Nat) (xs : List ByteArray), i + d = l.length → xs.length = l.length → xs.take i = l.take i → Ev (fun k => laws_toStringS.l0 k l xs (i : Int)) l
  | 0, i, xs, hd, hx, ht => by
    refine Ev.step (f := fun _ => some xs) (fun k => ?_) (Ev.pure ?_)
    · simp only [laws_toStringS.l0]; rw [if_neg (by omega)]
    · rw [List.take_of_length_le (by omega), List.take_of_length_le (by omega)] at ht; exact ht
  | d + 1, i, xs, hd, hx, ht => by
    refine Ev.step (f := fun k => laws_toStringS.l0 k l (xs.set i (rdOf ByteArray.empty l i)) ((i + 1 : Nat) : Int)) (fun k => ?_) (toS_l0 l hl d (i + 1) _ (by omega) (by simp [hx]) ?_)
    · simp only [laws_toStringS.l0]; rw [if_pos (by omega), if_pos (by omega), if_pos (by omega), w1 (by omega) (by omega)]; simp
    · have h1 : i < l.length := by omega
      have h2 : i < (xs.set i (rdOf ByteArray.empty l i)).length := by simp; omega
      have e := rdOf_nat l i h1
      rw [List.take_succ_eq_append_getElem h2, List.take_succ_eq_append_getElem h1, List.take_set, List.set_eq_of_length_le (by simp; omega), ht]
      simp [e]
theorem toS_ev (l : List ByteArray) (hl : l.length ≤ 1048576) : Ev (fun k => laws_toStringS.f k l) l := by
  unfold laws_toStringS.f
  refine Ev.pos (by omega) (Ev.pos (by omega) ?_)
  have h := toS_l0 l hl l.length 0 (List.replicate l.length ⟨#[]⟩) (by omega) (by simp) (by simp)
  simpa using h
theorem eqS_l0 (l : List ByteArray) (hl : l.length ≤ 1048576) : ∀ (d i : Nat), i + d = l.length → Ev (fun k => laws_eqStringS.l0 k l l (i : Int)) true
  | 0, i, hd => Ev.step (f := fun _ => some true) (fun k => by simp only [laws_eqStringS.l0]; rw [if_neg (by omega)]) (Ev.now _)
  | d + 1, i, hd => by
    refine Ev.step (f := fun k => laws_eqStringS.l0 k l l ((i + 1 : Nat) : Int)) (fun k => ?_) (eqS_l0 l hl d (i + 1) (by omega))
    simp only [laws_eqStringS.l0]; rw [if_pos (by omega), if_pos (by omega), if_pos (by omega), if_pos trivial, w1 (by omega) (by omega)]; simp
theorem eqS_ev (l : List ByteArray) (hl : l.length ≤ 1048576) : Ev (fun k => laws_eqStringS.f k l l) true := by
  unfold laws_eqStringS.f
  exact Ev.pos rfl (by simpa using eqS_l0 l hl l.length 0 (by omega))


theorem spec_in (a b c : Int) : spec_l1In.f a b c = some (decide (b ≤ a ∧ a ≤ c)) := by
  unfold spec_l1In.f
  by_cases h : a ≥ b
  · rw [if_pos h]; simp [h]
  · rw [if_neg h]; simp; omega

theorem impl_in_eq (a b c : Int) : impl_in.f a b c = some (decide (b ≤ a ∧ a ≤ c)) := by
  unfold impl_in.f
  by_cases h : b ≤ a
  · rw [if_pos h]; simp [h]
  · rw [if_neg h]; simp [h]

theorem bt_nat (s : ByteArray) (i : Nat) (h : i < s.data.toList.length) : bt s (i : Int) = ((s.data.toList[i]).toNat : Int) := by
  have h' : i < s.size := by have e : s.size = s.data.toList.length := Array.length_toList.symm; omega
  unfold bt
  rw [dif_pos (show (i : Int).toNat < s.size by simpa using h')]
  simp [ByteArray.getElem_eq_getElem_data]
theorem size_data (s : ByteArray) : s.size = s.data.toList.length := Array.length_toList.symm
theorem letter_test (c : UInt8) : ((c.toNat : Int) < 97 ∨ ((c.toNat : Int) - 97) % 256 ≥ 3) ↔ isLetter c = false := by
  have := c.toNat_lt
  unfold isLetter
  rw [decide_eq_false_iff_not]
  omega
theorem wdIs_l0 (s : ByteArray) (hs : s.size < 4611686018427387904) : ∀ (d i : Nat), i + d = s.data.toList.length → Ev (fun k => spec_wdIs.l0 k s (i : Int)) ((s.data.toList.drop i).all isLetter)
  | 0, i, hd => by
    refine Ev.succ ?_
    simp only [spec_wdIs.l0]
    exact Ev.neg (by rw [size_data]; omega) (Ev.pure (by rw [List.drop_of_length_le (by omega)]; rfl))
  | d + 1, i, hd => by
    have h1 : i < s.data.toList.length := by omega
    have ih := wdIs_l0 s hs d (i + 1) (by omega)
    have ht := letter_test s.data.toList[i]
    have hsz := size_data s
    rw [List.drop_eq_getElem_cons h1, List.all_cons]
    refine Ev.succ ?_
    simp only [spec_wdIs.l0, bt_nat s i h1, w1 (show 0 ≤ (i : Int) by omega) (show (i : Int) < 9223372036854775807 by omega)]
    refine Ev.pos (by omega) (Ev.pos (by omega) (Ev.cases (fun h => ?_) (fun h => Ev.cases (fun h' => ?_) (fun h' => ?_))))
    · rw [ht.1 (Or.inl h)]; exact Ev.now _
    · rw [ht.1 (Or.inr h')]; exact Ev.now _
    · have : isLetter s.data.toList[i] = true := by
        cases hl : isLetter s.data.toList[i]
        · exact absurd (ht.2 hl) (by omega)
        · rfl
      rw [this, Bool.true_and]; exact ih
theorem wdIs_ev (s : ByteArray) (hs : s.size < 4611686018427387904) : Ev (fun k => spec_wdIs.f k s) (s.data.toList.all isLetter) := by
  have h := wdIs_l0 s hs s.data.toList.length 0 (by omega)
  simpa [spec_wdIs.f] using h

/-- a word of a set -/
def short (s : ByteArray) : Bool := decide (1 ≤ s.size ∧ s.size ≤ 8) && s.data.toList.all isLetter
theorem wdShort_ev (s : ByteArray) : Ev (fun k => spec_wdShort.f k s) (short s) := by
  unfold spec_wdShort.f short
  refine Ev.known (fun _ => spec_in _ _ _) (Ev.cases (fun h => ?_) (fun h => ?_))
  · have h' := of_decide_eq_true h
    rw [decide_eq_true (show 1 ≤ s.size ∧ s.size ≤ 8 by omega), Bool.true_and]
    exact Ev.bind (wdIs_ev s (by omega)) (Ev.now _)
  · rw [decide_eq_false (show ¬ (1 ≤ s.size ∧ s.size ≤ 8) by intro hh; exact h (decide_eq_true (by omega))), Bool.false_and]
    exact Ev.now _
theorem isShort_eq (s : ByteArray) : impl_isShort.f s = some (short s) := by
  unfold impl_isShort.f impl_isWord.f short
  by_cases h : 1 ≤ s.size ∧ s.size ≤ 8
  · rw [decide_eq_true h, decide_eq_true (show s.size ≤ 60 by omega)]
    cases s.data.toList.all isLetter
    · rfl
    · simp [impl_in_eq]; omega
  · rw [decide_eq_false h]
    cases (decide (s.size ≤ 60) && s.data.toList.all isLetter)
    · rfl
    · simp [impl_in_eq]; omega
theorem bytesLess_cmp : ∀ (x y : List UInt8), Op.bytesLess x y = decide (Lib.compareBytes x y < 0)
  | [], [] => by simp [Op.bytesLess, Lib.compareBytes]
  | _ :: _, [] => by simp [Op.bytesLess, Lib.compareBytes]
  | [], _ :: _ => by simp [Op.bytesLess, Lib.compareBytes]
  | a :: x, b :: y => by
    rw [Op.bytesLess, bytesLess_cmp x y, Lib.compareBytes]
    by_cases h1 : a < b
    · simp [h1]
    · by_cases h2 : b < a
      · have : (a == b) = false := by
          rw [beq_eq_false_iff_ne]; rintro rfl; exact h1 h2
        simp [h1, h2, this]
      · have : a = b := by
          have h1' : ¬ a.toNat < b.toNat := h1
          have h2' : ¬ b.toNat < a.toNat := h2
          exact UInt8.toNat_inj.1 (by omega)
        subst this; simp [h1]
theorem bytesLess_irrefl : ∀ (x : List UInt8), Op.bytesLess x x = false
  | [] => rfl
  | a :: x => by rw [Op.bytesLess, bytesLess_irrefl x]; simp
theorem bytesLess_trans : ∀ (x y z : List UInt8), Op.bytesLess x y = true → Op.bytesLess y z = true → Op.bytesLess x z = true
  | _, [], _ => by simp [Op.bytesLess]
  | _, _ :: _, [] => by simp [Op.bytesLess]
  | [], _ :: _, _ :: _ => by simp [Op.bytesLess]
  | a :: x, b :: y, c :: z => by
    have ih := bytesLess_trans x y z
    simp only [Op.bytesLess, Bool.or_eq_true, decide_eq_true_eq, Bool.and_eq_true, beq_iff_eq]
    intro h1 h2
    rcases h1 with h1 | ⟨rfl, h1⟩
    · rcases h2 with h2 | ⟨rfl, h2⟩
      · exact Or.inl (UInt8.lt_trans h1 h2)
      · exact Or.inl h1
    · rcases h2 with h2 | ⟨rfl, h2⟩
      · exact Or.inl h2
      · exact Or.inr ⟨rfl, ih h1 h2⟩
/-- the order of words: by length, then by letters -/
def wless (a b : ByteArray) : Bool := decide (a.size < b.size) || (decide (a.size = b.size) && Op.bytesLess a.data.toList b.data.toList)
theorem wless_irrefl (a : ByteArray) : wless a a = false := by unfold wless; rw [bytesLess_irrefl]; simp
theorem wless_trans (a b c : ByteArray) (h1 : wless a b = true) (h2 : wless b c = true) : wless a c = true := by
  unfold wless at *
  simp only [Bool.or_eq_true, decide_eq_true_eq, Bool.and_eq_true] at *
  rcases h1 with h1 | ⟨h1, g1⟩ <;> rcases h2 with h2 | ⟨h2, g2⟩
  · left; omega
  · left; omega
  · left; omega
  · exact Or.inr ⟨by omega, bytesLess_trans _ _ _ g1 g2⟩
theorem wdLess_eq (a b : ByteArray) : spec_wdLess.f a b = some (wless a b) := by
  unfold spec_wdLess.f wless
  by_cases h : a.size < b.size
  · rw [if_pos (by omega)]; simp [h]
  · rw [if_neg (by omega)]
    by_cases h' : a.size = b.size
    · rw [if_pos (by omega)]; simp [h', ByteArray.toList_eq]
    · rw [if_neg (by omega)]; simp [h, h']
theorem or2 (a b : Int) : Ev (fun k => cmp_Or_int.f k [a, b]) (if a = 0 then b else a) := by
  refine ⟨3, fun k hk => ?_⟩
  obtain ⟨k, rfl⟩ : ∃ m, k = m + 3 := ⟨k - 3, by omega⟩
  by_cases ha : a = 0 <;> by_cases hb : b = 0 <;> simp [cmp_Or_int.f, cmp_Or_int.l0, rd, wrap64, ha, hb]
theorem compareWords_ev (a b : ByteArray) : ∃ c, Ev (fun k => impl_compareWords.f k a b) c ∧ wless a b = decide (c < 0) := by
  have hn : ∀ x : Int, cmp_isNaN_int.f x = some false := fun x => by simp [cmp_isNaN_int.f]
  have hc : cmp_Compare_int.f (a.size : Int) (b.size : Int) = some (if a.size < b.size then -1 else if b.size < a.size then 1 else 0) := by
    unfold cmp_Compare_int.f
    simp only [hn, Option.bind_some]
    rw [if_neg (by simp), if_neg (by simp)]
    by_cases h1 : a.size < b.size
    · rw [if_pos (by omega), if_pos h1]
    · rw [if_neg (by omega), if_neg h1]
      by_cases h2 : b.size < a.size
      · rw [if_pos (by omega), if_pos h2]
      · rw [if_neg (by omega), if_neg h2]
  refine ⟨_, Ev.known (fun _ => hc) (Ev.known (fun _ => rfl) (Ev.bind (or2 _ _) (Ev.now _))), ?_⟩
  unfold wless
  rw [bytesLess_cmp]
  by_cases h1 : a.size < b.size
  · simp [h1]
  · by_cases h2 : b.size < a.size
    · rw [if_neg h1, if_pos h2]; simp [h1, show ¬ a.size = b.size by omega]
    · rw [if_neg h1, if_neg h2]; simp [h1, show a.size = b.size by omega]
/-- a set: words of the right size, one by one in order -/
def SetUpto (l : List ByteArray) (i : Nat) : Prop := ∀ (j : Nat) (h : j < l.length), i ≤ j → short l[j] = true ∧ (0 < j → wless l[j - 1] l[j] = true)
theorem set_l0 (l : List ByteArray) (hl : l.length ≤ 1048576) : ∀ (d i : Nat), i + d = l.length → ∃ b, Ev (fun k => spec_wdSet.l0 k l l (l.length : Int) (i : Int)) b ∧ Ev (fun k => impl_isSet.l0 k l l (l.length : Int) (i : Int)) (b && decide (l.length ≤ 12)) ∧ (b = true → SetUpto l i)
  | 0, i, hd => by
    refine ⟨true, Ev.succ ?_, Ev.succ ?_, fun _ j h hj => by omega⟩
    · simp only [spec_wdSet.l0]; exact Ev.neg (by omega) (Ev.now _)
    · simp only [impl_isSet.l0]; refine Ev.neg (by omega) (Ev.pure ?_); rw [Bool.true_and]; exact decide_eq_decide.2 (by omega)
  | d + 1, i, hd => by
    have h1 : i < l.length := by omega
    obtain ⟨b, e1, e2, hb⟩ := set_l0 l hl d (i + 1) (by omega)
    have s1 := wdShort_ev l[i]
    have s2 := isShort_eq l[i]
    cases hs : short l[i]
    · rw [hs] at s1 s2
      refine ⟨false, Ev.succ ?_, Ev.succ ?_, fun h => by cases h⟩
      · simp only [spec_wdSet.l0, rdOf_nat l i h1]
        exact Ev.pos (by omega) (Ev.pos (by omega) (Ev.pos (by omega) (Ev.bind s1 (Ev.neg (by simp) (Ev.now _)))))
      · simp only [impl_isSet.l0, rdOf_nat l i h1]
        exact Ev.pos (by omega) (Ev.pos (by omega) (Ev.pos (by omega) (Ev.known (fun _ => s2) (Ev.neg (by simp) (Ev.now _)))))
    · rw [hs] at s1 s2
      by_cases h0 : i = 0
      · refine ⟨b, Ev.succ ?_, Ev.succ ?_, fun h j hj hij => ?_⟩
        · simp only [spec_wdSet.l0, rdOf_nat l i h1, w1 (show 0 ≤ (i : Int) by omega) (show (i : Int) < 9223372036854775807 by omega)]
          exact Ev.pos (by omega) (Ev.pos (by omega) (Ev.pos (by omega) (Ev.bind s1 (Ev.pos rfl (Ev.neg (by omega) e1)))))
        · simp only [impl_isSet.l0, rdOf_nat l i h1, w1 (show 0 ≤ (i : Int) by omega) (show (i : Int) < 9223372036854775807 by omega)]
          exact Ev.pos (by omega) (Ev.pos (by omega) (Ev.pos (by omega) (Ev.known (fun _ => s2) (Ev.pos rfl (Ev.neg (by omega) e2)))))
        · by_cases he : i = j
          · subst he; exact ⟨hs, fun h => by omega⟩
          · exact hb h j hj (by omega)
      · obtain ⟨c, hc, hw⟩ := compareWords_ev l[i - 1] l[i]
        have e3 : Aside0 (wrap64 ((i : Int) - 1) = ((i - 1 : Nat) : Int)) := ⟨by rw [w64 (by omega) (by omega)]; omega⟩
        have l1 := wdLess_eq l[i - 1] l[i]
        refine ⟨wless l[i - 1] l[i] && b, Ev.succ ?_, Ev.succ ?_, fun h j hj hij => ?_⟩
        · simp only [spec_wdSet.l0, rdOf_nat l i h1, e3.out, rdOf_nat l (i - 1) (by omega), w1 (show 0 ≤ (i : Int) by omega) (show (i : Int) < 9223372036854775807 by omega)]
          refine Ev.pos (by omega) (Ev.pos (by omega) (Ev.pos (by omega) (Ev.bind s1 (Ev.pos rfl (Ev.pos (by omega) (Ev.pos (by omega) (Ev.pos (by omega) (Ev.known (fun _ => l1) (Ev.cases (fun h => ?_) (fun h => ?_))))))))))
          · rw [h, Bool.true_and]; exact e1
          · rw [Bool.eq_false_iff.mpr h, Bool.false_and]; exact Ev.now _
        · simp only [impl_isSet.l0, rdOf_nat l i h1, e3.out, rdOf_nat l (i - 1) (by omega), w1 (show 0 ≤ (i : Int) by omega) (show (i : Int) < 9223372036854775807 by omega)]
          refine Ev.pos (by omega) (Ev.pos (by omega) (Ev.pos (by omega) (Ev.known (fun _ => s2) (Ev.pos rfl (Ev.pos (by omega) (Ev.pos (by omega) (Ev.pos (by omega) (Ev.bind hc (Ev.cases (fun h => ?_) (fun h => ?_))))))))))
          · rw [hw, decide_eq_false (by omega)]; exact Ev.now _
          · rw [hw, decide_eq_true (by omega)]; exact e2
        · simp only [Bool.and_eq_true] at h
          by_cases he : i = j
          · subst he; exact ⟨hs, fun _ => h.1⟩
          · exact hb h.2 j hj (by omega)
/-- what a set is -/
structure IsSet (l : List ByteArray) : Prop where
  few : l.length ≤ 12
  each : SetUpto l 0
theorem isSet_same (l : List ByteArray) (hl : l.length ≤ 1048576) : ∃ b, Ev (fun k => spec_wdSet.f k l) b ∧ Ev (fun k => impl_isSet.f k l) b ∧ (b = true → IsSet l) := by
  obtain ⟨b, h1, h2, hb⟩ := set_l0 l hl l.length 0 (by omega)
  unfold spec_wdSet.f impl_isSet.f
  by_cases h12 : l.length ≤ 12
  · rw [decide_eq_true h12, Bool.and_true] at h2
    exact ⟨b, Ev.neg (by omega) h1, h2, fun h => ⟨h12, hb h⟩⟩
  · rw [decide_eq_false h12, Bool.and_false] at h2
    exact ⟨false, Ev.pos (by omega) (Ev.now _), h2, fun h => by cases h⟩
theorem IsSet.lt {l : List ByteArray} (h : IsSet l) : ∀ (j i : Nat) (hj : j < l.length) (hi : i < j), wless l[i] l[j] = true
  | 0, i, hj, hi => by omega
  | j + 1, i, hj, hi => by
    have h1 := (h.each (j + 1) hj (by omega)).2 (by omega)
    by_cases e : i = j
    · subst e; exact h1
    · exact wless_trans _ _ _ (h.lt j i (by omega) (by omega)) h1
theorem IsSet.short {l : List ByteArray} (h : IsSet l) (w : ByteArray) (hw : w ∈ l) : Pure.short w = true := by
  obtain ⟨i, hi, rfl⟩ := List.getElem_of_mem hw
  exact (h.each i hi (by omega)).1
theorem IsSet.size {l : List ByteArray} (h : IsSet l) (w : ByteArray) (hw : w ∈ l) : 1 ≤ w.size ∧ w.size ≤ 8 := by
  have := h.short w hw
  unfold Pure.short at this
  simp only [Bool.and_eq_true, decide_eq_true_eq] at this
  exact this.1

/-- how often each letter stands in a text -/
def lcOf (l : List UInt8) : List Int := [((l.count 97 : Nat) : Int), ((l.count 98 : Nat) : Int), ((l.count 99 : Nat) : Int)]
theorem letter_three (c : UInt8) (h : isLetter c = true) : c = 97 ∨ c = 98 ∨ c = 99 := by
  have h1 := letter_test c
  have h2 : ¬ ((c.toNat : Int) < 97 ∨ ((c.toNat : Int) - 97) % 256 ≥ 3) := fun q => by rw [h1.1 q] at h; cases h
  have := c.toNat_lt
  have h3 : c.toNat = 97 ∨ c.toNat = 98 ∨ c.toNat = 99 := by omega
  rcases h3 with e | e | e
  · exact Or.inl (UInt8.toNat_inj.1 e)
  · exact Or.inr (Or.inl (UInt8.toNat_inj.1 e))
  · exact Or.inr (Or.inr (UInt8.toNat_inj.1 e))
theorem wdLetters_l0 (s : ByteArray) (hs : s.size ≤ 8) (ha : s.data.toList.all isLetter = true) : ∀ (d i : Nat), i + d = s.data.toList.length → Ev (fun k => spec_wdLetters.l0 k s (lcOf (s.data.toList.take i)) (i : Int)) (lcOf s.data.toList)
  | 0, i, hd => by
    refine Ev.succ ?_
    simp only [spec_wdLetters.l0]
    exact Ev.neg (by rw [size_data]; omega) (Ev.pure (by rw [List.take_of_length_le (by omega)]))
  | d + 1, i, hd => by
    have h1 : i < s.data.toList.length := by omega
    have hsz := size_data s
    have ih := wdLetters_l0 s hs ha d (i + 1) (by omega)
    have hc : isLetter s.data.toList[i] = true := List.all_eq_true.1 ha _ (List.getElem_mem h1)
    have hb := bt_nat s i h1
    have ht : s.data.toList.take (i + 1) = s.data.toList.take i ++ [s.data.toList[i]] := List.take_succ_eq_append_getElem h1
    have hn : ∀ c : UInt8, (s.data.toList.take i).count c ≤ 8 := fun c => Nat.le_trans List.count_le_length (by rw [List.length_take]; omega)
    have n1 := hn 97
    have n2 := hn 98
    have n3 := hn 99
    rw [ht] at ih
    refine Ev.succ ?_
    simp only [spec_wdLetters.l0, w1 (show 0 ≤ (i : Int) by omega) (show (i : Int) < 9223372036854775807 by omega)]
    refine Ev.pos (by omega) (Ev.pos (by omega) ?_)
    rcases letter_three _ hc with e | e | e
    · rw [e] at hb ih
      have e1 : Aside0 ((bt s (i : Int) - 97) % 256 = 0) := ⟨by rw [hb]; rfl⟩
      rw [e1.out]
      have e2 : Aside0 (wrap64 (rd (lcOf (s.data.toList.take i)) 0 + 1) = (((s.data.toList.take i).count 97 + 1 : Nat) : Int)) := ⟨by
        show wrap64 ((((s.data.toList.take i).count 97 : Nat) : Int) + 1) = _
        rw [w64 (by omega) (by omega)]; omega⟩
      rw [e2.out]
      refine Ev.pos (by omega) (Ev.pos (by simp [lcOf]) ?_)
      simpa [lcOf, List.count_append, List.count_cons] using ih
    · rw [e] at hb ih
      have e1 : Aside0 ((bt s (i : Int) - 97) % 256 = 1) := ⟨by rw [hb]; rfl⟩
      rw [e1.out]
      have e2 : Aside0 (wrap64 (rd (lcOf (s.data.toList.take i)) 1 + 1) = (((s.data.toList.take i).count 98 + 1 : Nat) : Int)) := ⟨by
        show wrap64 ((((s.data.toList.take i).count 98 : Nat) : Int) + 1) = _
        rw [w64 (by omega) (by omega)]; omega⟩
      rw [e2.out]
      refine Ev.pos (by omega) (Ev.pos (by simp [lcOf]) ?_)
      simpa [lcOf, List.count_append, List.count_cons] using ih
    · rw [e] at hb ih
      have e1 : Aside0 ((bt s (i : Int) - 97) % 256 = 2) := ⟨by rw [hb]; rfl⟩
      rw [e1.out]
      have e2 : Aside0 (wrap64 (rd (lcOf (s.data.toList.take i)) 2 + 1) = (((s.data.toList.take i).count 99 + 1 : Nat) : Int)) := ⟨by
        show wrap64 ((((s.data.toList.take i).count 99 : Nat) : Int) + 1) = _
        rw [w64 (by omega) (by omega)]; omega⟩
      rw [e2.out]
      refine Ev.pos (by omega) (Ev.pos (by simp [lcOf]) ?_)
      simpa [lcOf, List.count_append, List.count_cons] using ih
theorem wdLetters_ev (s : ByteArray) (hs : s.size ≤ 8) (ha : s.data.toList.all isLetter = true) : Ev (fun k => spec_wdLetters.f k s) (lcOf s.data.toList) := by
  unfold spec_wdLetters.f
  exact Ev.pos (by omega) (wdLetters_l0 s hs ha s.data.toList.length 0 (by omega))
theorem lettersOf_ev (s : ByteArray) : Ev (fun k => impl_lettersOf.f k s) (lcOf s.data.toList) := by
  have e1 : wrap64 (0 + 1) = 1 := by rw [w64 (by omega) (by omega)]; rfl
  have e2 : wrap64 (1 + 1) = 2 := by rw [w64 (by omega) (by omega)]; rfl
  have e3 : wrap64 (2 + 1) = 3 := by rw [w64 (by omega) (by omega)]; rfl
  unfold impl_lettersOf.f
  refine Ev.succ ?_
  simp only [impl_lettersOf.l0, e1]
  refine Ev.pos (by decide) (Ev.pos (by decide) (Ev.pos (by decide) (Ev.pos (by decide) (Ev.known (a := ((s.data.toList.count 97 : Nat) : Int)) (fun _ => rfl) (Ev.pos (by simp) ?_)))))
  refine Ev.succ ?_
  simp only [impl_lettersOf.l0, e2]
  refine Ev.pos (by decide) (Ev.pos (by decide) (Ev.pos (by decide) (Ev.pos (by decide) (Ev.known (a := ((s.data.toList.count 98 : Nat) : Int)) (fun _ => rfl) (Ev.pos (by simp) ?_)))))
  refine Ev.succ ?_
  simp only [impl_lettersOf.l0, e3]
  refine Ev.pos (by decide) (Ev.pos (by decide) (Ev.pos (by decide) (Ev.pos (by decide) (Ev.known (a := ((s.data.toList.count 99 : Nat) : Int)) (fun _ => rfl) (Ev.pos (by simp) ?_)))))
  refine Ev.succ ?_
  simp only [impl_lettersOf.l0]
  exact Ev.neg (by decide) (Ev.now _)


theorem spec_all_l0 (a b : Int) (l : List Int) (hl : l.length ≤ 1048576) : ∀ (d i : Nat), i + d = l.length → Ev (fun k => spec_l1All.l0 k a b l (l.length : Int) (i : Int)) ((l.drop i).all fun x => decide (a ≤ x ∧ x ≤ b))
  | 0, i, hd => Ev.step (f := fun _ => some true) (fun k => by simp only [spec_l1All.l0]; rw [if_neg (by omega)]) (Ev.pure (by rw [List.drop_of_length_le (by omega)]; rfl))
  | d + 1, i, hd => by
    have h1 : i < l.length := by omega
    have ih := spec_all_l0 a b l hl d (i + 1) (by omega)
    rw [List.drop_eq_getElem_cons h1, List.all_cons]
    refine Ev.step (f := fun k => if (decide (a ≤ l[i] ∧ l[i] ≤ b)) = true then spec_l1All.l0 k a b l (l.length : Int) ((i + 1 : Nat) : Int) else some false) (fun k => ?_) ?_
    · simp only [spec_l1All.l0, spec_in]; rw [if_pos (by omega), if_pos (by omega), if_pos (by omega), w1 (by omega) (by omega), rd_nat l i h1]; simp
    · refine Ev.cases (fun h => ?_) (fun h => ?_)
      · rw [h, Bool.true_and]; exact ih
      · rw [Bool.eq_false_iff.mpr h, Bool.false_and]; exact Ev.now _
theorem spec_all (l : List Int) (a b : Int) (hl : l.length ≤ 1048576) : Ev (fun k => spec_l1All.f k l a b) (l.all fun x => decide (a ≤ x ∧ x ≤ b)) := by
  have h := spec_all_l0 a b l hl l.length 0 (by omega)
  simpa [spec_l1All.f] using h

theorem min3 (a b c : Int) : Ev (fun k => slices_Min_int_int.f k [a, b, c]) (mn (mn a b) c) := by
  refine ⟨3, fun k hk => ?_⟩
  obtain ⟨k, rfl⟩ : ∃ m, k = m + 3 := ⟨k - 3, by omega⟩
  simp [slices_Min_int_int.f, slices_Min_int_int.l0, rd, wrap64]
theorem max3 (a b c : Int) : Ev (fun k => slices_Max_int_int.f k [a, b, c]) (mx (mx a b) c) := by
  refine ⟨3, fun k hk => ?_⟩
  obtain ⟨k, rfl⟩ : ∃ m, k = m + 3 := ⟨k - 3, by omega⟩
  simp [slices_Max_int_int.f, slices_Max_int_int.l0, rd, wrap64]
theorem sum3 (a b c : Int) : Ev (fun k => impl_sumWeights.f k [a, b, c]) (wrap64 (wrap64 (wrap64 (0 + a) + b) + c)) := by
  refine ⟨4, fun k hk => ?_⟩
  obtain ⟨k, rfl⟩ : ∃ m, k = m + 4 := ⟨k - 4, by omega⟩
  have e1 : wrap64 (0 + 1) = 1 := by unfold wrap64; omega
  have e2 : wrap64 (1 + 1) = 2 := by unfold wrap64; omega
  have e3 : wrap64 (2 + 1) = 3 := by unfold wrap64; omega
  simp only [impl_sumWeights.f, impl_sumWeights.l0, List.length_cons, List.length_nil, e1, e2, e3]
  simp [rd]


theorem toIntS_l0 (l : List Int) (hl : l.length ≤ 1048576) : ∀ (d i : Nat) (xs : List Int), i + d = l.length → xs.length = l.length → xs.take i = l.take i → Ev (fun k => laws_toIntS.l0 k l xs (i : Int)) l
  | 0, i, xs, hd, hx, ht => by
    refine Ev.step (f := fun _ => some xs) (fun k => ?_) (Ev.pure ?_)
    · simp only [laws_toIntS.l0]; rw [if_neg (by omega)]
    · rw [List.take_of_length_le (by omega), List.take_of_length_le (by omega)] at ht; exact ht
  | d + 1, i, xs, hd, hx, ht => by
    refine Ev.step (f := fun k => laws_toIntS.l0 k l (xs.set i (rd l i)) ((i + 1 : Nat) : Int)) (fun k => ?_) (toIntS_l0 l hl d (i + 1) _ (by omega) (by simp [hx]) ?_)
    · simp only [laws_toIntS.l0]; rw [if_pos (by omega), if_pos (by omega), if_pos (by omega), w1 (by omega) (by omega)]; simp
    · have h1 : i < l.length := by omega
      have h2 : i < (xs.set i (rd l i)).length := by simp; omega
      have e := rd_nat l i h1
      rw [List.take_succ_eq_append_getElem h2, List.take_succ_eq_append_getElem h1, List.take_set, List.set_eq_of_length_le (by simp; omega), ht]
      simp [e]
theorem toIntS_ev (l : List Int) (hl : l.length ≤ 1048576) : Ev (fun k => laws_toIntS.f k l) l := by
  unfold laws_toIntS.f
  refine Ev.pos (by omega) (Ev.pos (by omega) ?_)
  have h := toIntS_l0 l hl l.length 0 (List.replicate l.length 0) (by omega) (by simp) (by simp)
  simpa using h
theorem eqIntS_l0 (l : List Int) (hl : l.length ≤ 1048576) : ∀ (d i : Nat), i + d = l.length → Ev (fun k => laws_eqIntS.l0 k l l (i : Int)) true
  | 0, i, hd => Ev.step (f := fun _ => some true) (fun k => by simp only [laws_eqIntS.l0]; rw [if_neg (by omega)]) (Ev.now _)
  | d + 1, i, hd => by
    refine Ev.step (f := fun k => laws_eqIntS.l0 k l l ((i + 1 : Nat) : Int)) (fun k => ?_) (eqIntS_l0 l hl d (i + 1) (by omega))
    simp only [laws_eqIntS.l0]; rw [if_pos (by omega), if_pos (by omega), if_pos (by omega), if_pos trivial, w1 (by omega) (by omega)]; simp
theorem eqIntS_ev (l : List Int) (hl : l.length ≤ 1048576) : Ev (fun k => laws_eqIntS.f k l l) true := by
  unfold laws_eqIntS.f
  exact Ev.pos rfl (by simpa using eqIntS_l0 l hl l.length 0 (by omega))


theorem foldl_same {α β : Type} {f g : β → α → β} : ∀ (l : List α) (s : β), (∀ s x, x ∈ l → f s x = g s x) → l.foldl f s = l.foldl g s
  | [], _, _ => rfl
  | x :: l, s, h => by
    rw [List.foldl_cons, List.foldl_cons, h s x (by simp)]
    exact foldl_same l _ (fun s y hy => h s y (by simp [hy]))
abbrev n0 (x : List Int) : Nat := (x.getD 0 0).toNat
abbrev n1 (x : List Int) : Nat := (x.getD 1 0).toNat
abbrev n2 (x : List Int) : Nat := (x.getD 2 0).toNat
/-- a row fits into what is left -/
abbrev fit (a b c : Nat) (x : List Int) : Prop := x.getD 0 0 ≤ (a : Int) ∧ x.getD 1 0 ≤ (b : Int) ∧ x.getD 2 0 ≤ (c : Int)
/-- in how many ways -/
def G (own : List (List Int)) : Nat → Nat → Nat → Nat → Int
  | 0, _, _, _ => 0
  | n + 1, a, b, c => if a = 0 ∧ b = 0 ∧ c = 0 then 1 else own.foldl (fun s x => if fit a b c x then wrap64 (s + G own n (a - n0 x) (b - n1 x) (c - n2 x)) else s) 0
def Rows (own : List (List Int)) : Prop := ∀ x ∈ own, rowZb x = true
theorem row_less {x : List Int} (h : rowZb x = true) {a b c : Nat} (hf : fit a b c x) : (a - n0 x) + (b - n1 x) + (c - n2 x) < a + b + c := by
  obtain ⟨p, q, r, rfl, -, -, -, h1⟩ := rowZ_of h
  unfold fit n0 n1 n2 at *
  simp only [List.getD_cons_zero, List.getD_cons_succ, Int.toNat_natCast] at *
  omega
theorem G_same (own : List (List Int)) (hok : Rows own) : ∀ n m a b c, a + b + c < n → a + b + c < m → G own n a b c = G own m a b c
  | 0, _, _, _, _, h, _ => absurd h (by omega)
  | n + 1, 0, _, _, _, _, h => absurd h (by omega)
  | n + 1, m + 1, a, b, c, h, h' => by
    unfold G
    split
    · rfl
    · refine foldl_same own 0 (fun s x hx => ?_)
      split
      · rename_i hf
        have := row_less (hok x hx) hf
        rw [G_same own hok n m _ _ _ (by omega) (by omega)]
      · rfl
def V (own : List (List Int)) (a b c : Nat) : Int := G own (a + b + c + 1) a b c
def st (own : List (List Int)) (a b c : Nat) (s : Int) (x : List Int) : Int := if fit a b c x then wrap64 (s + V own (a - n0 x) (b - n1 x) (c - n2 x)) else s
theorem V_eq (own : List (List Int)) (hok : Rows own) (a b c : Nat) (h : ¬ (a = 0 ∧ b = 0 ∧ c = 0)) : V own a b c = own.foldl (st own a b c) 0 := by
  unfold V
  rw [G, if_neg h]
  refine foldl_same own 0 (fun s x hx => ?_)
  unfold st
  split
  · rename_i hf
    have := row_less (hok x hx) hf
    unfold V
    rw [G_same own hok (a + b + c) _ _ _ _ (by omega) (Nat.lt_succ_self _)]
  · rfl
theorem loop_ev (own : List (List Int)) (hl : own.length ≤ 12) (hok : Rows own) (n a b c : Nat) (hs : a + b + c ≤ 12) (hn : a + b + c < n + 1) (ih : ∀ a b c, a + b + c < n → a + b + c ≤ 12 → Ev (fun k => impl_CountByLetters.count k own a b c) (G own n a b c)) : ∀ (d i : Nat) (s : Int), i + d = own.length →
    Ev (fun k => impl_CountByLetters.loop k own a b c s i) ((own.drop i).foldl (fun s x => if fit a b c x then wrap64 (s + G own n (a - n0 x) (b - n1 x) (c - n2 x)) else s) s)
  | 0, i, s, hd => by
    refine Ev.succ ?_
    simp only [impl_CountByLetters.loop]
    exact Ev.neg (by omega) (Ev.pure (by rw [List.drop_of_length_le (by omega)]; rfl))
  | d + 1, i, s, hd => by
    have h1 : i < own.length := by omega
    have hg : own.getD i [] = own[i] := by rw [List.getD_eq_getElem?_getD, List.getElem?_eq_getElem h1, Option.getD_some]
    rw [List.drop_eq_getElem_cons h1, List.foldl_cons]
    refine Ev.succ ?_
    simp only [impl_CountByLetters.loop, hg]
    refine Ev.pos h1 ?_
    by_cases hf : fit a b c own[i]
    · have h5 : (a - (own[i].getD 0 0).toNat) + (b - (own[i].getD 1 0).toNat) + (c - (own[i].getD 2 0).toNat) < a + b + c := row_less (hok _ (List.getElem_mem h1)) hf
      rw [if_pos hf]
      exact Ev.pos hf (Ev.bind (ih _ _ _ (by omega) (by omega)) (loop_ev own hl hok n a b c hs hn ih d (i + 1) _ (by omega)))
    · rw [if_neg hf]
      exact Ev.neg hf (loop_ev own hl hok n a b c hs hn ih d (i + 1) _ (by omega))
theorem count_ev (own : List (List Int)) (hl : own.length ≤ 12) (hok : Rows own) : ∀ n a b c, a + b + c < n → a + b + c ≤ 12 → Ev (fun k => impl_CountByLetters.count k own a b c) (G own n a b c)
  | 0, _, _, _, h, _ => absurd h (by omega)
  | n + 1, a, b, c, h, hs => by
    refine Ev.succ ?_
    simp only [impl_CountByLetters.count]
    rw [G]
    by_cases hz : a = 0 ∧ b = 0 ∧ c = 0
    · rw [if_pos hz]
      exact Ev.pos hz (Ev.now _)
    · rw [if_neg hz]
      exact Ev.neg hz (Ev.pos ⟨hs, hl, List.all_eq_true.2 hok⟩ (by simpa using loop_ev own hl hok n a b c hs h (count_ev own hl hok n) own.length 0 0 (by omega)))
theorem rows_ev : ∀ l : List ByteArray, Ev (fun k => impl_CountByLetters.rows k l) (l.map fun s => lcOf s.data.toList)
  | [] => Ev.now _
  | x :: l => by
    simp only [impl_CountByLetters.rows]
    exact Ev.bind (lettersOf_ev x) (Ev.bind (rows_ev l) (Ev.now _))
theorem row_ok {s : ByteArray} (h : short s = true) : rowZb (lcOf s.data.toList) = true := by
  unfold short at h
  simp only [Bool.and_eq_true, decide_eq_true_eq] at h
  obtain ⟨⟨h1, h8⟩, ha⟩ := h
  have hsz := size_data s
  have hn : ∀ c : UInt8, s.data.toList.count c ≤ 8 := fun c => Nat.le_trans List.count_le_length (by omega)
  have m1 := hn 97
  have m2 := hn 98
  have m3 := hn 99
  have hp : 1 ≤ s.data.toList.count 97 + s.data.toList.count 98 + s.data.toList.count 99 := by
    obtain ⟨x, t, hd⟩ : ∃ x t, s.data.toList = x :: t := by
      match hd : s.data.toList with
      | [] => rw [hd, List.length_nil] at hsz; omega
      | x :: t => exact ⟨x, t, rfl⟩
    rw [hd] at ha ⊢
    have hx : isLetter x = true := List.all_eq_true.1 ha x (by simp)
    rcases letter_three x hx with e | e | e <;> subst e <;> simp [List.count_cons] <;> omega
  unfold rowZb lcOf
  simp only [List.length_cons, List.length_nil, List.all_cons, List.all_nil, List.sum_cons, List.sum_nil, Bool.and_eq_true, decide_eq_true_eq]
  simp only [and_true, true_and]
  refine ⟨⟨⟨by omega, by omega⟩, ⟨by omega, by omega⟩, ⟨by omega, by omega⟩⟩, ?_⟩
  exact decide_eq_true (by omega)
theorem counts_same (l : List Int) (hl : l.length ≤ 1048576) : ∃ t, Ev (fun k => spec_leCounts.f k l) t ∧ Ev (fun k => impl_areCounts.f k l) t ∧ (t = true → ∃ a b c : Nat, l = [(a : Int), (b : Int), (c : Int)] ∧ a + b + c ≤ 12) := by
  unfold spec_leCounts.f impl_areCounts.f
  by_cases h3 : l.length = 3
  · match l, h3 with
    | [a, b, c], h3 =>
      have hs := spec_all [a, b, c] 0 12 (by simp)
      by_cases hb : (0 ≤ a ∧ a ≤ 12) ∧ (0 ≤ b ∧ b ≤ 12) ∧ (0 ≤ c ∧ c ≤ 12)
      · have hs' : ([a, b, c].all fun x => decide (0 ≤ x ∧ x ≤ 12)) = true := by simp; omega
        rw [hs'] at hs
        have e1 : wrap64 (wrap64 (rd [a, b, c] 0 + rd [a, b, c] 1) + rd [a, b, c] 2) = a + b + c := by
          simp only [rd, Int.toNat_zero, List.getD_cons_zero, Int.toNat_one, List.getD_cons_succ, show (2 : Int).toNat = 2 from rfl]
          rw [w64 (i := a + b) (by omega) (by omega), w64 (by omega) (by omega)]
        have e2 : wrap64 (wrap64 (wrap64 (0 + a) + b) + c) = a + b + c := by
          rw [w64 (i := 0 + a) (by omega) (by omega), w64 (i := 0 + a + b) (by omega) (by omega), w64 (by omega) (by omega), Int.zero_add]
        have E1 := Aside0.mk e1
        have E2 := Aside0.mk e2
        clear e1 e2
        refine ⟨decide (a + b + c ≤ 12), Ev.pos (by simp) (Ev.bind hs (Ev.pos rfl (Ev.pos (by simp) (Ev.pos (by simp) (Ev.pos (by simp) (Ev.pure (by rw [E1.out]))))))), Ev.pos (by simp) (Ev.bind (min3 a b c) (Ev.pos ?_ (Ev.bind (max3 a b c) (Ev.pos ?_ (Ev.bind (sum3 a b c) (Ev.pure (by rw [E2.out]))))))), fun h => ⟨a.toNat, b.toNat, c.toNat, ?_, ?_⟩⟩
        · unfold mn; split <;> split <;> omega
        · unfold mx; split <;> split <;> omega
        · rw [show ((a.toNat : Nat) : Int) = a by omega, show ((b.toNat : Nat) : Int) = b by omega, show ((c.toNat : Nat) : Int) = c by omega]
        · have h' := of_decide_eq_true h
          omega
      · have hs' : ([a, b, c].all fun x => decide (0 ≤ x ∧ x ≤ 12)) = false := by
          rw [Bool.eq_false_iff]; intro h; simp at h; omega
        rw [hs'] at hs
        refine ⟨false, Ev.pos (by simp) (Ev.bind hs (Ev.neg (by simp) (Ev.now _))), Ev.pos (by simp) (Ev.bind (min3 a b c) (Ev.cases (fun hm => Ev.bind (max3 a b c) (Ev.neg ?_ (Ev.now _))) (fun _ => Ev.now _))), fun h => by cases h⟩
        revert hm; unfold mn mx; split <;> split <;> split <;> split <;> omega
  · exact ⟨false, Ev.neg (by omega) (Ev.now _), Ev.neg (by omega) (Ev.now _), fun h => by cases h⟩
/-- where a place of the table lies -/
theorem place_div {x y z B C : Nat} (hy : y < B) (hz : z < C) : ((x * B + y) * C + z) / (B * C) = x ∧ (((x * B + y) * C + z) / C) % B = y ∧ ((x * B + y) * C + z) % C = z := by
  have hC : 0 < C := by omega
  have hB : 0 < B := by omega
  have e1 : ((x * B + y) * C + z) / C = x * B + y := by
    rw [Nat.add_comm, Nat.add_mul_div_right _ _ hC, Nat.div_eq_of_lt hz, Nat.zero_add]
  refine ⟨?_, ?_, ?_⟩
  · rw [Nat.mul_comm B C, ← Nat.div_div_eq_div_mul, e1, Nat.add_comm, Nat.add_mul_div_right _ _ hB, Nat.div_eq_of_lt hy, Nat.zero_add]
  · rw [e1, Nat.add_comm, Nat.add_mul_mod_self_right, Nat.mod_eq_of_lt hy]
  · rw [Nat.add_comm, Nat.add_mul_mod_self_right, Nat.mod_eq_of_lt hz]
theorem place_of (at_ B C : Nat) : at_ = (at_ / (B * C) * B + (at_ / C) % B) * C + at_ % C := by
  have h1 : at_ / (B * C) = at_ / C / B := by rw [Nat.mul_comm B C, Nat.div_div_eq_div_mul]
  rw [h1, Nat.mul_comm (at_ / C / B) B, Nat.div_add_mod, Nat.mul_comm, Nat.div_add_mod]
/-- the place that is looked up -/
theorem place_w {B C x y z p q r : Nat} (hp : p ≤ x) (hq : q ≤ y) (hr : r ≤ z) (hx : x ≤ 12) (hy : y ≤ 12) (hz : z ≤ 12) (hB : B ≤ 13) (hC : C ≤ 13) :
    wrap64 ((wrap64 ((wrap64 ((wrap64 ((wrap64 ((wrap64 ((x : Int) - (p : Int))) * (B : Int))) * (C : Int))) + (wrap64 ((wrap64 ((y : Int) - (q : Int))) * (C : Int))))) + (z : Int))) - (r : Int)) = ((((x - p) * B + (y - q)) * C + (z - r) : Nat) : Int) := by
  obtain ⟨u, hu⟩ : ∃ u, u = x - p := ⟨_, rfl⟩
  obtain ⟨v, hv⟩ : ∃ v, v = y - q := ⟨_, rfl⟩
  obtain ⟨t, ht⟩ : ∃ t, t = z - r := ⟨_, rfl⟩
  have b1 : u * B ≤ 12 * 13 := Nat.mul_le_mul (by omega) hB
  have b2 : u * B * C ≤ 12 * 13 * 13 := Nat.mul_le_mul b1 hC
  have b3 : v * C ≤ 12 * 13 := Nat.mul_le_mul (by omega) hC
  rw [← hu, ← hv, ← ht]
  rw [show (x : Int) - (p : Int) = (u : Int) by omega, show (y : Int) - (q : Int) = (v : Int) by omega]
  rw [w64 (i := (u : Int)) (by omega) (by omega), w64 (i := (v : Int)) (by omega) (by omega), ← Int.natCast_mul, w64 (i := ((u * B : Nat) : Int)) (by omega) (by omega), ← Int.natCast_mul, w64 (i := ((u * B * C : Nat) : Int)) (by omega) (by omega), ← Int.natCast_mul, w64 (i := ((v * C : Nat) : Int)) (by omega) (by omega)]
  rw [w64 (i := ((u * B * C : Nat) : Int) + ((v * C : Nat) : Int)) (by omega) (by omega), w64 (i := ((u * B * C : Nat) : Int) + ((v * C : Nat) : Int) + (z : Int)) (by omega) (by omega), w64 (by omega) (by omega), Nat.add_mul]
  omega
theorem place_less {B C x y z p q r : Nat} (hB : 0 < B) (hC : 0 < C) (hp : p ≤ x) (hq : q ≤ y) (hr : r ≤ z) (h1 : 1 ≤ p + q + r) : ((x - p) * B + (y - q)) * C + (z - r) < (x * B + y) * C + z := by
  have e1 : (x - p) * B ≤ x * B := Nat.mul_le_mul_right _ (by omega)
  by_cases h2 : 1 ≤ p + q
  · have e2 : (x - p) * B + (y - q) + 1 ≤ x * B + y := by
      by_cases h3 : 1 ≤ p
      · have e3 : (x - p) * B + B ≤ x * B := by
          rw [← Nat.succ_mul]
          exact Nat.mul_le_mul_right _ (by omega)
        omega
      · omega
    have e4 := Nat.mul_le_mul_right C e2
    rw [Nat.succ_mul] at e4
    omega
  · have e5 : ((x - p) * B + (y - q)) * C ≤ (x * B + y) * C := Nat.mul_le_mul_right _ (by omega)
    omega
/-- what stands at a place -/
def val (own : List (List Int)) (B C j : Nat) : Int := V own (j / (B * C)) ((j / C) % B) (j % C)
/-- the table, as far as it is filled -/
def tab (own : List (List Int)) (B C L m : Nat) : List Int := (List.range L).map fun j => if j < m then val own B C j else 0
theorem tab_len (own : List (List Int)) (B C L m : Nat) : (tab own B C L m).length = L := by simp [tab]
theorem tab_get (own : List (List Int)) (B C L m j : Nat) (hj : j < L) : (tab own B C L m)[j]'(by rw [tab_len]; exact hj) = if j < m then val own B C j else 0 := by simp [tab]
theorem tab_next (own : List (List Int)) (B C L m : Nat) (hm : m < L) : (tab own B C L m).set m (val own B C m) = tab own B C L (m + 1) := by
  refine List.ext_getElem (by simp [tab]) (fun j h1 h2 => ?_)
  have hj : j < L := by rw [List.length_set, tab_len] at h1; exact h1
  rw [List.getElem_set, tab_get _ _ _ _ _ _ hj, tab_get _ _ _ _ _ _ hj]
  by_cases e : m = j
  · subst e; rw [if_pos rfl, if_pos (by omega)]
  · rw [if_neg e]
    by_cases h : j < m
    · rw [if_pos h, if_pos (by omega)]
    · rw [if_neg h, if_neg (by omega)]
theorem tab_self (own : List (List Int)) (B C L m : Nat) (hm : m < L) : (tab own B C L m).set m 0 = tab own B C L m := by
  refine List.ext_getElem (by simp [tab]) (fun j h1 h2 => ?_)
  have hj : j < L := by rw [tab_len] at h2; exact h2
  rw [List.getElem_set, tab_get _ _ _ _ _ _ hj]
  by_cases e : m = j
  · subst e; rw [if_pos rfl, if_neg (by omega)]
  · rw [if_neg e]
structure Dims (a b c B C L : Nat) : Prop where
  hB : B = b + 1
  hC : C = c + 1
  hL : L = (a * B + b) * C + c + 1
  few : a + b + c ≤ 12
theorem Dims.of_at {a b c B C L m : Nat} (h : Dims a b c B C L) (hm : m < L) : m / (B * C) ≤ a ∧ (m / C) % B ≤ b ∧ m % C ≤ c := by
  obtain ⟨hB, hC, hL, -⟩ := h
  have hC0 : 0 < C := by omega
  have hB0 : 0 < B := by omega
  refine ⟨?_, ?_, ?_⟩
  · have h1 := (place_div (x := a) (y := b) (z := c) (B := B) (C := C) (by omega) (by omega)).1
    rw [← h1]
    exact Nat.div_le_div_right (by omega)
  · have := Nat.mod_lt (m / C) hB0
    omega
  · have := Nat.mod_lt m hC0
    omega
theorem lc_at (s : ByteArray) : rd (lcOf s.data.toList) 0 = ((n0 (lcOf s.data.toList) : Nat) : Int) ∧ rd (lcOf s.data.toList) 1 = ((n1 (lcOf s.data.toList) : Nat) : Int) ∧ rd (lcOf s.data.toList) 2 = ((n2 (lcOf s.data.toList) : Nat) : Int) := by
  simp [lcOf, rd, n0, n1, n2]
theorem cnt_l1 (l : List ByteArray) (hl : IsSet l) (own : List (List Int)) (hown : own = l.map fun s => lcOf s.data.toList) (hok : Rows own) (a b c B C L : Nat) (hd : Dims a b c B C L) (m : Nat) (hm : m < L) (R : Int × Bool) (hR : Ev (fun k => spec_CountByLetters.l0 k l (B : Int) (C : Int) (tab own B C L (m + 1)) ((m + 1 : Nat) : Int)) R) : ∀ (d i : Nat) (s : Int), i + d = l.length → (own.drop i).foldl (st own (m / (B * C)) ((m / C) % B) (m % C)) s = val own B C m →
    Ev (fun k => spec_CountByLetters.l1 k l (B : Int) (C : Int) ((tab own B C L m).set m s) (m : Int) ((m / (B * C) : Nat) : Int) (((m / C) % B : Nat) : Int) ((m % C : Nat) : Int) l (l.length : Int) (i : Int)) R
  | 0, i, s, hi, hs => by
    have hL : L ≤ 12 * 13 * 13 + 169 := by
      have := hd.few
      have b1 : a * B ≤ 12 * 13 := Nat.mul_le_mul (by omega) (by have := hd.hB; omega)
      have b2 : (a * B + b) * C ≤ (12 * 13 + 12) * 13 := Nat.mul_le_mul (by omega) (by have := hd.hC; omega)
      have := hd.hL
      have := hd.hC
      omega
    rw [List.drop_of_length_le (by rw [hown, List.length_map]; omega)] at hs
    have hs' : s = val own B C m := hs
    rw [hs', tab_next own B C L m hm]
    refine Ev.succ ?_
    simp only [spec_CountByLetters.l1, w1 (show 0 ≤ (m : Int) by omega) (show (m : Int) < 9223372036854775807 by omega)]
    exact Ev.neg (by omega) hR
  | d + 1, i, s, hi, hs => by
    have h1 : i < l.length := by omega
    have h12 := hl.few
    have ho : i < own.length := by rw [hown, List.length_map]; exact h1
    have hoi : own[i] = lcOf l[i].data.toList := by simp [hown]
    have hsz := hl.size l[i] (List.getElem_mem h1)
    have hsh := hl.short l[i] (List.getElem_mem h1)
    have hal : l[i].data.toList.all isLetter = true := by
      unfold short at hsh
      simp only [Bool.and_eq_true] at hsh
      exact hsh.2
    have hdr : own.drop i = own[i] :: own.drop (i + 1) := List.drop_eq_getElem_cons ho
    rw [hdr, List.foldl_cons, hoi] at hs
    obtain ⟨r0, r1, r2⟩ := lc_at l[i]
    have hrow := hok _ (List.getElem_mem ho)
    rw [hoi] at hrow
    have hat := hd.of_at hm
    have hfew := hd.few
    have hb := hd.hB
    have hc := hd.hC
    have ih := fun s' => cnt_l1 l hl own hown hok a b c B C L hd m hm R hR d (i + 1) s' (by omega)
    obtain ⟨x, hx⟩ : ∃ x, x = m / (B * C) := ⟨_, rfl⟩
    obtain ⟨y, hy⟩ : ∃ y, y = (m / C) % B := ⟨_, rfl⟩
    obtain ⟨z, hz⟩ : ∃ z, z = m % C := ⟨_, rfl⟩
    have hpl := place_of m B C
    rw [← hx, ← hy, ← hz] at hs hat ih hpl ⊢
    obtain ⟨q0, hq0⟩ : ∃ q, q = n0 (lcOf l[i].data.toList) := ⟨_, rfl⟩
    obtain ⟨q1, hq1⟩ : ∃ q, q = n1 (lcOf l[i].data.toList) := ⟨_, rfl⟩
    obtain ⟨q2, hq2⟩ : ∃ q, q = n2 (lcOf l[i].data.toList) := ⟨_, rfl⟩
    have hfit : fit x y z (lcOf l[i].data.toList) ↔ (q0 ≤ x ∧ q1 ≤ y ∧ q2 ≤ z) := by
      rw [hq0, hq1, hq2]
      unfold fit n0 n1 n2 lcOf
      simp only [List.getD_cons_zero, List.getD_cons_succ, Int.toNat_natCast]
      omega
    have hpos : 1 ≤ q0 + q1 + q2 := by
      obtain ⟨u, v, t, hu, -, -, -, hh⟩ := rowZ_of hrow
      rw [hq0, hq1, hq2, hu]
      simpa [n0, n1, n2] using hh
    rw [← hq0] at r0
    rw [← hq1] at r1
    rw [← hq2] at r2
    have hl3 : ((lcOf l[i].data.toList).length : Int) = 3 := rfl
    refine Ev.succ ?_
    simp only [spec_CountByLetters.l1, rdOf_nat l i h1, w1 (show 0 ≤ (i : Int) by omega) (show (i : Int) < 9223372036854775807 by omega)]
    refine Ev.pos (by omega) (Ev.pos (by omega) (Ev.pos (by omega) (Ev.bind (wdLetters_ev l[i] hsz.2 hal) ?_)))
    simp only [hl3, r0, r1, r2]
    refine Ev.pos (by omega) ?_
    by_cases f0 : q0 ≤ x
    · refine Ev.pos (by omega) (Ev.pos (by omega) ?_)
      by_cases f1 : q1 ≤ y
      · refine Ev.pos (by omega) (Ev.pos (by omega) ?_)
        by_cases f2 : q2 ≤ z
        · have hpw := Aside0.mk (place_w (B := B) (C := C) f0 f1 f2 (by omega) (by omega) (by omega) (by omega) (by omega))
          have hless := place_less (B := B) (C := C) (by omega) (by omega) f0 f1 f2 hpos
          rw [← hpl] at hless
          obtain ⟨j, hj⟩ : ∃ j, j = ((x - q0) * B + (y - q1)) * C + (z - q2) := ⟨_, rfl⟩
          have hdv := place_div (x := x - q0) (y := y - q1) (z := z - q2) (B := B) (C := C) (by omega) (by omega)
          rw [← hj] at hpw hless hdv
          have hlen : ((tab own B C L m).set m s).length = L := by rw [List.length_set, tab_len]
          have e1 : rd ((tab own B C L m).set m s) (m : Int) = s := by
            rw [rd_nat _ _ (by rw [hlen]; exact hm)]
            simp
          have e2 : rd ((tab own B C L m).set m s) (j : Int) = V own (x - q0) (y - q1) (z - q2) := by
            rw [rd_nat _ _ (by rw [hlen]; omega), List.getElem_set_ne (by omega), tab_get _ _ _ _ _ _ (by omega), if_pos hless]
            unfold val
            rw [hdv.1, hdv.2.1, hdv.2.2]
          rw [st, if_pos (hfit.2 ⟨f0, f1, f2⟩), ← hq0, ← hq1, ← hq2] at hs
          have ih' := ih _ hs
          refine Ev.pos (by omega) (Ev.pos (by omega) (Ev.pos (by rw [hlen]; omega) ?_))
          simp only [hpw.out]
          refine Ev.pos (by omega) (Ev.pos (by rw [hlen]; omega) ?_)
          rw [e1, e2, Int.toNat_natCast, List.set_set]
          exact ih'
        · rw [st, if_neg (fun h => f2 (hfit.1 h).2.2)] at hs
          exact Ev.neg (by omega) (ih _ hs)
      · rw [st, if_neg (fun h => f1 (hfit.1 h).2.1)] at hs
        exact Ev.neg (by omega) (ih _ hs)
    · rw [st, if_neg (fun h => f0 (hfit.1 h).1)] at hs
      exact Ev.neg (by omega) (ih _ hs)
theorem w64n (n : Nat) (h : n ≤ 10000000) : wrap64 (n : Int) = (n : Int) := w64 (by omega) (by omega)
theorem tdiv_nat (m n : Nat) : Int.tdiv (m : Int) (n : Int) = ((m / n : Nat) : Int) := (Int.ofNat_tdiv m n).symm
theorem tmod_nat (m n : Nat) : Int.tmod (m : Int) (n : Int) = ((m % n : Nat) : Int) := (Int.ofNat_tmod m n).symm
theorem cnt_l0 (l : List ByteArray) (hl : IsSet l) (own : List (List Int)) (hown : own = l.map fun s => lcOf s.data.toList) (hok : Rows own) (a b c B C L : Nat) (hd : Dims a b c B C L) (hB13 : B ≤ 13) (hC13 : C ≤ 13) (hL3 : L ≤ 3000) : ∀ (d m : Nat), m + d = L → 1 ≤ m →
    Ev (fun k => spec_CountByLetters.l0 k l (B : Int) (C : Int) (tab own B C L m) (m : Int)) (V own a b c, true)
  | 0, m, hm, h1 => by
    have hmL : m = L := by omega
    subst hmL
    have hlen : ((tab own B C m m).length : Int) = (m : Int) := by rw [tab_len]
    have hb := hd.hB
    have hc := hd.hC
    have hL := hd.hL
    refine Ev.succ ?_
    simp only [spec_CountByLetters.l0, hlen]
    have e1 : Aside0 (wrap64 ((m : Int) - 1) = ((m - 1 : Nat) : Int)) := ⟨by rw [w64 (by omega) (by omega)]; omega⟩
    rw [e1.out]
    refine Ev.neg (by omega) (Ev.pos (by omega) (Ev.pos (by omega) (Ev.pure ?_)))
    rw [rd_nat _ _ (by rw [tab_len]; omega), tab_get _ _ _ _ _ _ (by omega), if_pos (by omega)]
    have hp := place_div (x := a) (y := b) (z := c) (B := B) (C := C) (by omega) (by omega)
    unfold val
    rw [show m - 1 = (a * B + b) * C + c by omega, hp.1, hp.2.1, hp.2.2]
  | d + 1, m, hm, h1 => by
    have ih := cnt_l0 l hl own hown hok a b c B C L hd hB13 hC13 hL3 d (m + 1) (by omega) (by omega)
    have hlen : ((tab own B C L m).length : Int) = (L : Int) := by rw [tab_len]
    have hb := hd.hB
    have hc := hd.hC
    have hBC : 1 ≤ B * C := Nat.mul_pos (by omega) (by omega)
    have hBC2 : B * C ≤ 13 * 13 := Nat.mul_le_mul hB13 hC13
    have hml : m < L := by omega
    have hat := hd.of_at hml
    have hfew := hd.few
    have hmc : m / C ≤ m := Nat.div_le_self _ _
    have e0 : Aside0 (wrap64 ((B : Int) * (C : Int)) = ((B * C : Nat) : Int)) := ⟨by rw [← Int.natCast_mul, w64 (by omega) (by omega)]⟩
    have e1 : Aside0 (wrap64 ((m / (B * C) : Nat) : Int) = ((m / (B * C) : Nat) : Int)) := ⟨w64n _ (Nat.le_trans (Nat.div_le_self _ _) (by omega))⟩
    have e2 : Aside0 (wrap64 ((m / C : Nat) : Int) = ((m / C : Nat) : Int)) := ⟨w64n _ (by omega)⟩
    refine Ev.succ ?_
    simp only [spec_CountByLetters.l0, hlen, e0.out, tdiv_nat, tmod_nat, e1.out, e2.out]
    refine Ev.pos (by omega) (Ev.neg (by omega) (Ev.neg (by omega) (Ev.neg (by omega) ?_)))
    have hne : ¬ (m / (B * C) = 0 ∧ (m / C) % B = 0 ∧ m % C = 0) := by
      intro h
      have := place_of m B C
      rw [h.1, h.2.1, h.2.2] at this
      simp at this
      omega
    have h := cnt_l1 l hl own hown hok a b c B C L hd m hml (V own a b c, true) ih l.length 0 0 (by omega) (by rw [List.drop_zero]; exact (V_eq own hok _ _ _ hne).symm)
    rw [tab_self own B C L m hml] at h
    exact h
theorem table_one (own : List (List Int)) (B C L : Nat) (hL : 1 ≤ L) : (List.replicate L (0 : Int)).set 0 1 = tab own B C L 1 := by
  refine List.ext_getElem (by simp [tab]) (fun j h1 h2 => ?_)
  have hj : j < L := by rw [tab_len] at h2; exact h2
  rw [List.getElem_set, tab_get _ _ _ _ _ _ hj]
  by_cases e : 0 = j
  · subst e
    rw [if_pos rfl, if_pos (by omega)]
    simp [val, V, G]
  · rw [if_neg e, if_neg (by omega), List.getElem_replicate]
theorem cbl_same (l : List ByteArray) (m : List Int) (hl : l.length ≤ 1048576) (hm : m.length ≤ 1048576) : ∃ r, Ev (fun k => spec_CountByLetters.f k l m) r ∧ Ev (fun k => impl_CountByLetters.f k l m) r := by
  obtain ⟨b1, s1, s2, hset⟩ := isSet_same l hl
  unfold spec_CountByLetters.f impl_CountByLetters.f
  cases b1 with
  | false =>
    refine ⟨(0, false), Ev.bind s1 (Ev.neg (by simp) (Ev.succ ?_)), Ev.bind s2 (Ev.neg (by simp) (Ev.now _))⟩
    simp only [spec_CountByLetters.j0]
    exact Ev.pos trivial (Ev.now _)
  | true =>
    obtain ⟨b2, c1, c2, hcnt⟩ := counts_same m hm
    cases b2 with
    | false =>
      refine ⟨(0, false), Ev.bind s1 (Ev.pos rfl (Ev.bind c1 (Ev.succ ?_))), Ev.bind s2 (Ev.pos rfl (Ev.bind c2 (Ev.neg (by simp) (Ev.now _))))⟩
      simp only [spec_CountByLetters.j0]
      exact Ev.pos rfl (Ev.now _)
    | true =>
      have hs := hset rfl
      obtain ⟨a, b, c, rfl, habc⟩ := hcnt rfl
      obtain ⟨own, hown⟩ : ∃ own, own = l.map fun s => lcOf s.data.toList := ⟨_, rfl⟩
      have hok : Rows own := fun x hx => by
        rw [hown] at hx
        obtain ⟨s, hs', rfl⟩ := List.mem_map.1 hx
        exact row_ok (hs.short s hs')
      have hol : own.length ≤ 12 := by rw [hown, List.length_map]; exact hs.few
      refine ⟨(V own a b c, true), Ev.bind s1 (Ev.pos rfl (Ev.bind c1 (Ev.succ ?_))), Ev.bind s2 (Ev.pos rfl (Ev.bind c2 (Ev.pos rfl (Ev.pos ?_ (Ev.bind (rows_ev l) ?_)))))⟩
      · have r0 : rd [(a : Int), (b : Int), (c : Int)] 0 = (a : Int) := rfl
        have r1 : rd [(a : Int), (b : Int), (c : Int)] 1 = (b : Int) := rfl
        have r2 : rd [(a : Int), (b : Int), (c : Int)] 2 = (c : Int) := rfl
        have hl3 : (([(a : Int), (b : Int), (c : Int)] : List Int).length : Int) = 3 := rfl
        have b1 : (a + 1) * (b + 1) ≤ 13 * 13 := Nat.mul_le_mul (by omega) (by omega)
        have b2 : (a + 1) * (b + 1) * (c + 1) ≤ 13 * 13 * 13 := Nat.mul_le_mul b1 (by omega)
        have b3 : 1 ≤ (a + 1) * (b + 1) * (c + 1) := Nat.mul_pos (Nat.mul_pos (by omega) (by omega)) (by omega)
        have eA : Aside0 (wrap64 ((a : Int) + 1) = ((a + 1 : Nat) : Int)) := ⟨by rw [w64 (by omega) (by omega)]; omega⟩
        have eB : Aside0 (wrap64 ((b : Int) + 1) = ((b + 1 : Nat) : Int)) := ⟨by rw [w64 (by omega) (by omega)]; omega⟩
        have eC : Aside0 (wrap64 ((c : Int) + 1) = ((c + 1 : Nat) : Int)) := ⟨by rw [w64 (by omega) (by omega)]; omega⟩
        have eAB : Aside0 (wrap64 (((a + 1 : Nat) : Int) * ((b + 1 : Nat) : Int)) = (((a + 1) * (b + 1) : Nat) : Int)) := ⟨by rw [← Int.natCast_mul, w64 (by omega) (by omega)]⟩
        have eL : Aside0 (wrap64 ((((a + 1) * (b + 1) : Nat) : Int) * ((c + 1 : Nat) : Int)) = (((a + 1) * (b + 1) * (c + 1) : Nat) : Int)) := ⟨by rw [← Int.natCast_mul, w64 (by omega) (by omega)]⟩
        have hdim : Dims a b c (b + 1) (c + 1) ((a + 1) * (b + 1) * (c + 1)) := ⟨rfl, rfl, by
          have : (a + 1) * (b + 1) = a * (b + 1) + b + 1 := by rw [Nat.succ_mul]; omega
          rw [this, Nat.succ_mul]; omega, habc⟩
        simp only [spec_CountByLetters.j0, r0, r1, r2, hl3, eA.out, eB.out, eC.out, eAB.out, eL.out]
        refine Ev.neg (by decide) (Ev.pos (by omega) (Ev.pos (by omega) (Ev.pos (by omega) (Ev.pos (by omega) (Ev.pos (by omega) (Ev.known (fun _ => rfl) (Ev.pos (by rw [List.length_replicate]; omega) ?_)))))))
        have h := cnt_l0 l hs own hown hok a b c (b + 1) (c + 1) ((a + 1) * (b + 1) * (c + 1)) hdim (by omega) (by omega) (by omega) ((a + 1) * (b + 1) * (c + 1) - 1) 1 (by omega) (by omega)
        rw [← table_one own (b + 1) (c + 1) ((a + 1) * (b + 1) * (c + 1)) b3] at h
        simp only [Int.toNat_natCast]
        exact h
      · exact ⟨hs.few, rfl, ⟨by simp [rd], by simp [rd], by simp [rd]⟩, by simp [rd]; omega⟩
      · rw [← hown]
        have h := count_ev own hol hok (a + b + c + 1) a b c (by omega) habc
        exact Ev.bind h (Ev.now _)
theorem FnExactCountByLetters : laws_FnExactCountByLetters.Pure := by
  intro l m hl hs hm _ _
  refine Ev.rounds ?_
  unfold laws_FnExactCountByLetters.f
  refine Ev.cases (fun _ => Ev.now _) (fun hm' => ?_)
  have hm1 : m.length ≤ 1048576 := by omega
  obtain ⟨z, hz, hzz⟩ := szS_ev l hl hs
  refine Ev.bind hz (Ev.cases (fun _ => Ev.now _) (fun hzn => ?_))
  obtain ⟨hl1, -⟩ := hzz (by omega)
  obtain ⟨r, e1, e2⟩ := cbl_same l m hl1 hm1
  refine Ev.bind (toS_ev l hl1) (Ev.bind (toIntS_ev m hm1) (Ev.bind e1 (Ev.bind (toS_ev l hl1) (Ev.bind (toIntS_ev m hm1) (Ev.bind e2 (Ev.pos rfl (Ev.succ ?_)))))))
  simp only [laws_FnExactCountByLetters.j0, bne_self_eq_false]
  exact Ev.neg (by simp) (Ev.bind (toS_ev l hl1) (Ev.bind (eqS_ev l hl1) (Ev.pos rfl (Ev.bind (toIntS_ev m hm1) (Ev.bind (eqIntS_ev m hm1) (Ev.pos rfl (Ev.now _)))))))
end Go.Proofs.YtfmkhjoelcbnnaaDoor.Pure
