/- CanMeet of the program and of the reference answer alike for all arguments, and leave them as they were: no condition. -/
import Derived.Test.YtoemhhfkbclbiaaDoorXFnExactCanMeetxp
namespace Go.Proofs.YtoemhhfkbclbiaaDoor.Pure
set_option linter.unusedSimpArgs false
set_option linter.unusedVariables false
open Go.RowKit Go.Proofs.YtoemhhfkbclbiaaDoor.Hand Go.Proofs.YtoemhhfkbclbiaaDoor.XFnExactCanMeet Go.Proofs.YtoemhhfkbclbiaaDoorW.PrintWords Go.Proofs.YtoemhhfkbclbiaaDoorW.PrintLast Go.Proofs.YtoemhhfkbclbiaaDoorW.PrintMore

theorem w1 {i : Int} (h0 : 0 ≤ i) (h : i < 9223372036854775807) : wrap64 (i + 1) = i + 1 := by unfold wrap64; omega
theorem w64 {i : Int} (h0 : -9223372036854775808 ≤ i) (h : i < 9223372036854775808) : wrap64 i = i := by unfold wrap64; omega
theorem rd_nat (l : List Int) (i : Nat) (h : i < l.length) : rd l (i : Int) = l[i] := by
  unfold rd; simp [List.getD_eq_getElem?_getD, h]
theorem Ev.pos {α : Type} {c : Prop} [Decidable c] {g g' : Nat → Option α} {r : α} (h : c) (k : Ev g r) : Ev (fun n => if c then g n else g' n) r :=
  Ev.congr (fun n => if_pos h) k
theorem Ev.neg {α : Type} {c : Prop} [Decidable c] {g g' : Nat → Option α} {r : α} (h : ¬ c) (k : Ev g' r) : Ev (fun n => if c then g n else g' n) r :=
  Ev.congr (fun n => if_neg h) k
theorem Ev.cases {α : Type} {c : Prop} [Decidable c] {g g' : Nat → Option α} {r : α} (h : c → Ev g r) (k : ¬ c → Ev g' r) : Ev (fun n => if c then g n else g' n) r := by
  by_cases e : c
  · exact Ev.pos e (h e)
  · exact Ev.neg e (k e)
/-- a call whose answer is known at every number of rounds -/
theorem Ev.known {α β : Type} {g : Nat → Option α} {f : Nat → α → Option β} {a : α} {r : β} (h : ∀ n, g n = some a) (k : Ev (fun n => f n a) r) : Ev (fun n => (g n).bind (f n)) r :=
  Ev.bind ⟨0, fun n _ => h n⟩ k
/-- one bind of two, joined with what follows -/
theorem Ev.pure {α : Type} {r q : α} (h : r = q) : Ev (fun _ => some r) q := h ▸ Ev.now r
theorem Ev.succ {α : Type} {g : Nat → Option α} {r : α} (h : Ev (fun k => g (k + 1)) r) : Ev g r := Ev.step (f := fun k => g (k + 1)) (fun _ => rfl) h

theorem rdOf_nat (l : List ByteArray) (i : Nat) (h : i < l.length) : rdOf ByteArray.empty l (i : Int) = l[i] := by
  unfold rdOf; simp [List.getD_eq_getElem?_getD, h]

theorem maxLen_le : maxLen ≤ 9223372036854775807 := by unfold maxLen; omega
theorem szS_l0 (l : List ByteArray) (hl : l.length ≤ 9223372036854775807) (hs : ∀ s ∈ l, s.size ≤ 9223372036854775807) : ∀ (d i : Nat) (b : Int), i + d = l.length → 0 ≤ b → b ≤ 1048576 → ∃ r, Ev (fun k => laws_szStringS.l0 k l b (i : Int)) r ∧ (0 ≤ r → r ≤ 1048576 ∧ ∀ s ∈ l.drop i, s.size ≤ 1048576)
  | 0, i, b, hd, h0, hb => by
    refine ⟨b, Ev.succ ?_, fun _ => ⟨hb, fun s h => ?_⟩⟩
    · simp only [laws_szStringS.l0]; exact Ev.neg (by omega) (Ev.now _)
    · rw [List.drop_of_length_le (by omega)] at h; cases h
  | d + 1, i, b, hd, h0, hb => by
    have h1 : i < l.length := by omega
    have h2 := hs _ (List.getElem_mem h1)
    have e : Aside0 (wrap64 (b - (l[i].size : Int)) = b - (l[i].size : Int)) := ⟨w64 (by omega) (by omega)⟩
    by_cases hc : b - (l[i].size : Int) < 0
    · refine ⟨-1, Ev.succ ?_, fun h => by omega⟩
      simp only [laws_szStringS.l0, rdOf_nat l i h1, e.out]
      exact Ev.pos (by omega) (Ev.pos (by omega) (Ev.pos hc (Ev.now _)))
    · obtain ⟨r, hr, hh⟩ := szS_l0 l hl hs d (i + 1) (b - (l[i].size : Int)) (by omega) (by omega) (by omega)
      refine ⟨r, Ev.succ ?_, fun h => ⟨(hh h).1, fun s hm => ?_⟩⟩
      · simp only [laws_szStringS.l0, rdOf_nat l i h1, e.out, w1 (show 0 ≤ (i : Int) by omega) (show (i : Int) < 9223372036854775807 by omega)]
        exact Ev.pos (by omega) (Ev.pos (by omega) (Ev.neg hc hr))
      · rw [List.drop_eq_getElem_cons h1] at hm
        rcases List.mem_cons.1 hm with rfl | hm
        · omega
        · exact (hh h).2 s hm
theorem szS_ev (l : List ByteArray) (hl : l.length ≤ maxLen) (hs : ∀ s ∈ l, s.size ≤ maxLen) : ∃ r, Ev (fun k => laws_szStringS.f k l 1048576) r ∧ (0 ≤ r → l.length ≤ 1048576 ∧ r ≤ 1048576 ∧ ∀ s ∈ l, s.size ≤ 1048576) := by
  have hm := maxLen_le
  have e : Aside0 (wrap64 (1048576 - (l.length : Int)) = 1048576 - (l.length : Int)) := ⟨w64 (by omega) (by omega)⟩
  unfold laws_szStringS.f
  rw [e.out]
  by_cases hc : 1048576 - (l.length : Int) < 0
  · exact ⟨-1, Ev.pos hc (Ev.now _), fun h => by omega⟩
  · obtain ⟨r, hr, hh⟩ := szS_l0 l (by omega) (fun s h => Nat.le_trans (hs s h) hm) l.length 0 (1048576 - (l.length : Int)) (by omega) (by omega) (by omega)
    exact ⟨r, Ev.neg hc hr, fun h => ⟨by omega, (hh h).1, by simpa using (hh h).2⟩⟩
theorem toS_l0 (l : List ByteArray) (hl : l.length ≤ 1048576) : ∀ (d i : Nat) (xs : List ByteArray), i + d = l.length → xs.length = l.length → xs.take i = l.take i → Ev (fun k => laws_toStringS.l0 k l xs (i : Int)) l
  | 0, i, xs, hd, hx, ht => by
    refine Ev.step (f := fun _ => some xs) (fun k => ?_) (Ev.pure ?_)
    · simp only [laws_toStringS.l0]; rw [if_neg (by omega)]
    · rw [List.take_of_length_le (by omega), List.take_of_length_le (by omega)] at ht; exact ht
  | d + 1, i, xs, hd, hx, ht => by
    refine Ev.step (f := fun k => laws_toStringS.l0 k l (xs.set i (rdOf ByteArray.empty l i)) ((i + 1 : Nat) : Int)) (fun k => ?_) (toS_l0 l hl d (i + 1) _ (by omega) (by simp [hx]) ?_)
    · simp only [laws_toStringS.l0]; rw [if_pos (by omega), if_pos (by omega), if_pos (by omega), w1 (by omega) (by omega)]; simp
    · have h1 : i < l.length := by omega
      have h2 : i < (xs.set i (rdOf ByteArray.empty l i)).length := by simp; omega
      have e := rdOf_nat l i h1
      rw [List.take_succ_eq_append_getElem h2, List.take_succ_eq_append_getElem h1, List.take_set, List.set_eq_of_length_le (by simp; omega), ht]
      simp [e]
theorem toS_ev (l : List ByteArray) (hl : l.length ≤ 1048576) : Ev (fun k => laws_toStringS.f k l) l := by
  unfold laws_toStringS.f
  refine Ev.pos (by omega) (Ev.pos (by omega) ?_)
  have h := toS_l0 l hl l.length 0 (List.replicate l.length ⟨#[]⟩) (by omega) (by simp) (by simp)
  simpa using h
theorem eqS_l0 (l : List ByteArray) (hl : l.length ≤ 1048576) : ∀ (d i : Nat), i + d = l.length → Ev (fun k => laws_eqStringS.l0 k l l (i : Int)) true
  | 0, i, hd => Ev.step (f := fun _ => some true) (fun k => by simp only [laws_eqStringS.l0]; rw [if_neg (by omega)]) (Ev.now _)
  | d + 1, i, hd => by
    refine Ev.step (f := fun k => laws_eqStringS.l0 k l l ((i + 1 : Nat) : Int)) (fun k => ?_) (eqS_l0 l hl d (i + 1) (by omega))
    simp only [laws_eqStringS.l0]; rw [if_pos (by omega), if_pos (by omega), if_pos (by omega), if_pos trivial, w1 (by omega) (by omega)]; simp
theorem eqS_ev (l : List ByteArray) (hl : l.length ≤ 1048576) : Ev (fun k => laws_eqStringS.f k l l) true := by
  unfold laws_eqStringS.f
  exact Ev.pos rfl (by simpa using eqS_l0 l hl l.length 0 (by omega))


theorem spec_in (a b c : Int) : spec_l1In.f a b c = some (decide (b ≤ a ∧ a ≤ c)) := by
  unfold spec_l1In.f
  by_cases h : a ≥ b
  · rw [if_pos h]; simp [h]
  · rw [if_neg h]; simp; omega

theorem impl_in_eq (a b c : Int) : impl_in.f a b c = some (decide (b ≤ a ∧ a ≤ c)) := by
  unfold impl_in.f
  by_cases h : b ≤ a
  · rw [if_pos h]; simp [h]
  · rw [if_neg h]; simp [h]

theorem bt_nat (s : ByteArray) (i : Nat) (h : i < s.data.toList.length) : bt s (i : Int) = ((s.data.toList[i]).toNat : Int) := by
  have h' : i < s.size := by have e : s.size = s.data.toList.length := Array.length_toList.symm; omega
  unfold bt
  rw [dif_pos (show (i : Int).toNat < s.size by simpa using h')]
  simp [ByteArray.getElem_eq_getElem_data]
theorem size_data (s : ByteArray) : s.size = s.data.toList.length := Array.length_toList.symm
theorem letter_test (c : UInt8) : ((c.toNat : Int) < 97 ∨ ((c.toNat : Int) - 97) % 256 ≥ 3) ↔ isLetter c = false := by
  have := c.toNat_lt
  unfold isLetter
  rw [decide_eq_false_iff_not]
  omega
theorem wdIs_l0 (s : ByteArray) (hs : s.size < 4611686018427387904) : ∀ (d i : Nat), i + d = s.data.toList.length → Ev (fun k => spec_wdIs.l0 k s (i : Int)) ((s.data.toList.drop i).all isLetter)
  | 0, i, hd => by
    refine Ev.succ ?_
    simp only [spec_wdIs.l0]
    exact Ev.neg (by rw [size_data]; omega) (Ev.pure (by rw [List.drop_of_length_le (by omega)]; rfl))
  | d + 1, i, hd => by
    have h1 : i < s.data.toList.length := by omega
    have ih := wdIs_l0 s hs d (i + 1) (by omega)
    have ht := letter_test s.data.toList[i]
    have hsz := size_data s
    rw [List.drop_eq_getElem_cons h1, List.all_cons]
    refine Ev.succ ?_
    simp only [spec_wdIs.l0, bt_nat s i h1, w1 (show 0 ≤ (i : Int) by omega) (show (i : Int) < 9223372036854775807 by omega)]
    refine Ev.pos (by omega) (Ev.pos (by omega) (Ev.cases (fun h => ?_) (fun h => Ev.cases (fun h' => ?_) (fun h' => ?_))))
    · rw [ht.1 (Or.inl h)]; exact Ev.now _
    · rw [ht.1 (Or.inr h')]; exact Ev.now _
    · have : isLetter s.data.toList[i] = true := by
        cases hl : isLetter s.data.toList[i]
        · exact absurd (ht.2 hl) (by omega)
        · rfl
      rw [this, Bool.true_and]; exact ih
theorem wdIs_ev (s : ByteArray) (hs : s.size < 4611686018427387904) : Ev (fun k => spec_wdIs.f k s) (s.data.toList.all isLetter) := by
  have h := wdIs_l0 s hs s.data.toList.length 0 (by omega)
  simpa [spec_wdIs.f] using h

/-- a word of a set -/
def short (s : ByteArray) : Bool := decide (1 ≤ s.size ∧ s.size ≤ 8) && s.data.toList.all isLetter
theorem wdShort_ev (s : ByteArray) : Ev (fun k => spec_wdShort.f k s) (short s) := by
  unfold spec_wdShort.f short
  refine Ev.known (fun _ => spec_in _ _ _) (Ev.cases (fun h => ?_) (fun h => ?_))
  · have h' := of_decide_eq_true h
    rw [decide_eq_true (show 1 ≤ s.size ∧ s.size ≤ 8 by omega), Bool.true_and]
    exact Ev.bind (wdIs_ev s (by omega)) (Ev.now _)
  · rw [decide_eq_false (show ¬ (1 ≤ s.size ∧ s.size ≤ 8) by intro hh; exact h (decide_eq_true (by omega))), Bool.false_and]
    exact Ev.now _
theorem isShort_eq (s : ByteArray) : impl_isShort.f s = some (short s) := by
  unfold impl_isShort.f impl_isWord.f short
  by_cases h : 1 ≤ s.size ∧ s.size ≤ 8
  · rw [decide_eq_true h, decide_eq_true (show s.size ≤ 60 by omega)]
    cases s.data.toList.all isLetter
    · rfl
    · simp [impl_in_eq]; omega
  · rw [decide_eq_false h]
    cases (decide (s.size ≤ 60) && s.data.toList.all isLetter)
    · rfl
    · simp [impl_in_eq]; omega
theorem bytesLess_cmp : ∀ (x y : List UInt8), Op.bytesLess x y = decide (Lib.compareBytes x y < 0)
  | [], [] => by simp [Op.bytesLess, Lib.compareBytes]
  | _ :: _, [] => by simp [Op.bytesLess, Lib.compareBytes]
  | [], _ :: _ => by simp [Op.bytesLess, Lib.compareBytes]
  | a :: x, b :: y => by
    rw [Op.bytesLess, bytesLess_cmp x y, Lib.compareBytes]
    by_cases h1 : a < b
    · simp [h1]
    · by_cases h2 : b < a
      · have : (a == b) = false := by
          rw [beq_eq_false_iff_ne]; rintro rfl; exact h1 h2
        simp [h1, h2, this]
      · have : a = b := by
          have h1' : ¬ a.toNat < b.toNat := h1
          have h2' : ¬ b.toNat < a.toNat := h2
          exact UInt8.toNat_inj.1 (by omega)
        subst this; simp [h1]
theorem bytesLess_irrefl : ∀ (x : List UInt8), Op.bytesLess x x = false
  | [] => rfl
  | a :: x => by rw [Op.bytesLess, bytesLess_irrefl x]; simp
theorem bytesLess_trans : ∀ (x y z : List UInt8), Op.bytesLess x y = true → Op.bytesLess y z = true → Op.bytesLess x z = true
  | _, [], _ => by simp [Op.bytesLess]
  | _, _ :: _, [] => by simp [Op.bytesLess]
  | [], _ :: _, _ :: _ => by simp [Op.bytesLess]
  | a :: x, b :: y, c :: z => by
    have ih := bytesLess_trans x y z
    simp only [Op.bytesLess, Bool.or_eq_true, decide_eq_true_eq, Bool.and_eq_true, beq_iff_eq]
    intro h1 h2
    rcases h1 with h1 | ⟨rfl, h1⟩
    · rcases h2 with h2 | ⟨rfl, h2⟩
      · exact Or.inl (UInt8.lt_trans h1 h2)
      · exact Or.inl h1
    · rcases h2 with h2 | ⟨rfl, h2⟩
      · exact Or.inl h2
      · exact Or.inr ⟨rfl, ih h1 h2⟩
/-- the order of words: by length, then by letters -/
def wless (a b : ByteArray) : Bool := decide (a.size < b.size) || (decide (a.size = b.size) && Op.bytesLess a.data.toList b.data.toList)
theorem wless_irrefl (a : ByteArray) : wless a a = false := by unfold wless; rw [bytesLess_irrefl]; simp
theorem wless_trans (a b c : ByteArray) (h1 : wless a b = true) (h2 : wless b c = true) : wless a c = true := by
  unfold wless at *
  simp only [Bool.or_eq_true, decide_eq_true_eq, Bool.and_eq_true] at *
  rcases h1 with h1 | ⟨h1, g1⟩ <;> rcases h2 with h2 | ⟨h2, g2⟩
  · left; omega
  · left; omega
  · left; omega
  · exact Or.inr ⟨by omega, bytesLess_trans _ _ _ g1 g2⟩
theorem wdLess_eq (a b : ByteArray) : spec_wdLess.f a b = some (wless a b) := by
  unfold spec_wdLess.f wless
  by_cases h : a.size < b.size
  · rw [if_pos (by omega)]; simp [h]
  · rw [if_neg (by omega)]
    by_cases h' : a.size = b.size
    · rw [if_pos (by omega)]; simp [h', ByteArray.toList_eq]
    · rw [if_neg (by omega)]; simp [h, h']
theorem or2 (a b : Int) : Ev (fun k => cmp_Or_int.f k [a, b]) (if a = 0 then b else a) := by
  refine ⟨3, fun k hk => ?_⟩
  obtain ⟨k, rfl⟩ : ∃ m, k = m + 3 := ⟨k - 3, by omega⟩
  by_cases ha : a = 0 <;> by_cases hb : b = 0 <;> simp [cmp_Or_int.f, cmp_Or_int.l0, rd, wrap64, ha, hb]
theorem compareWords_ev (a b : ByteArray) : ∃ c, Ev (fun k => impl_compareWords.f k a b) c ∧ wless a b = decide (c < 0) := by
  have hn : ∀ x : Int, cmp_isNaN_int.f x = some false := fun x => by simp [cmp_isNaN_int.f]
  have hc : cmp_Compare_int.f (a.size : Int) (b.size : Int) = some (if a.size < b.size then -1 else if b.size < a.size then 1 else 0) := by
    unfold cmp_Compare_int.f
    simp only [hn, Option.bind_some]
    rw [if_neg (by simp), if_neg (by simp)]
    by_cases h1 : a.size < b.size
    · rw [if_pos (by omega), if_pos h1]
    · rw [if_neg (by omega), if_neg h1]
      by_cases h2 : b.size < a.size
      · rw [if_pos (by omega), if_pos h2]
      · rw [if_neg (by omega), if_neg h2]
  refine ⟨_, Ev.known (fun _ => hc) (Ev.known (fun _ => rfl) (Ev.bind (or2 _ _) (Ev.now _))), ?_⟩
  unfold wless
  rw [bytesLess_cmp]
  by_cases h1 : a.size < b.size
  · simp [h1]
  · by_cases h2 : b.size < a.size
    · rw [if_neg h1, if_pos h2]; simp [h1, show ¬ a.size = b.size by omega]
    · rw [if_neg h1, if_neg h2]; simp [h1, show a.size = b.size by omega]
/-- a set: words of the right size, one by one in order -/
def SetUpto (l : List ByteArray) (i : Nat) : Prop := ∀ (j : Nat) (h : j < l.length), i ≤ j → short l[j] = true ∧ (0 < j → wless l[j - 1] l[j] = true)
theorem set_l0 (l : List ByteArray) (hl : l.length ≤ 1048576) : ∀ (d i : Nat), i + d = l.length → ∃ b, Ev (fun k => spec_wdSet.l0 k l l (l.length : Int) (i : Int)) b ∧ Ev (fun k => impl_isSet.l0 k l l (l.length : Int) (i : Int)) (b && decide (l.length ≤ 12)) ∧ (b = true → SetUpto l i)
  | 0, i, hd => by
    refine ⟨true, Ev.succ ?_, Ev.succ ?_, fun _ j h hj => by omega⟩
    · simp only [spec_wdSet.l0]; exact Ev.neg (by omega) (Ev.now _)
    · simp only [impl_isSet.l0]; refine Ev.neg (by omega) (Ev.pure ?_); rw [Bool.true_and]; exact decide_eq_decide.2 (by omega)
  | d + 1, i, hd => by
    have h1 : i < l.length := by omega
    obtain ⟨b, e1, e2, hb⟩ := set_l0 l hl d (i + 1) (by omega)
    have s1 := wdShort_ev l[i]
    have s2 := isShort_eq l[i]
    cases hs : short l[i]
    · rw [hs] at s1 s2
      refine ⟨false, Ev.succ ?_, Ev.succ ?_, fun h => by cases h⟩
      · simp only [spec_wdSet.l0, rdOf_nat l i h1]
        exact Ev.pos (by omega) (Ev.pos (by omega) (Ev.pos (by omega) (Ev.bind s1 (Ev.neg (by simp) (Ev.now _)))))
      · simp only [impl_isSet.l0, rdOf_nat l i h1]
        exact Ev.pos (by omega) (Ev.pos (by omega) (Ev.pos (by omega) (Ev.known (fun _ => s2) (Ev.neg (by simp) (Ev.now _)))))
    · rw [hs] at s1 s2
      by_cases h0 : i = 0
      · refine ⟨b, Ev.succ ?_, Ev.succ ?_, fun h j hj hij => ?_⟩
        · simp only [spec_wdSet.l0, rdOf_nat l i h1, w1 (show 0 ≤ (i : Int) by omega) (show (i : Int) < 9223372036854775807 by omega)]
          exact Ev.pos (by omega) (Ev.pos (by omega) (Ev.pos (by omega) (Ev.bind s1 (Ev.pos rfl (Ev.neg (by omega) e1)))))
        · simp only [impl_isSet.l0, rdOf_nat l i h1, w1 (show 0 ≤ (i : Int) by omega) (show (i : Int) < 9223372036854775807 by omega)]
          exact Ev.pos (by omega) (Ev.pos (by omega) (Ev.pos (by omega) (Ev.known (fun _ => s2) (Ev.pos rfl (Ev.neg (by omega) e2)))))
        · by_cases he : i = j
          · subst he; exact ⟨hs, fun h => by omega⟩
          · exact hb h j hj (by omega)
      · obtain ⟨c, hc, hw⟩ := compareWords_ev l[i - 1] l[i]
        have e3 : Aside0 (wrap64 ((i : Int) - 1) = ((i - 1 : Nat) : Int)) := ⟨by rw [w64 (by omega) (by omega)]; omega⟩
        have l1 := wdLess_eq l[i - 1] l[i]
        refine ⟨wless l[i - 1] l[i] && b, Ev.succ ?_, Ev.succ ?_, fun h j hj hij => ?_⟩
        · simp only [spec_wdSet.l0, rdOf_nat l i h1, e3.out, rdOf_nat l (i - 1) (by omega), w1 (show 0 ≤ (i : Int) by omega) (show (i : Int) < 9223372036854775807 by omega)]
          refine Ev.pos (by omega) (Ev.pos (by omega) (Ev.pos (by omega) (Ev.bind s1 (Ev.pos rfl (Ev.pos (by omega) (Ev.pos (by omega) (Ev.pos (by omega) (Ev.known (fun _ => l1) (Ev.cases (fun h => ?_) (fun h => ?_))))))))))
          · rw [h, Bool.true_and]; exact e1
          · rw [Bool.eq_false_iff.mpr h, Bool.false_and]; exact Ev.now _
        · simp only [impl_isSet.l0, rdOf_nat l i h1, e3.out, rdOf_nat l (i - 1) (by omega), w1 (show 0 ≤ (i : Int) by omega) (show (i : Int) < 9223372036854775807 by omega)]
          refine Ev.pos (by omega) (Ev.pos (by omega) (Ev.pos (by omega) (Ev.known (fun _ => s2) (Ev.pos rfl (Ev.pos (by omega) (Ev.pos (by omega) (Ev.pos (by omega) (Ev.bind hc (Ev.cases (fun h => ?_) (fun h => ?_))))))))))
          · rw [hw, decide_eq_false (by omega)]; exact Ev.now _
          · rw [hw, decide_eq_true (by omega)]; exact e2
        · simp only [Bool.and_eq_true] at h
          by_cases he : i = j
          · subst he; exact ⟨hs, fun _ => h.1⟩
          · exact hb h.2 j hj (by omega)
/-- what a set is -/
structure IsSet (l : List ByteArray) : Prop where
  few : l.length ≤ 12
  each : SetUpto l 0
theorem isSet_same (l : List ByteArray) (hl : l.length ≤ 1048576) : ∃ b, Ev (fun k => spec_wdSet.f k l) b ∧ Ev (fun k => impl_isSet.f k l) b ∧ (b = true → IsSet l) := by
  obtain ⟨b, h1, h2, hb⟩ := set_l0 l hl l.length 0 (by omega)
  unfold spec_wdSet.f impl_isSet.f
  by_cases h12 : l.length ≤ 12
  · rw [decide_eq_true h12, Bool.and_true] at h2
    exact ⟨b, Ev.neg (by omega) h1, h2, fun h => ⟨h12, hb h⟩⟩
  · rw [decide_eq_false h12, Bool.and_false] at h2
    exact ⟨false, Ev.pos (by omega) (Ev.now _), h2, fun h => by cases h⟩
theorem IsSet.lt {l : List ByteArray} (h : IsSet l) : ∀ (j i : Nat) (hj : j < l.length) (hi : i < j), wless l[i] l[j] = true
  | 0, i, hj, hi => by omega
  | j + 1, i, hj, hi => by
    have h1 := (h.each (j + 1) hj (by omega)).2 (by omega)
    by_cases e : i = j
    · subst e; exact h1
    · exact wless_trans _ _ _ (h.lt j i (by omega) (by omega)) h1
theorem IsSet.short {l : List ByteArray} (h : IsSet l) (w : ByteArray) (hw : w ∈ l) : Pure.short w = true := by
  obtain ⟨i, hi, rfl⟩ := List.getElem_of_mem hw
  exact (h.each i hi (by omega)).1
theorem IsSet.size {l : List ByteArray} (h : IsSet l) (w : ByteArray) (hw : w ∈ l) : 1 ≤ w.size ∧ w.size ≤ 8 := by
  have := h.short w hw
  unfold Pure.short at this
  simp only [Bool.and_eq_true, decide_eq_true_eq] at this
  exact this.1

/-- a text's letters -/
abbrev ch (s : ByteArray) : List UInt8 := s.data.toList
theorem ch_length (s : ByteArray) : (ch s).length = s.size := Array.length_toList
theorem ch_extract (s : ByteArray) (a b : Nat) : ch (s.extract a b) = ((ch s).drop a).take (b - a) := by
  simp [ch, ByteArray.data_extract, Array.toList_extract, List.extract_eq_take_drop]
theorem ch_drop (s : ByteArray) (a : Nat) : ch (s.extract a s.size) = (ch s).drop a := by
  rw [ch_extract, List.take_of_length_le]; simp only [List.length_drop, ch_length]; omega
theorem begins_test (a w : ByteArray) (h : w.size ≤ a.size) : ((a.extract 0 w.size).toList == w.toList) = (ch w).isPrefixOf (ch a) := by
  rw [ByteArray.toList_eq, ByteArray.toList_eq]
  change (ch (a.extract 0 w.size) == ch w) = _
  rw [ch_extract, List.drop_zero, Nat.sub_zero, ← ch_length w, Bool.eq_iff_iff, beq_iff_eq, List.isPrefixOf_iff_prefix, List.prefix_iff_eq_take]
  exact eq_comm
theorem prefix_long (a w : ByteArray) (h : ¬ w.size ≤ a.size) : (ch w).isPrefixOf (ch a) = false := by
  rw [Bool.eq_false_iff]
  intro hp
  have := (List.isPrefixOf_iff_prefix.1 hp).length_le
  rw [ch_length, ch_length] at this
  exact h this
theorem toList_ch (s : ByteArray) : s.toList = ch s := ByteArray.toList_eq s
theorem chNe (l : List ByteArray) (hne : ∀ w ∈ l, 1 ≤ w.size) : ∀ t ∈ l.map ch, t ≠ [] := fun t ht => by
  obtain ⟨w, hw, rfl⟩ := List.mem_map.1 ht
  intro e; have := hne w hw; have := ch_length w; rw [e] at this; simp at this; omega

theorem wdBegins_eq (a w : ByteArray) : spec_wdBegins.f a w = some ((ch w).isPrefixOf (ch a)) := by
  unfold spec_wdBegins.f
  by_cases h : w.size ≤ a.size
  · rw [if_pos (by omega), if_pos (by omega), begins_test a w h]
  · rw [if_neg (by omega), prefix_long a w h]

theorem wdHas_l0 (l : List ByteArray) (s : ByteArray) (hl : l.length ≤ 1048576) : ∀ (d i : Nat), i + d = l.length → Ev (fun k => spec_wdHas.l0 k s l (l.length : Int) (i : Int)) (((l.drop i).map ch).contains (ch s))
  | 0, i, hd => by
    refine Ev.succ ?_
    simp only [spec_wdHas.l0]
    exact Ev.neg (by omega) (Ev.pure (by rw [List.drop_of_length_le (by omega)]; rfl))
  | d + 1, i, hd => by
    have h1 : i < l.length := by omega
    have ih := wdHas_l0 l s hl d (i + 1) (by omega)
    rw [List.drop_eq_getElem_cons h1, List.map_cons, List.contains_cons]
    refine Ev.succ ?_
    simp only [spec_wdHas.l0, rdOf_nat l i h1, toList_ch, w1 (show 0 ≤ (i : Int) by omega) (show (i : Int) < 9223372036854775807 by omega)]
    refine Ev.pos (by omega) (Ev.pos (by omega) (Ev.pos (by omega) (Ev.cases (fun h => ?_) (fun h => ?_))))
    · rw [h]; simp only [BEq.rfl, Bool.true_or]; exact Ev.now _
    · rw [show (ch s == ch l[i]) = false by rw [beq_eq_false_iff_ne]; exact h, Bool.false_or]; exact ih
theorem wdHas_ev (l : List ByteArray) (s : ByteArray) (hl : l.length ≤ 1048576) : Ev (fun k => spec_wdHas.f k l s) ((l.map ch).contains (ch s)) := by
  have := wdHas_l0 l s hl l.length 0 (by omega)
  simpa [spec_wdHas.f] using this

theorem nodupLe {α : Type} [DecidableEq α] : ∀ (M N : List α), M.Nodup → M ⊆ N → M.length ≤ N.length
  | [], _, _, _ => Nat.zero_le _
  | x :: M, N, hn, hs => by
    have hx : x ∈ N := hs (by simp)
    have hn' := List.nodup_cons.1 hn
    have := nodupLe M (N.erase x) hn'.2 (fun y hy => (List.mem_erase_of_ne (by rintro rfl; exact hn'.1 hy)).2 (hs (by simp [hy])))
    have h1 := List.length_erase_of_mem hx
    have h2 := List.length_pos_of_mem hx
    simp only [List.length_cons]
    omega

theorem inS_iff (l : List ByteArray) (s : ByteArray) : inS l s = true ↔ s ∈ l := by
  unfold inS
  simp only [List.any_eq_true, beq_iff_eq]
  constructor
  · rintro ⟨y, hy, e⟩
    rw [show s = y from ByteArray.ext (Array.toList_inj.1 e)]; exact hy
  · intro h; exact ⟨s, h, rfl⟩
theorem cmIn_no (now : ByteArray) : ∀ (l a b : List ByteArray), cmIn now l a b = none → ∃ s t, s ∈ l ∧ cutP now s = some t ∧ t.size = 0
  | [], a, b, h => by simp [cmIn] at h
  | s :: l, a, b, h => by
    cases hc : cutP now s with
    | none =>
      rw [cmIn_none _ _ _ _ _ hc] at h
      obtain ⟨s', t, h1, h2, h3⟩ := cmIn_no now l a b h
      exact ⟨s', t, List.mem_cons_of_mem _ h1, h2, h3⟩
    | some t =>
      rw [cmIn_some _ _ _ _ _ _ hc] at h
      by_cases h0 : t.size = 0
      · exact ⟨s, t, by simp, hc, h0⟩
      · rw [if_neg h0] at h
        split at h
        · obtain ⟨s', t', h1, h2, h3⟩ := cmIn_no now l _ _ h
          exact ⟨s', t', List.mem_cons_of_mem _ h1, h2, h3⟩
        · obtain ⟨s', t', h1, h2, h3⟩ := cmIn_no now l _ _ h
          exact ⟨s', t', List.mem_cons_of_mem _ h1, h2, h3⟩
theorem cmIn_yes (now : ByteArray) : ∀ (l a b : List ByteArray) (r : List ByteArray × List ByteArray), cmIn now l a b = some r → ∃ new, r = (a ++ new, b ++ new) ∧ new.length ≤ l.length ∧ (∀ x, x ∈ new → ∃ s, s ∈ l ∧ cutP now s = some x) ∧ (∀ s, s ∈ l → ∀ t, cutP now s = some t → t.size ≠ 0 ∧ t ∈ b ++ new) ∧ (b.Nodup → (b ++ new).Nodup)
  | [], a, b, r, h => by
    have := Option.some.inj (show some (a, b) = some r from h)
    exact ⟨[], by simp [← this], by simp, by simp, by simp, by simp⟩
  | s :: l, a, b, r, h => by
    cases hc : cutP now s with
    | none =>
      rw [cmIn_none _ _ _ _ _ hc] at h
      obtain ⟨new, e, hl, h1, h2, h3⟩ := cmIn_yes now l a b r h
      refine ⟨new, e, by simp; omega, fun x hx => ?_, fun s' hs' t ht => ?_, h3⟩
      · obtain ⟨s', q1, q2⟩ := h1 x hx
        exact ⟨s', List.mem_cons_of_mem _ q1, q2⟩
      · rcases List.mem_cons.1 hs' with rfl | hs'
        · rw [hc] at ht; cases ht
        · exact h2 s' hs' t ht
    | some t =>
      rw [cmIn_some _ _ _ _ _ _ hc] at h
      by_cases h0 : t.size = 0
      · rw [if_pos h0] at h; cases h
      · rw [if_neg h0] at h
        by_cases hi : inS b t = true
        · rw [if_pos hi] at h
          obtain ⟨new, e, hl, h1, h2, h3⟩ := cmIn_yes now l a b r h
          refine ⟨new, e, by simp; omega, fun x hx => ?_, fun s' hs' t' ht => ?_, h3⟩
          · obtain ⟨s', q1, q2⟩ := h1 x hx
            exact ⟨s', List.mem_cons_of_mem _ q1, q2⟩
          · rcases List.mem_cons.1 hs' with rfl | hs'
            · rw [hc] at ht
              obtain rfl := Option.some.inj ht
              exact ⟨h0, List.mem_append_left _ ((inS_iff b t).1 hi)⟩
            · exact h2 s' hs' t' ht
        · rw [if_neg hi] at h
          obtain ⟨new, e, hl, h1, h2, h3⟩ := cmIn_yes now l _ _ r h
          have hnb : ¬ t ∈ b := fun hb => hi ((inS_iff b t).2 hb)
          refine ⟨t :: new, by rw [e]; simp, by simp; omega, fun x hx => ?_, fun s' hs' t' ht => ?_, fun hb => ?_⟩
          · rcases List.mem_cons.1 hx with rfl | hx
            · exact ⟨s, by simp, hc⟩
            · obtain ⟨s', q1, q2⟩ := h1 x hx
              exact ⟨s', List.mem_cons_of_mem _ q1, q2⟩
          · rcases List.mem_cons.1 hs' with rfl | hs'
            · rw [hc] at ht
              obtain rfl := Option.some.inj ht
              exact ⟨h0, by simp⟩
            · have := h2 s' hs' t' ht
              exact ⟨this.1, by simpa using this.2⟩
          · have := h3 (by rw [List.nodup_append]; exact ⟨hb, by simp, fun x hx y hy e => by rw [List.mem_singleton] at hy; rw [e, hy] at hx; exact hnb hx⟩)
            simpa using this
/-- a word that is reached from another one, word by word of a set -/
inductive Rch (l : List ByteArray) (r : ByteArray) : ByteArray → Prop
  | start : Rch l r r
  | step {u t s : ByteArray} : Rch l r u → s ∈ l → cutP u s = some t → Rch l r t
/-- that a word can meet -/
def Meets (l : List ByteArray) (r : ByteArray) : Prop := ∃ u s t, Rch l r u ∧ s ∈ l ∧ cutP u s = some t ∧ t.size = 0
/-- all that can be reached -/
def tails (l : List ByteArray) (r : ByteArray) : List ByteArray := (r :: l).flatMap fun w => (List.range (w.size + 1)).map fun k => (⟨(w.data.toList.drop k).toArray⟩ : ByteArray)
theorem tails_mem (l : List ByteArray) (r w : ByteArray) (hw : w ∈ r :: l) (k : Nat) (hk : k ≤ w.size) : (⟨(w.data.toList.drop k).toArray⟩ : ByteArray) ∈ tails l r := by
  unfold tails
  exact List.mem_flatMap.2 ⟨w, hw, List.mem_map.2 ⟨k, List.mem_range.2 (by omega), rfl⟩⟩
theorem begS_le (s p : ByteArray) (h : begS s p = true) : p.size ≤ s.size := by
  unfold begS at h
  have := (List.isPrefixOf_iff_prefix.1 h).length_le
  rw [Array.length_toList, Array.length_toList] at this
  exact this
theorem tails_step (l : List ByteArray) (r u s t : ByteArray) (hu : u ∈ tails l r) (hs : s ∈ l) (ht : cutP u s = some t) : t ∈ tails l r := by
  unfold cutP at ht
  split at ht
  · rename_i hb
    obtain rfl := Option.some.inj ht
    have hle := begS_le _ _ hb
    unfold tails at hu
    obtain ⟨w, hw, hk0⟩ := List.mem_flatMap.1 hu
    obtain ⟨k, hk1, rfl⟩ := List.mem_map.1 hk0
    have hk' := List.mem_range.1 hk1
    have hsz : (⟨(w.data.toList.drop k).toArray⟩ : ByteArray).size = w.size - k := by
      show (w.data.toList.drop k).toArray.size = _
      rw [List.size_toArray, List.length_drop, Array.length_toList]; rfl
    unfold cutS
    have := tails_mem l r w hw (k + s.size) (by omega)
    simpa [List.drop_drop] using this
  · split at ht
    · rename_i hb
      obtain rfl := Option.some.inj ht
      exact tails_mem l r s (List.mem_cons_of_mem _ hs) _ (begS_le _ _ hb)
    · cases ht
theorem rch_tails (l : List ByteArray) (r u : ByteArray) (h : Rch l r u) : u ∈ tails l r := by
  induction h with
  | start => have := tails_mem l r r (by simp) 0 (by omega); simpa using this
  | step _ hs ht ih => exact tails_step l r _ _ _ ih hs ht
/-- a search that is at its end has found it if it is there -/
theorem meets_no (l : List ByteArray) (r : ByteArray) (met : List ByteArray) (hr : r ∈ met) (hc : ∀ u, u ∈ met → ∀ s, s ∈ l → ∀ t, cutP u s = some t → t.size ≠ 0 ∧ t ∈ met) : ¬ Meets l r := by
  have h : ∀ u, Rch l r u → u ∈ met := fun u hu => by
    induction hu with
    | start => exact hr
    | step _ hs ht ih => exact (hc _ ih _ hs _ ht).2
  rintro ⟨u, s, t, hu, hs, ht, h0⟩
  exact (hc u (h u hu) s hs t ht).1 h0

theorem tails_len (l : List ByteArray) (r : ByteArray) (hl : l.length ≤ 12) (h8 : ∀ w, w ∈ r :: l → w.size ≤ 8) : (tails l r).length ≤ 117 := by
  have h : ∀ ws : List ByteArray, (∀ w, w ∈ ws → w.size ≤ 8) → (ws.flatMap fun w => (List.range (w.size + 1)).map fun k => (⟨(w.data.toList.drop k).toArray⟩ : ByteArray)).length ≤ 9 * ws.length := by
    intro ws
    induction ws with
    | nil => intro _; simp
    | cons w ws ih =>
      intro hw
      have h1 := ih (fun v hv => hw v (List.mem_cons_of_mem _ hv))
      have h2 := hw w (by simp)
      rw [List.flatMap_cons, List.length_append, List.length_map, List.length_range, List.length_cons]
      omega
  have := h (r :: l) h8
  unfold tails
  rw [List.length_cons] at this
  omega
theorem tails_size (l : List ByteArray) (r : ByteArray) (h8 : ∀ w, w ∈ r :: l → w.size ≤ 8) (u : ByteArray) (hu : u ∈ tails l r) : u.size ≤ 8 := by
  unfold tails at hu
  obtain ⟨w, hw, hk0⟩ := List.mem_flatMap.1 hu
  obtain ⟨k, hk1, rfl⟩ := List.mem_map.1 hk0
  have := h8 w hw
  show (w.data.toList.drop k).toArray.size ≤ 8
  rw [List.size_toArray, List.length_drop, Array.length_toList]
  have e : w.data.size = w.size := rfl
  omega
theorem canMeet_run (l : List ByteArray) (r : ByteArray) (hl : l.length ≤ 12) (h8 : ∀ w, w ∈ r :: l → w.size ≤ 8) : ∀ (M : Nat) (list met : List ByteArray), M ≤ 1000 → 2 * (200 - met.length) + list.length ≤ M → met.Nodup → (∀ u, u ∈ met → Rch l r u) → (∀ u, u ∈ list → u ∈ met) → r ∈ met →
    (∀ u, u ∈ met → u ∈ list ∨ ∀ s, s ∈ l → ∀ t, cutP u s = some t → t.size ≠ 0 ∧ t ∈ met) → ∃ b, Ev (fun k => impl_canMeet.l0 k l list met) b ∧ (b = true ↔ Meets l r) := by
  have bound : ∀ met : List ByteArray, met.Nodup → (∀ u, u ∈ met → Rch l r u) → met.length ≤ 117 := fun met hn hr => Nat.le_trans (nodupLe _ _ hn fun u hu => rch_tails l r u (hr u hu)) (tails_len l r hl h8)
  intro M
  induction M with
  | zero =>
    intro list met _ hM hn hr hlm hrm hcl
    have := bound met hn hr
    omega
  | succ M ih =>
    intro list met hMb hM hn hr hlm hrm hcl
    have hmb := bound met hn hr
    by_cases h0 : list.length = 0
    · refine ⟨false, Ev.succ ?_, ?_⟩
      · simp only [impl_canMeet.l0]
        exact Ev.pos h0 (Ev.now _)
      · have hnil := List.eq_nil_of_length_eq_zero h0
        have := meets_no l r met hrm (fun u hu => by
          rcases hcl u hu with h | h
          · rw [hnil] at h; simp at h
          · exact h)
        simp [this]
    · have hsz : ∀ u, u ∈ met → u.size ≤ 8 := fun u hu => tails_size l r h8 u (rch_tails l r u (hr u hu))
      have hfit : cmFits l list met = true := by
        unfold cmFits
        simp only [Bool.and_eq_true, decide_eq_true_eq, List.all_eq_true]
        exact ⟨⟨⟨by omega, by omega⟩, fun s hs => by have := hsz s (hlm s hs); omega⟩, fun s hs => by have := h8 s (List.mem_cons_of_mem _ hs); omega⟩
      obtain ⟨now, hnow⟩ : ∃ now, now = list.getD (list.length - 1) ByteArray.empty := ⟨_, rfl⟩
      have hnl : list = list.take (list.length - 1) ++ [now] := by
        have h1 : list.length - 1 < list.length := by omega
        have := (List.take_append_drop (list.length - 1) list).symm
        rw [List.drop_eq_getElem_cons h1, List.drop_of_length_le (by omega)] at this
        rw [hnow, List.getD_eq_getElem?_getD, List.getElem?_eq_getElem h1]
        exact this
      have hnm : now ∈ list := by rw [hnl]; simp
      cases hc : cmIn now l (list.take (list.length - 1)) met with
      | none =>
        obtain ⟨s, t, q1, q2, q3⟩ := cmIn_no now l _ _ hc
        refine ⟨true, Ev.succ ?_, by simp; exact ⟨now, s, t, hr _ (hlm _ hnm), q1, q2, q3⟩⟩
        simp only [impl_canMeet.l0, ← hnow, hc]
        exact Ev.neg h0 (Ev.pos hfit (Ev.now _))
      | some R =>
        obtain ⟨new, e, hlen, q1, q2, q3⟩ := cmIn_yes now l _ _ R hc
        have hr' : ∀ u, u ∈ met ++ new → Rch l r u := fun u hu => by
          rcases List.mem_append.1 hu with hu | hu
          · exact hr u hu
          · obtain ⟨s, p1, p2⟩ := q1 u hu
            exact Rch.step (hr _ (hlm _ hnm)) p1 p2
        have hb' := bound (met ++ new) (q3 hn) hr'
        rw [List.length_append] at hb'
        obtain ⟨b, b1, b2⟩ := ih (list.take (list.length - 1) ++ new) (met ++ new) (by omega) (by simp only [List.length_append, List.length_take]; omega) (q3 hn) hr' (fun u hu => by
            rcases List.mem_append.1 hu with hu | hu
            · exact List.mem_append_left _ (hlm u (List.mem_of_mem_take hu))
            · exact List.mem_append_right _ hu)
          (List.mem_append_left _ hrm) (fun u hu => by
            rcases List.mem_append.1 hu with hu | hu
            · by_cases e : u = now
              · subst e
                exact Or.inr q2
              · rcases hcl u hu with h | h
                · rw [hnl] at h
                  rcases List.mem_append.1 h with h | h
                  · exact Or.inl (List.mem_append_left _ h)
                  · rw [List.mem_singleton] at h; exact absurd h e
                · exact Or.inr fun s hs t ht => ⟨(h s hs t ht).1, List.mem_append_left _ (h s hs t ht).2⟩
            · exact Or.inl (List.mem_append_right _ hu))
        refine ⟨b, Ev.succ ?_, b2⟩
        simp only [impl_canMeet.l0, ← hnow, hc, e]
        exact Ev.neg h0 (Ev.pos hfit b1)
theorem spec_cut (l : List ByteArray) (now s : ByteArray) : (if (ch now).isPrefixOf (ch s) = true then some (s.extract now.size s.size) else (if (ch s).isPrefixOf (ch now) = true then some (now.extract s.size now.size) else none)) = cutP now s := by
  have hx : ∀ a b : ByteArray, a.extract b.size a.size = cutS a b := fun a b => ByteArray.ext (Array.toList_inj.1 (by rw [show (a.extract b.size a.size).data.toList = ch (a.extract b.size a.size) from rfl, ch_drop]; simp [cutS, ch]))
  unfold cutP begS
  rw [hx, hx]
  by_cases h1 : (ch now).isPrefixOf (ch s) = true
  · rw [if_pos h1]
    by_cases h2 : (ch s).isPrefixOf (ch now) = true
    · rw [if_pos h2]
      have e : ch now = ch s := List.IsPrefix.eq_of_length (List.isPrefixOf_iff_prefix.1 h1) (Nat.le_antisymm (List.isPrefixOf_iff_prefix.1 h1).length_le (List.isPrefixOf_iff_prefix.1 h2).length_le)
      rw [show now = s from ByteArray.ext (Array.toList_inj.1 e)]
    · rw [if_neg h2, if_pos h1]
  · rw [if_neg h1]
    by_cases h2 : (ch s).isPrefixOf (ch now) = true
    · rw [if_pos h2, if_pos h2]
    · rw [if_neg h2, if_neg h2, if_neg h1]
theorem meets_in (l : List ByteArray) (now : ByteArray) (k : Nat) (hk : k ≤ 1000) (hl : l.length ≤ 12) : ∀ (d i : Nat) (lst mt : List ByteArray), i + d = l.length → mt.length + d ≤ 1000 →
    (cmIn now (l.drop i) lst mt = none → Ev (fun q => spec_bsMeets.l1 q l mt (k : Int) now l (l.length : Int) (i : Int)) true) ∧
    ∀ R, cmIn now (l.drop i) lst mt = some R → ∀ b, Ev (fun q => spec_bsMeets.l0 q l R.2 (wrap64 ((k : Int) + 1))) b → Ev (fun q => spec_bsMeets.l1 q l mt (k : Int) now l (l.length : Int) (i : Int)) b := by
  intro d
  induction d with
  | zero =>
    intro i lst mt hd hm
    rw [List.drop_of_length_le (by omega)]
    refine ⟨fun h => (by rw [cmIn] at h; cases h), fun R hR b hb => Ev.succ ?_⟩
    have := Option.some.inj (show some (lst, mt) = some R from hR)
    subst this
    simp only [spec_bsMeets.l1]
    exact Ev.neg (by omega) hb
  | succ d ih =>
    intro i lst mt hd hm
    have hi : i < l.length := by omega
    have wi := Aside0.mk (w1 (show 0 ≤ (i : Int) by omega) (show (i : Int) < 9223372036854775807 by omega))
    have hb1 := wdBegins_eq l[i] now
    have hb2 := wdBegins_eq now l[i]
    have hsc := spec_cut l now l[i]
    rw [List.drop_eq_getElem_cons hi]
    -- what stands behind a cut
    have go : ∀ (t : ByteArray) (b : Bool), cutP now l[i] = some t → (t.size = 0 → b = true) → (t.size ≠ 0 → inS mt t = true → Ev (fun q => spec_bsMeets.l1 q l mt (k : Int) now l (l.length : Int) ((i + 1 : Nat) : Int)) b) → (t.size ≠ 0 → ¬ inS mt t = true → Ev (fun q => spec_bsMeets.l1 q l (mt ++ [t]) (k : Int) now l (l.length : Int) ((i + 1 : Nat) : Int)) b) →
        Ev (fun q => spec_bsMeets.l1 q l mt (k : Int) now l (l.length : Int) (i : Int)) b := by
      intro t b hct z1 z2 z3
      have tail : Ev (fun q => spec_bsMeets.j2 q l mt (k : Int) now t l (l.length : Int) (i : Int)) b := by
        refine Ev.succ ?_
        have hh := wdHas_ev mt t (by omega)
        have hcont : (mt.map ch).contains (ch t) = inS mt t := by
          rw [Bool.eq_iff_iff, inS_iff, List.contains_iff_mem, List.mem_map]
          constructor
          · rintro ⟨y, hy, e⟩
            rw [show t = y from ByteArray.ext (Array.toList_inj.1 e.symm)]; exact hy
          · intro h; exact ⟨t, h, rfl⟩
        rw [hcont] at hh
        have h0 : t.toList = [] ↔ t.size = 0 := by
          rw [toList_ch, ← ch_length]
          exact List.length_eq_zero_iff.symm
        simp only [spec_bsMeets.j2, wi.out]
        refine Ev.cases (fun h => ?_) (fun h => ?_)
        · rw [z1 (h0.1 h)]; exact Ev.now _
        · have hne : t.size ≠ 0 := fun e => h (h0.2 e)
          refine Ev.bind hh (Ev.cases (fun h => z2 hne h) (fun h => Ev.pos (by omega) (z3 hne h)))
      refine Ev.succ ?_
      simp only [spec_bsMeets.l1, rdOf_nat l i hi, wi.out]
      refine Ev.pos (by omega) (Ev.pos (by omega) (Ev.pos (by omega) (Ev.known (fun _ => hb1) (Ev.cases (fun h => ?_) (fun h => Ev.known (fun _ => hb2) (Ev.cases (fun h' => ?_) (fun h' => ?_)))))))
      · rw [if_pos h, hct] at hsc
        have hle := (List.isPrefixOf_iff_prefix.1 h).length_le
        rw [ch_length, ch_length] at hle
        rw [Option.some.inj hsc]
        exact Ev.pos (by omega) (Ev.pos (by omega) tail)
      · rw [if_neg h, if_pos h', hct] at hsc
        have hle := (List.isPrefixOf_iff_prefix.1 h').length_le
        rw [ch_length, ch_length] at hle
        rw [Option.some.inj hsc]
        exact Ev.pos (by omega) (Ev.pos (by omega) tail)
      · rw [if_neg h, if_neg h', hct] at hsc
        cases hsc
    have skip : ∀ b : Bool, cutP now l[i] = none → Ev (fun q => spec_bsMeets.l1 q l mt (k : Int) now l (l.length : Int) ((i + 1 : Nat) : Int)) b → Ev (fun q => spec_bsMeets.l1 q l mt (k : Int) now l (l.length : Int) (i : Int)) b := by
      intro b hct hb
      refine Ev.succ ?_
      simp only [spec_bsMeets.l1, rdOf_nat l i hi, wi.out]
      refine Ev.pos (by omega) (Ev.pos (by omega) (Ev.pos (by omega) (Ev.known (fun _ => hb1) (Ev.cases (fun h => ?_) (fun h => Ev.known (fun _ => hb2) (Ev.cases (fun h' => ?_) (fun h' => hb)))))))
      · rw [if_pos h, hct] at hsc; cases hsc
      · rw [if_neg h, if_pos h', hct] at hsc; cases hsc
    cases hc : cutP now l[i] with
    | none =>
      rw [cmIn_none _ _ _ _ _ hc]
      obtain ⟨g1, g2⟩ := ih (i + 1) lst mt (by omega) (by omega)
      exact ⟨fun h => skip _ hc (g1 h), fun R hR b hb => skip _ hc (g2 R hR b hb)⟩
    | some t =>
      rw [cmIn_some _ _ _ _ _ _ hc]
      by_cases h0 : t.size = 0
      · rw [if_pos h0]
        exact ⟨fun _ => go t true hc (fun _ => rfl) (fun h => absurd h0 h) (fun h => absurd h0 h), fun R hR => by cases hR⟩
      · rw [if_neg h0]
        by_cases hin : inS mt t = true
        · rw [if_pos hin]
          obtain ⟨g1, g2⟩ := ih (i + 1) lst mt (by omega) (by omega)
          exact ⟨fun h => go t _ hc (fun h => absurd h h0) (fun _ _ => g1 h) (fun _ h => absurd hin h), fun R hR b hb => go t _ hc (fun h => absurd h h0) (fun _ _ => g2 R hR b hb) (fun _ h => absurd hin h)⟩
        · rw [if_neg hin]
          obtain ⟨g1, g2⟩ := ih (i + 1) (lst ++ [t]) (mt ++ [t]) (by omega) (by simp; omega)
          exact ⟨fun h => go t _ hc (fun h => absurd h h0) (fun _ h => absurd h hin) (fun _ _ => g1 h), fun R hR b hb => go t _ hc (fun h => absurd h h0) (fun _ h => absurd h hin) (fun _ _ => g2 R hR b hb)⟩
theorem meets_run (l : List ByteArray) (r : ByteArray) (hl : l.length ≤ 12) (h8 : ∀ w, w ∈ r :: l → w.size ≤ 8) : ∀ (e k : Nat) (met : List ByteArray), e + k = 200 → met.Nodup → (∀ u, u ∈ met → Rch l r u) → r ∈ met →
    (∀ j u, j < k → met[j]? = some u → ∀ s, s ∈ l → ∀ t, cutP u s = some t → t.size ≠ 0 ∧ t ∈ met) → ∃ b, Ev (fun q => spec_bsMeets.l0 q l met (k : Int)) b ∧ (b = true ↔ Meets l r) := by
  have bound : ∀ met : List ByteArray, met.Nodup → (∀ u, u ∈ met → Rch l r u) → met.length ≤ 117 := fun met hn hr => Nat.le_trans (nodupLe _ _ hn fun u hu => rch_tails l r u (hr u hu)) (tails_len l r hl h8)
  have done : ∀ (k : Nat) (met : List ByteArray), met.length ≤ k → k ≤ 200 → r ∈ met → (∀ j u, j < k → met[j]? = some u → ∀ s, s ∈ l → ∀ t, cutP u s = some t → t.size ≠ 0 ∧ t ∈ met) → ∃ b, Ev (fun q => spec_bsMeets.l0 q l met (k : Int)) b ∧ (b = true ↔ Meets l r) := by
    intro k met hk hk2 hrm hcl
    refine ⟨false, Ev.succ ?_, ?_⟩
    · simp only [spec_bsMeets.l0]
      exact Ev.neg (by omega) (Ev.now _)
    · have := meets_no l r met hrm (fun u hu => by
        obtain ⟨j, hj, rfl⟩ := List.getElem_of_mem hu
        exact hcl j _ (by omega) (List.getElem?_eq_getElem hj))
      simp [this]
  intro e
  induction e with
  | zero =>
    intro k met hd hn hr hrm hcl
    have := bound met hn hr
    exact done k met (by omega) (by omega) hrm hcl
  | succ e ih =>
    intro k met hd hn hr hrm hcl
    have hmb := bound met hn hr
    by_cases hk : k < met.length
    · obtain ⟨g1, g2⟩ := meets_in l met[k] k (by omega) hl l.length 0 [] met (by omega) (by omega)
      rw [List.drop_zero] at g1 g2
      have up : ∀ b, Ev (fun q => spec_bsMeets.l1 q l met (k : Int) met[k] l (l.length : Int) ((0 : Nat) : Int)) b → Ev (fun q => spec_bsMeets.l0 q l met (k : Int)) b := fun b hb => by
        refine Ev.succ ?_
        simp only [spec_bsMeets.l0, rdOf_nat met k hk]
        exact Ev.pos (by omega) (Ev.pos (by omega) hb)
      cases hc : cmIn met[k] l [] met with
      | none =>
        obtain ⟨s, t, q1, q2, q3⟩ := cmIn_no _ l _ _ hc
        exact ⟨true, up _ (g1 hc), by simp; exact ⟨_, s, t, hr _ (List.getElem_mem hk), q1, q2, q3⟩⟩
      | some R =>
        obtain ⟨new, e', hlen, q1, q2, q3⟩ := cmIn_yes _ l _ _ R hc
        obtain ⟨b, b1, b2⟩ := ih (k + 1) (met ++ new) (by omega) (q3 hn) (fun u hu => by
            rcases List.mem_append.1 hu with hu | hu
            · exact hr u hu
            · obtain ⟨s, p1, p2⟩ := q1 u hu
              exact Rch.step (hr _ (List.getElem_mem hk)) p1 p2)
          (List.mem_append_left _ hrm) (fun j u hj hu s hs t ht => by
            rw [List.getElem?_append_left (by omega)] at hu
            by_cases e : j = k
            · subst e
              rw [List.getElem?_eq_getElem hk] at hu
              obtain rfl := Option.some.inj hu
              exact q2 s hs t ht
            · have := hcl j u (by omega) hu s hs t ht
              exact ⟨this.1, List.mem_append_left _ this.2⟩)
        refine ⟨b, up _ (g2 R hc b ?_), b2⟩
        rw [e', w1 (by omega) (by omega)]
        exact b1
    · exact done k met (by omega) (by omega) hrm hcl
theorem canMeet_both (l : List ByteArray) (r : ByteArray) (hl : l.length ≤ 12) (h8 : ∀ w, w ∈ r :: l → w.size ≤ 8) : ∃ b, Ev (fun k => spec_bsMeets.f k l r) b ∧ Ev (fun k => impl_canMeet.f k l r) b := by
  obtain ⟨b1, g1, i1⟩ := canMeet_run l r hl h8 1000 [r] [r] (by omega) (by simp) (by simp) (fun u hu => by rw [List.mem_singleton] at hu; subst hu; exact Rch.start) (fun u hu => hu) (by simp) (fun u hu => Or.inl hu)
  obtain ⟨b2, g2, i2⟩ := meets_run l r hl h8 200 0 [r] rfl (by simp) (fun u hu => by rw [List.mem_singleton] at hu; subst hu; exact Rch.start) (by simp) (fun j u hj => by omega)
  have e : b2 = b1 := by rw [Bool.eq_iff_iff, i1, i2]
  subst e
  refine ⟨b2, g2, ?_⟩
  unfold impl_canMeet.f
  exact Ev.pos (by have := h8 r (by simp); omega) g1

theorem canMeet_same (l : List ByteArray) (s : ByteArray) (hl : l.length ≤ 1048576) : ∃ r, Ev (fun k => spec_CanMeet.f k l s) r ∧ Ev (fun k => impl_CanMeet.f k l s) r := by
  obtain ⟨b, h1, h2, hb⟩ := isSet_same l hl
  have s1 := wdShort_ev s
  have s2 := isShort_eq s
  unfold spec_CanMeet.f impl_CanMeet.f
  cases b with
  | false => exact ⟨_, Ev.bind h1 (Ev.neg (by simp) (Ev.now _)), Ev.bind h2 (Ev.neg (by simp) (Ev.now _))⟩
  | true =>
    have hset := hb rfl
    cases hs : short s with
    | false =>
      rw [hs] at s1 s2
      exact ⟨_, Ev.bind h1 (Ev.pos rfl (Ev.bind s1 (Ev.neg (by simp) (Ev.now _)))), Ev.bind h2 (Ev.pos rfl (Ev.known (fun _ => s2) (Ev.neg (by simp) (Ev.now _))))⟩
    | true =>
      rw [hs] at s1 s2
      have hs8 : s.size ≤ 8 := by
        unfold short at hs
        simp only [Bool.and_eq_true, decide_eq_true_eq] at hs
        exact hs.1.2
      obtain ⟨c, c1, c2⟩ := canMeet_both l s hset.few (fun w hw => by
        rcases List.mem_cons.1 hw with rfl | hw
        · exact hs8
        · exact (hset.size w hw).2)
      exact ⟨_, Ev.bind h1 (Ev.pos rfl (Ev.bind s1 (Ev.pos rfl (Ev.bind c1 (Ev.now _))))), Ev.bind h2 (Ev.pos rfl (Ev.known (fun _ => s2) (Ev.pos rfl (Ev.bind c2 (Ev.now _)))))⟩
theorem FnExactCanMeet : laws_FnExactCanMeet.Pure := by
  intro l s hl hs h
  refine Ev.rounds ?_
  unfold laws_FnExactCanMeet.f
  obtain ⟨z, hz, hzz⟩ := szS_ev l hl hs
  refine Ev.cases (fun _ => Ev.now _) (fun _ => Ev.bind hz (Ev.cases (fun _ => Ev.now _) (fun hzn => ?_)))
  obtain ⟨hl', -⟩ := hzz (by omega)
  obtain ⟨r, h1, h2⟩ := canMeet_same l s hl'
  refine Ev.bind (toS_ev l hl') (Ev.bind h1 (Ev.bind (toS_ev l hl') (Ev.bind h2 (Ev.neg (by simp) (Ev.succ ?_)))))
  simp only [laws_FnExactCanMeet.j0]
  exact Ev.neg (by simp) (Ev.bind (toS_ev l hl') (Ev.bind (eqS_ev l hl') (Ev.pos rfl (Ev.now _))))
end Go.Proofs.YtoemhhfkbclbiaaDoor.Pure
