/- CanBeInStep of the program and of the reference answer alike for all arguments, and leave them as they were: no condition. -/
import Derived.Test.YthlldokmjpfilaaGreatDoorXFnExactCanBeInStepxp
namespace Go.Proofs.YthlldokmjpfilaaGreatDoor.Pure
set_option linter.unusedSimpArgs false
set_option linter.unusedVariables false
open Go.RowKit Go.Proofs.YthlldokmjpfilaaGreatDoor.Hand Go.Proofs.YthlldokmjpfilaaGreatDoor.XFnExactCanBeInStep Go.Proofs.YthlldokmjpfilaaGreatDoorW.PrintWords Go.Proofs.YthlldokmjpfilaaGreatDoorW.PrintLast Go.Proofs.YthlldokmjpfilaaGreatDoorW.PrintMore

theorem w1 {i : Int} (h0 : 0 ≤ i) (h : i < 9223372036854775807) : wrap64 (i + 1) = i + 1 := by unfold wrap64; omega
theorem w64 {i : Int} (h0 : -9223372036854775808 ≤ i) (h : i < 9223372036854775808) : wrap64 i = i := by unfold wrap64; omega
theorem rd_nat (l : List Int) (i : Nat) (h : i < l.length) : rd l (i : Int) = l[i] := by
  unfold rd; simp [List.getD_eq_getElem?_getD, h]
theorem Ev.pos {α : Type} {c : Prop} [Decidable c] {g g' : Nat → Option α} {r : α} (h : c) (k : Ev g r) : Ev (fun n => if c then g n else g' n) r :=
  Ev.congr (fun n => if_pos h) k
theorem Ev.neg {α : Type} {c : Prop} [Decidable c] {g g' : Nat → Option α} {r : α} (h : ¬ c) (k : Ev g' r) : Ev (fun n => if c then g n else g' n) r :=
  Ev.congr (fun n => if_neg h) k
theorem Ev.cases {α : Type} {c : Prop} [Decidable c] {g g' : Nat → Option α} {r : α} (h : c → Ev g r) (k : ¬ c → Ev g' r) : Ev (fun n => if c then g n else g' n) r := by
  by_cases e : c
  · exact Ev.pos e (h e)
  · exact Ev.neg e (k e)
/-- a call whose answer is known at every number of rounds -/
theorem Ev.known {α β : Type} {g : Nat → Option α} {f : Nat → α → Option β} {a : α} {r : β} (h : ∀ n, g n = some a) (k : Ev (fun n => f n a) r) : Ev (fun n => (g n).bind (f n)) r :=
  Ev.bind ⟨0, fun n _ => h n⟩ k
/-- one bind of two, joined with what follows -/
theorem Ev.pure {α : Type} {r q : α} (h : r = q) : Ev (fun _ => some r) q := h ▸ Ev.now r
theorem Ev.succ {α : Type} {g : Nat → Option α} {r : α} (h : Ev (fun k => g (k + 1)) r) : Ev g r := Ev.step (f := fun k => g (k + 1)) (fun _ => rfl) h

theorem rdOf_nat (l : List ByteArray) (i : Nat) (h : i < l.length) : rdOf ByteArray.empty l (i : Int) = l[i] := by
  unfold rdOf; simp [List.getD_eq_getElem?_getD, h]

theorem maxLen_le : maxLen ≤ 9223372036854775807 := by unfold maxLen; omega
theorem szS_l0 (l : List ByteArray) (hl : l.length ≤ 9223372036854775807) (hs : ∀ s ∈ l, s.size ≤ 9223372036854775807) : ∀ (d i : Nat) (b : Int), i + d = l.length → 0 ≤ b → b ≤ 1048576 → ∃ r, Ev (fun k => laws_szStringS.l0 k l b (i : Int)) r ∧ (0 ≤ r → r ≤ 1048576 ∧ ∀ s ∈ l.drop i, s.size ≤ 1048576)
  | 0, i, b, hd, h0, hb => by
    refine ⟨b, Ev.succ ?_, fun _ => ⟨hb, fun s h => ?_⟩⟩
    · simp only [laws_szStringS.l0]; exact Ev.neg (by omega) (Ev.now _)
    · rw [List.drop_of_length_le (by omega)] at h; cases h
  | d + 1, i, b, hd, h0, hb => by
    have h1 : i < l.length := by omega
    have h2 := hs _ (List.getElem_mem h1)
    have e : Aside0 (wrap64 (b - (l[i].size : Int)) = b - (l[i].size : Int)) := ⟨w64 (by omega) (by omega)⟩
    by_cases hc : b - (l[i].size : Int) < 0
    · refine ⟨-1, Ev.succ ?_, fun h => by omega⟩
      simp only [laws_szStringS.l0, rdOf_nat l i h1, e.out]
      exact Ev.pos (by omega) (Ev.pos (by omega) (Ev.pos hc (Ev.now _)))
    · obtain ⟨r, hr, hh⟩ := szS_l0 l hl hs d (i + 1) (b - (l[i].size : Int)) (by omega) (by omega) (by omega)
      refine ⟨r, Ev.succ ?_, fun h => ⟨(hh h).1, fun s hm => ?_⟩⟩
      · simp only [laws_szStringS.l0, rdOf_nat l i h1, e.out, w1 (show 0 ≤ (i : Int) by omega) (show (i : Int) < 9223372036854775807 by omega)]
        exact Ev.pos (by omega) (Ev.pos (by omega) (Ev.neg hc hr))
      · rw [List.drop_eq_getElem_cons h1] at hm
        rcases List.mem_cons.1 hm with rfl | hm
        · omega
        · exact (hh h).2 s hm
theorem szS_ev (l : List ByteArray) (hl : l.length ≤ maxLen) (hs : ∀ s ∈ l, s.size ≤ maxLen) : ∃ r, Ev (fun k => laws_szStringS.f k l 1048576) r ∧ (0 ≤ r → l.length ≤ 1048576 ∧ r ≤ 1048576 ∧ ∀ s ∈ l, s.size ≤ 1048576) := by
  have hm := maxLen_le
  have e : Aside0 (wrap64 (1048576 - (l.length : Int)) = 1048576 - (l.length : Int)) := ⟨w64 (by omega) (by omega)⟩
  unfold laws_szStringS.f
  rw [e.out]
  by_cases hc : 1048576 - (l.length : Int) < 0
  · exact ⟨-1, Ev.pos hc (Ev.now _), fun h => by omega⟩
  · obtain ⟨r, hr, hh⟩ := szS_l0 l (by omega) (fun s h => Nat.le_trans (hs s h) hm) l.length 0 (1048576 - (l.length : Int)) (by omega) (by omega) (by omega)
    exact ⟨r, Ev.neg hc hr, fun h => ⟨by omega, (hh h).1, by simpa using (hh h).2⟩⟩
theorem toS_l0 (l : List ByteArray) (hl : l.length ≤ 1048576) : ∀ (d i : Nat) (xs : List ByteArray), i + d = l.length → xs.length = l.length → xs.take i = l.take i → Ev (fun k => laws_toStringS.l0 k l xs (i : Int)) l
  | 0, i, xs, hd, hx, ht => by
    refine Ev.step (f := fun _ => some xs) (fun k => ?_) (Ev.pure ?_)
    · simp only [laws_toStringS.l0]; rw [if_neg (by omega)]
    · rw [List.take_of_length_le (by omega), List.take_of_length_le (by omega)] at ht; exact ht
  | d + 1, i, xs, hd, hx, ht => by
    refine Ev.step (f := fun k => laws_toStringS.l0 k l (xs.set i (rdOf ByteArray.empty l i)) ((i + 1 : Nat) : Int)) (fun k => ?_) (toS_l0 l hl d (i + 1) _ (by omega) (by simp [hx]) ?_)
    · simp only [laws_toStringS.l0]; rw [if_pos (by omega), if_pos (by omega), if_pos (by omega), w1 (by omega) (by omega)]; simp
    · have h1 : i < l.length := by omega
      have h2 : i < (xs.set i (rdOf ByteArray.empty l i)).length := by simp; omega
      have e := rdOf_nat l i h1
      rw [List.take_succ_eq_append_getElem h2, List.take_succ_eq_append_getElem h1, List.take_set, List.set_eq_of_length_le (by simp; omega), ht]
      simp [e]
theorem toS_ev (l : List ByteArray) (hl : l.length ≤ 1048576) : Ev (fun k => laws_toStringS.f k l) l := by
  unfold laws_toStringS.f
  refine Ev.pos (by omega) (Ev.pos (by omega) ?_)
  have h := toS_l0 l hl l.length 0 (List.replicate l.length ⟨#[]⟩) (by omega) (by simp) (by simp)
  simpa using h
theorem eqS_l0 (l : List ByteArray) (hl : l.length ≤ 1048576) : ∀ (d i : Nat), i + d = l.length → Ev (fun k => laws_eqStringS.l0 k l l (i : Int)) true
  | 0, i, hd => Ev.step (f := fun _ => some true) (fun k => by simp only [laws_eqStringS.l0]; rw [if_neg (by omega)]) (Ev.now _)
  | d + 1, i, hd => by
    refine Ev.step (f := fun k => laws_eqStringS.l0 k l l ((i + 1 : Nat) : Int)) (fun k => ?_) (eqS_l0 l hl d (i + 1) (by omega))
    simp only [laws_eqStringS.l0]; rw [if_pos (by omega), if_pos (by omega), if_pos (by omega), if_pos trivial, w1 (by omega) (by omega)]; simp
theorem eqS_ev (l : List ByteArray) (hl : l.length ≤ 1048576) : Ev (fun k => laws_eqStringS.f k l l) true := by
  unfold laws_eqStringS.f
  exact Ev.pos rfl (by simpa using eqS_l0 l hl l.length 0 (by omega))


theorem spec_in (a b c : Int) : spec_l1In.f a b c = some (decide (b ≤ a ∧ a ≤ c)) := by
  unfold spec_l1In.f
  by_cases h : a ≥ b
  · rw [if_pos h]; simp [h]
  · rw [if_neg h]; simp; omega

theorem impl_in_eq (a b c : Int) : impl_in.f a b c = some (decide (b ≤ a ∧ a ≤ c)) := by
  unfold impl_in.f
  by_cases h : b ≤ a
  · rw [if_pos h]; simp [h]
  · rw [if_neg h]; simp [h]

theorem bt_nat (s : ByteArray) (i : Nat) (h : i < s.data.toList.length) : bt s (i : Int) = ((s.data.toList[i]).toNat : Int) := by
  have h' : i < s.size := by have e : s.size = s.data.toList.length := Array.length_toList.symm; omega
  unfold bt
  rw [dif_pos (show (i : Int).toNat < s.size by simpa using h')]
  simp [ByteArray.getElem_eq_getElem_data]
theorem size_data (s : ByteArray) : s.size = s.data.toList.length := Array.length_toList.symm
theorem letter_test (c : UInt8) : ((c.toNat : Int) < 97 ∨ ((c.toNat : Int) - 97) % 256 ≥ 3) ↔ isLetter c = false := by
  have := c.toNat_lt
  unfold isLetter
  rw [decide_eq_false_iff_not]
  omega
theorem wdIs_l0 (s : ByteArray) (hs : s.size < 4611686018427387904) : ∀ (d i : Nat), i + d = s.data.toList.length → Ev (fun k => spec_wdIs.l0 k s (i : Int)) ((s.data.toList.drop i).all isLetter)
  | 0, i, hd => by
    refine Ev.succ ?_
    simp only [spec_wdIs.l0]
    exact Ev.neg (by rw [size_data]; omega) (Ev.pure (by rw [List.drop_of_length_le (by omega)]; rfl))
  | d + 1, i, hd => by
    have h1 : i < s.data.toList.length := by omega
    have ih := wdIs_l0 s hs d (i + 1) (by omega)
    have ht := letter_test s.data.toList[i]
    have hsz := size_data s
    rw [List.drop_eq_getElem_cons h1, List.all_cons]
    refine Ev.succ ?_
    simp only [spec_wdIs.l0, bt_nat s i h1, w1 (show 0 ≤ (i : Int) by omega) (show (i : Int) < 9223372036854775807 by omega)]
    refine Ev.pos (by omega) (Ev.pos (by omega) (Ev.cases (fun h => ?_) (fun h => Ev.cases (fun h' => ?_) (fun h' => ?_))))
    · rw [ht.1 (Or.inl h)]; exact Ev.now _
    · rw [ht.1 (Or.inr h')]; exact Ev.now _
    · have : isLetter s.data.toList[i] = true := by
        cases hl : isLetter s.data.toList[i]
        · exact absurd (ht.2 hl) (by omega)
        · rfl
      rw [this, Bool.true_and]; exact ih
theorem wdIs_ev (s : ByteArray) (hs : s.size < 4611686018427387904) : Ev (fun k => spec_wdIs.f k s) (s.data.toList.all isLetter) := by
  have h := wdIs_l0 s hs s.data.toList.length 0 (by omega)
  simpa [spec_wdIs.f] using h

/-- a word of a set -/
def short (s : ByteArray) : Bool := decide (1 ≤ s.size ∧ s.size ≤ 8) && s.data.toList.all isLetter
theorem wdShort_ev (s : ByteArray) : Ev (fun k => spec_wdShort.f k s) (short s) := by
  unfold spec_wdShort.f short
  refine Ev.known (fun _ => spec_in _ _ _) (Ev.cases (fun h => ?_) (fun h => ?_))
  · have h' := of_decide_eq_true h
    rw [decide_eq_true (show 1 ≤ s.size ∧ s.size ≤ 8 by omega), Bool.true_and]
    exact Ev.bind (wdIs_ev s (by omega)) (Ev.now _)
  · rw [decide_eq_false (show ¬ (1 ≤ s.size ∧ s.size ≤ 8) by intro hh; exact h (decide_eq_true (by omega))), Bool.false_and]
    exact Ev.now _
theorem isShort_eq (s : ByteArray) : impl_isShort.f s = some (short s) := by
  unfold impl_isShort.f impl_isWord.f short
  by_cases h : 1 ≤ s.size ∧ s.size ≤ 8
  · rw [decide_eq_true h, decide_eq_true (show s.size ≤ 60 by omega)]
    cases s.data.toList.all isLetter
    · rfl
    · simp [impl_in_eq]; omega
  · rw [decide_eq_false h]
    cases (decide (s.size ≤ 60) && s.data.toList.all isLetter)
    · rfl
    · simp [impl_in_eq]; omega
theorem bytesLess_cmp : ∀ (x y : List UInt8), Op.bytesLess x y = decide (Lib.compareBytes x y < 0)
  | [], [] => by simp [Op.bytesLess, Lib.compareBytes]
  | _ :: _, [] => by simp [Op.bytesLess, Lib.compareBytes]
  | [], _ :: _ => by simp [Op.bytesLess, Lib.compareBytes]
  | a :: x, b :: y => by
    rw [Op.bytesLess, bytesLess_cmp x y, Lib.compareBytes]
    by_cases h1 : a < b
    · simp [h1]
    · by_cases h2 : b < a
      · have : (a == b) = false := by
          rw [beq_eq_false_iff_ne]; rintro rfl; exact h1 h2
        simp [h1, h2, this]
      · have : a = b := by
          have h1' : ¬ a.toNat < b.toNat := h1
          have h2' : ¬ b.toNat < a.toNat := h2
          exact UInt8.toNat_inj.1 (by omega)
        subst this; simp [h1]
theorem bytesLess_irrefl : ∀ (x : List UInt8), Op.bytesLess x x = false
  | [] => rfl
  | a :: x => by rw [Op.bytesLess, bytesLess_irrefl x]; simp
theorem bytesLess_trans : ∀ (x y z : List UInt8), Op.bytesLess x y = true → Op.bytesLess y z = true → Op.bytesLess x z = true
  | _, [], _ => by simp [Op.bytesLess]
  | _, _ :: _, [] => by simp [Op.bytesLess]
  | [], _ :: _, _ :: _ => by simp [Op.bytesLess]
  | a :: x, b :: y, c :: z => by
    have ih := bytesLess_trans x y z
    simp only [Op.bytesLess, Bool.or_eq_true, decide_eq_true_eq, Bool.and_eq_true, beq_iff_eq]
    intro h1 h2
    rcases h1 with h1 | ⟨rfl, h1⟩
    · rcases h2 with h2 | ⟨rfl, h2⟩
      · exact Or.inl (UInt8.lt_trans h1 h2)
      · exact Or.inl h1
    · rcases h2 with h2 | ⟨rfl, h2⟩
      · exact Or.inl h2
      · exact Or.inr ⟨rfl, ih h1 h2⟩
/-- the order of words: by length, then by letters -/
def wless (a b : ByteArray) : Bool := decide (a.size < b.size) || (decide (a.size = b.size) && Op.bytesLess a.data.toList b.data.toList)
theorem wless_irrefl (a : ByteArray) : wless a a = false := by unfold wless; rw [bytesLess_irrefl]; simp
theorem wless_trans (a b c : ByteArray) (h1 : wless a b = true) (h2 : wless b c = true) : wless a c = true := by
  unfold wless at *
  simp only [Bool.or_eq_true, decide_eq_true_eq, Bool.and_eq_true] at *
  rcases h1 with h1 | ⟨h1, g1⟩ <;> rcases h2 with h2 | ⟨h2, g2⟩
  · left; omega
  · left; omega
  · left; omega
  · exact Or.inr ⟨by omega, bytesLess_trans _ _ _ g1 g2⟩
theorem wdLess_eq (a b : ByteArray) : spec_wdLess.f a b = some (wless a b) := by
  unfold spec_wdLess.f wless
  by_cases h : a.size < b.size
  · rw [if_pos (by omega)]; simp [h]
  · rw [if_neg (by omega)]
    by_cases h' : a.size = b.size
    · rw [if_pos (by omega)]; simp [h', ByteArray.toList_eq]
    · rw [if_neg (by omega)]; simp [h, h']
theorem or2 (a b : Int) : Ev (fun k => cmp_Or_int.f k [a, b]) (if a = 0 then b else a) := by
  refine ⟨3, fun k hk => ?_⟩
  obtain ⟨k, rfl⟩ : ∃ m, k = m + 3 := ⟨k - 3, by omega⟩
  by_cases ha : a = 0 <;> by_cases hb : b = 0 <;> simp [cmp_Or_int.f, cmp_Or_int.l0, rd, wrap64, ha, hb]
theorem compareWords_ev (a b : ByteArray) : ∃ c, Ev (fun k => impl_compareWords.f k a b) c ∧ wless a b = decide (c < 0) := by
  have hn : ∀ x : Int, cmp_isNaN_int.f x = some false := fun x => by simp [cmp_isNaN_int.f]
  have hc : cmp_Compare_int.f (a.size : Int) (b.size : Int) = some (if a.size < b.size then -1 else if b.size < a.size then 1 else 0) := by
    unfold cmp_Compare_int.f
    simp only [hn, Option.bind_some]
    rw [if_neg (by simp), if_neg (by simp)]
    by_cases h1 : a.size < b.size
    · rw [if_pos (by omega), if_pos h1]
    · rw [if_neg (by omega), if_neg h1]
      by_cases h2 : b.size < a.size
      · rw [if_pos (by omega), if_pos h2]
      · rw [if_neg (by omega), if_neg h2]
  refine ⟨_, Ev.known (fun _ => hc) (Ev.known (fun _ => rfl) (Ev.bind (or2 _ _) (Ev.now _))), ?_⟩
  unfold wless
  rw [bytesLess_cmp]
  by_cases h1 : a.size < b.size
  · simp [h1]
  · by_cases h2 : b.size < a.size
    · rw [if_neg h1, if_pos h2]; simp [h1, show ¬ a.size = b.size by omega]
    · rw [if_neg h1, if_neg h2]; simp [h1, show a.size = b.size by omega]
/-- a set: words of the right size, one by one in order -/
def SetUpto (l : List ByteArray) (i : Nat) : Prop := ∀ (j : Nat) (h : j < l.length), i ≤ j → short l[j] = true ∧ (0 < j → wless l[j - 1] l[j] = true)
theorem set_l0 (l : List ByteArray) (hl : l.length ≤ 1048576) : ∀ (d i : Nat), i + d = l.length → ∃ b, Ev (fun k => spec_wdSet.l0 k l l (l.length : Int) (i : Int)) b ∧ Ev (fun k => impl_isSet.l0 k l l (l.length : Int) (i : Int)) (b && decide (l.length ≤ 12)) ∧ (b = true → SetUpto l i)
  | 0, i, hd => by
    refine ⟨true, Ev.succ ?_, Ev.succ ?_, fun _ j h hj => by omega⟩
    · simp only [spec_wdSet.l0]; exact Ev.neg (by omega) (Ev.now _)
    · simp only [impl_isSet.l0]; refine Ev.neg (by omega) (Ev.pure ?_); rw [Bool.true_and]; exact decide_eq_decide.2 (by omega)
  | d + 1, i, hd => by
    have h1 : i < l.length := by omega
    obtain ⟨b, e1, e2, hb⟩ := set_l0 l hl d (i + 1) (by omega)
    have s1 := wdShort_ev l[i]
    have s2 := isShort_eq l[i]
    cases hs : short l[i]
    · rw [hs] at s1 s2
      refine ⟨false, Ev.succ ?_, Ev.succ ?_, fun h => by cases h⟩
      · simp only [spec_wdSet.l0, rdOf_nat l i h1]
        exact Ev.pos (by omega) (Ev.pos (by omega) (Ev.pos (by omega) (Ev.bind s1 (Ev.neg (by simp) (Ev.now _)))))
      · simp only [impl_isSet.l0, rdOf_nat l i h1]
        exact Ev.pos (by omega) (Ev.pos (by omega) (Ev.pos (by omega) (Ev.known (fun _ => s2) (Ev.neg (by simp) (Ev.now _)))))
    · rw [hs] at s1 s2
      by_cases h0 : i = 0
      · refine ⟨b, Ev.succ ?_, Ev.succ ?_, fun h j hj hij => ?_⟩
        · simp only [spec_wdSet.l0, rdOf_nat l i h1, w1 (show 0 ≤ (i : Int) by omega) (show (i : Int) < 9223372036854775807 by omega)]
          exact Ev.pos (by omega) (Ev.pos (by omega) (Ev.pos (by omega) (Ev.bind s1 (Ev.pos rfl (Ev.neg (by omega) e1)))))
        · simp only [impl_isSet.l0, rdOf_nat l i h1, w1 (show 0 ≤ (i : Int) by omega) (show (i : Int) < 9223372036854775807 by omega)]
          exact Ev.pos (by omega) (Ev.pos (by omega) (Ev.pos (by omega) (Ev.known (fun _ => s2) (Ev.pos rfl (Ev.neg (by omega) e2)))))
        · by_cases he : i = j
          · subst he; exact ⟨hs, fun h => by omega⟩
          · exact hb h j hj (by omega)
      · obtain ⟨c, hc, hw⟩ := compareWords_ev l[i - 1] l[i]
        have e3 : Aside0 (wrap64 ((i : Int) - 1) = ((i - 1 : Nat) : Int)) := ⟨by rw [w64 (by omega) (by omega)]; omega⟩
        have l1 := wdLess_eq l[i - 1] l[i]
        refine ⟨wless l[i - 1] l[i] && b, Ev.succ ?_, Ev.succ ?_, fun h j hj hij => ?_⟩
        · simp only [spec_wdSet.l0, rdOf_nat l i h1, e3.out, rdOf_nat l (i - 1) (by omega), w1 (show 0 ≤ (i : Int) by omega) (show (i : Int) < 9223372036854775807 by omega)]
          refine Ev.pos (by omega) (Ev.pos (by omega) (Ev.pos (by omega) (Ev.bind s1 (Ev.pos rfl (Ev.pos (by omega) (Ev.pos (by omega) (Ev.pos (by omega) (Ev.known (fun _ => l1) (Ev.cases (fun h => ?_) (fun h => ?_))))))))))
          · rw [h, Bool.true_and]; exact e1
          · rw [Bool.eq_false_iff.mpr h, Bool.false_and]; exact Ev.now _
        · simp only [impl_isSet.l0, rdOf_nat l i h1, e3.out, rdOf_nat l (i - 1) (by omega), w1 (show 0 ≤ (i : Int) by omega) (show (i : Int) < 9223372036854775807 by omega)]
          refine Ev.pos (by omega) (Ev.pos (by omega) (Ev.pos (by omega) (Ev.known (fun _ => s2) (Ev.pos rfl (Ev.pos (by omega) (Ev.pos (by omega) (Ev.pos (by omega) (Ev.bind hc (Ev.cases (fun h => ?_) (fun h => ?_))))))))))
          · rw [hw, decide_eq_false (by omega)]; exact Ev.now _
          · rw [hw, decide_eq_true (by omega)]; exact e2
        · simp only [Bool.and_eq_true] at h
          by_cases he : i = j
          · subst he; exact ⟨hs, fun _ => h.1⟩
          · exact hb h.2 j hj (by omega)
/-- what a set is -/
structure IsSet (l : List ByteArray) : Prop where
  few : l.length ≤ 12
  each : SetUpto l 0
theorem isSet_same (l : List ByteArray) (hl : l.length ≤ 1048576) : ∃ b, Ev (fun k => spec_wdSet.f k l) b ∧ Ev (fun k => impl_isSet.f k l) b ∧ (b = true → IsSet l) := by
  obtain ⟨b, h1, h2, hb⟩ := set_l0 l hl l.length 0 (by omega)
  unfold spec_wdSet.f impl_isSet.f
  by_cases h12 : l.length ≤ 12
  · rw [decide_eq_true h12, Bool.and_true] at h2
    exact ⟨b, Ev.neg (by omega) h1, h2, fun h => ⟨h12, hb h⟩⟩
  · rw [decide_eq_false h12, Bool.and_false] at h2
    exact ⟨false, Ev.pos (by omega) (Ev.now _), h2, fun h => by cases h⟩
theorem IsSet.lt {l : List ByteArray} (h : IsSet l) : ∀ (j i : Nat) (hj : j < l.length) (hi : i < j), wless l[i] l[j] = true
  | 0, i, hj, hi => by omega
  | j + 1, i, hj, hi => by
    have h1 := (h.each (j + 1) hj (by omega)).2 (by omega)
    by_cases e : i = j
    · subst e; exact h1
    · exact wless_trans _ _ _ (h.lt j i (by omega) (by omega)) h1
theorem IsSet.short {l : List ByteArray} (h : IsSet l) (w : ByteArray) (hw : w ∈ l) : Pure.short w = true := by
  obtain ⟨i, hi, rfl⟩ := List.getElem_of_mem hw
  exact (h.each i hi (by omega)).1
theorem IsSet.size {l : List ByteArray} (h : IsSet l) (w : ByteArray) (hw : w ∈ l) : 1 ≤ w.size ∧ w.size ≤ 8 := by
  have := h.short w hw
  unfold Pure.short at this
  simp only [Bool.and_eq_true, decide_eq_true_eq] at this
  exact this.1

/-- a text's letters -/
abbrev ch (s : ByteArray) : List UInt8 := s.data.toList
theorem ch_length (s : ByteArray) : (ch s).length = s.size := Array.length_toList
theorem ch_extract (s : ByteArray) (a b : Nat) : ch (s.extract a b) = ((ch s).drop a).take (b - a) := by
  simp [ch, ByteArray.data_extract, Array.toList_extract, List.extract_eq_take_drop]
theorem ch_drop (s : ByteArray) (a : Nat) : ch (s.extract a s.size) = (ch s).drop a := by
  rw [ch_extract, List.take_of_length_le]; simp only [List.length_drop, ch_length]; omega
theorem begins_test (a w : ByteArray) (h : w.size ≤ a.size) : ((a.extract 0 w.size).toList == w.toList) = (ch w).isPrefixOf (ch a) := by
  rw [ByteArray.toList_eq, ByteArray.toList_eq]
  change (ch (a.extract 0 w.size) == ch w) = _
  rw [ch_extract, List.drop_zero, Nat.sub_zero, ← ch_length w, Bool.eq_iff_iff, beq_iff_eq, List.isPrefixOf_iff_prefix, List.prefix_iff_eq_take]
  exact eq_comm
theorem prefix_long (a w : ByteArray) (h : ¬ w.size ≤ a.size) : (ch w).isPrefixOf (ch a) = false := by
  rw [Bool.eq_false_iff]
  intro hp
  have := (List.isPrefixOf_iff_prefix.1 hp).length_le
  rw [ch_length, ch_length] at this
  exact h this
theorem toList_ch (s : ByteArray) : s.toList = ch s := ByteArray.toList_eq s
theorem chNe (l : List ByteArray) (hne : ∀ w ∈ l, 1 ≤ w.size) : ∀ t ∈ l.map ch, t ≠ [] := fun t ht => by
  obtain ⟨w, hw, rfl⟩ := List.mem_map.1 ht
  intro e; have := hne w hw; have := ch_length w; rw [e] at this; simp at this; omega

/-- a loop from the first place to the last one, with what is so at each place -/
theorem Ev.loop {R : Type} (g : Nat → Nat → Option R) (n : Nat) (r : R) (hstep : ∀ i, i < n → Ev (g (i + 1)) r → Ev (g i) r) (hend : Ev (g n) r) : Ev (g 0) r := by
  have h : ∀ d i, i + d = n → Ev (g i) r := by
    intro d
    induction d with
    | zero => intro i hi; rw [show i = n by omega]; exact hend
    | succ d ih => intro i hi; exact hstep i (by omega) (ih (i + 1) (by omega))
  exact h n 0 (by omega)

/-- a text out of its letters -/
def bx (x : List UInt8) : ByteArray := ⟨x.toArray⟩
theorem ch_bx (x : List UInt8) : ch (bx x) = x := by simp [ch, bx]
theorem bx_ch (s : ByteArray) : bx (ch s) = s := by simp [ch, bx]
theorem ch_inj' {a b : ByteArray} (h : ch a = ch b) : a = b := ByteArray.ext (Array.toList_inj.1 h)
theorem map_ch_bx (l : List (List UInt8)) : (l.map bx).map ch = l := by simp [Function.comp_def, ch_bx]
theorem map_bx_ch (l : List ByteArray) : (l.map ch).map bx = l := by simp [Function.comp_def, bx_ch]
theorem bx_size (x : List UInt8) : (bx x).size = x.length := by rw [← ch_length, ch_bx]
/-- words in order, each once, as texts -/
def bas (M : List (List UInt8)) : List ByteArray := (ordL M).map bx
theorem ordL_congr {M N : List (List UInt8)} (h : ∀ x, x ∈ M ↔ x ∈ N) : ordL M = ordL N := rises_unique _ _ (ordL_rises M) (ordL_rises N) (fun x => by rw [mem_ordL, mem_ordL]; exact h x)
theorem bas_congr {M N : List (List UInt8)} (h : ∀ x, x ∈ M ↔ x ∈ N) : bas M = bas N := by unfold bas; rw [ordL_congr h]
theorem ch_bas (M : List (List UInt8)) : (bas M).map ch = ordL M := map_ch_bx _
theorem bas_of (r : List ByteArray) (M : List (List UInt8)) (hr : (r.map ch).Pairwise fun x y => wcmp x y < 0) (hm : ∀ x, x ∈ r.map ch ↔ x ∈ M) : r = bas M := by
  unfold bas
  rw [← rises_unique (r.map ch) (ordL M) hr (ordL_rises M) (fun x => by rw [hm, mem_ordL]), map_bx_ch]
theorem ordL_len (M : List (List UInt8)) : (ordL M).length ≤ M.length := by
  unfold ordL Lib.compact Lib.compactUpTo
  rw [List.length_map]
  refine Nat.le_trans (List.length_filter_le _ _) ?_
  rw [List.length_range, (sortW_perm M).length_eq]
  exact Nat.le_refl _
theorem bas_len (M : List (List UInt8)) : (bas M).length ≤ M.length := by unfold bas; rw [List.length_map]; exact ordL_len M
theorem ordL_ordL (M : List (List UInt8)) : ordL (ordL M) = ordL M := ordL_congr (fun x => mem_ordL M x)
theorem bas_nil : bas [] = [] := (bas_of [] [] (by simp) (by simp)).symm
theorem bas_one (x : List UInt8) : bas [x] = [bx x] := by
  symm
  exact bas_of _ _ (by simp) (by intro y; simp [ch_bx])
theorem ordL_nodup (M : List (List UInt8)) : (ordL M).Nodup := (ordL_rises M).imp fun {a b} h e => by rw [e, wcmp_self] at h; omega
theorem wless_wcmp (a b : ByteArray) : wless a b = decide (wcmp (ch a) (ch b) < 0) := by
  unfold wless wcmp
  rw [ch_length, ch_length, bytesLess_cmp]
  by_cases h1 : a.size < b.size
  · simp [h1]
  · by_cases h2 : b.size < a.size
    · simp [h1, h2, show ¬ a.size = b.size by omega]
    · simp [h1, show a.size = b.size by omega]
theorem ordered_eq (l : List ByteArray) (h : l.length ≤ 8796093021952) : impl_ordered.f l = some (bas (l.map ch)) := by
  unfold impl_ordered.f
  rw [if_pos h]; rfl

theorem wdPut_l0 (L : List ByteArray) (s : ByteArray) (hL : L.length ≤ 8796093000000) (hr : (L.map ch).Pairwise fun x y => wcmp x y < 0) : ∀ (d i : Nat), i + d = L.length → (∀ j (h : j < L.length), j < i → wcmp (ch L[j]) (ch s) < 0) → ∃ r, Ev (fun k => spec_wdPut.l0 k L s (i : Int)) r ∧ (r.map ch).Pairwise (fun x y => wcmp x y < 0) ∧ ∀ x, x ∈ r.map ch ↔ x ∈ L.map ch ++ [ch s] := by
  have fin : ∀ i, i ≤ L.length → (∀ j (h : j < L.length), j < i → wcmp (ch L[j]) (ch s) < 0) → (∀ j (h : j < L.length), i ≤ j → wcmp (ch s) (ch L[j]) < 0) → ((L.take i ++ [s] ++ L.drop i).map ch).Pairwise (fun x y => wcmp x y < 0) ∧ ∀ x, x ∈ (L.take i ++ [s] ++ L.drop i).map ch ↔ x ∈ L.map ch ++ [ch s] := by
    intro i hi h1 h2
    refine ⟨?_, fun x => ?_⟩
    · rw [List.map_append, List.map_append, List.map_cons, List.map_nil, List.pairwise_append, List.pairwise_append]
      refine ⟨⟨?_, by simp, ?_⟩, ?_, ?_⟩
      · rw [List.map_take]; exact hr.sublist (List.take_sublist _ _)
      · intro a ha b hb
        rw [List.mem_singleton] at hb
        subst hb
        obtain ⟨y, hy, rfl⟩ := List.mem_map.1 ha
        obtain ⟨j, hj, rfl⟩ := List.getElem_of_mem hy
        rw [List.length_take] at hj
        rw [List.getElem_take]
        exact h1 j (by omega) (by omega)
      · rw [List.map_drop]; exact hr.sublist (List.drop_sublist _ _)
      · intro a ha b hb
        obtain ⟨y, hy, rfl⟩ := List.mem_map.1 hb
        obtain ⟨j, hj, rfl⟩ := List.getElem_of_mem hy
        rw [List.length_drop] at hj
        rw [List.getElem_drop]
        have hb' := h2 (i + j) (by omega) (by omega)
        rcases List.mem_append.1 ha with ha | ha
        · obtain ⟨y, hy, rfl⟩ := List.mem_map.1 ha
          obtain ⟨j', hj', rfl⟩ := List.getElem_of_mem hy
          rw [List.length_take] at hj'
          rw [List.getElem_take]
          exact wcmp_trans _ _ _ (h1 j' (by omega) (by omega)) hb'
        · rw [List.mem_singleton] at ha
          subst ha
          exact hb'
    · have := List.take_append_drop i L
      constructor
      · intro hx
        obtain ⟨y, hy, rfl⟩ := List.mem_map.1 hx
        rcases List.mem_append.1 hy with hy | hy
        · rcases List.mem_append.1 hy with hy | hy
          · exact List.mem_append_left _ (List.mem_map.2 ⟨y, List.mem_of_mem_take hy, rfl⟩)
          · rw [List.mem_singleton] at hy; subst hy; exact List.mem_append_right _ (by simp)
        · exact List.mem_append_left _ (List.mem_map.2 ⟨y, List.mem_of_mem_drop hy, rfl⟩)
      · intro hx
        rcases List.mem_append.1 hx with hx | hx
        · obtain ⟨y, hy, rfl⟩ := List.mem_map.1 hx
          refine List.mem_map.2 ⟨y, ?_, rfl⟩
          rw [← this] at hy
          rcases List.mem_append.1 hy with hy | hy
          · exact List.mem_append_left _ (List.mem_append_left _ hy)
          · exact List.mem_append_right _ hy
        · rw [List.mem_singleton] at hx; subst hx
          exact List.mem_map.2 ⟨s, List.mem_append_left _ (List.mem_append_right _ (by simp)), rfl⟩
  intro d
  induction d with
  | zero =>
    intro i hd h1
    obtain ⟨p, q⟩ := fin i (by omega) h1 (fun j hj h => by omega)
    refine ⟨_, Ev.succ ?_, p, q⟩
    simp only [spec_wdPut.l0, Int.toNat_natCast, Option.bind_some]
    exact Ev.neg (by omega) (Ev.pos (by omega) (Ev.pos (by omega) (Ev.pos (by simp; omega) (Ev.pos (by simp; omega) (Ev.pos (by simp; omega) (Ev.pure (by simp)))))))
  | succ d ih =>
    intro i hd h1
    have hi : i < L.length := by omega
    have hw := wless_wcmp L[i] s
    by_cases hl : wcmp (ch L[i]) (ch s) < 0
    · obtain ⟨r, r1, r2, r3⟩ := ih (i + 1) (by omega) (fun j hj h => by
        by_cases e : j = i
        · subst e; exact hl
        · exact h1 j hj (by omega))
      refine ⟨r, Ev.succ ?_, r2, r3⟩
      simp only [spec_wdPut.l0, rdOf_nat L i hi, w1 (show 0 ≤ (i : Int) by omega) (show (i : Int) < 9223372036854775807 by omega)]
      exact Ev.pos (by omega) (Ev.pos (by omega) (Ev.known (fun _ => wdLess_eq _ _) (Ev.pos (by rw [hw]; simpa using hl) r1)))
    · by_cases he : ch L[i] = ch s
      · refine ⟨L, Ev.succ ?_, hr, fun x => ?_⟩
        · simp only [spec_wdPut.l0, rdOf_nat L i hi, toList_ch]
          exact Ev.pos (by omega) (Ev.pos (by omega) (Ev.known (fun _ => wdLess_eq _ _) (Ev.neg (by rw [hw]; simpa using hl) (Ev.pos he (Ev.now _)))))
        · rw [List.mem_append, List.mem_singleton]
          constructor
          · exact Or.inl
          · rintro (h | rfl)
            · exact h
            · exact List.mem_map.2 ⟨L[i], List.getElem_mem hi, he⟩
      · have hgt : wcmp (ch s) (ch L[i]) < 0 := by
          have := wcmp_anti (ch L[i]) (ch s)
          have h0 : wcmp (ch L[i]) (ch s) ≠ 0 := fun h => he (wcmp_zero _ _ h)
          omega
        obtain ⟨p, q⟩ := fin i (by omega) h1 (fun j hj h => by
          by_cases e : j = i
          · subst e; exact hgt
          · have := List.pairwise_iff_getElem.1 hr i j (by simpa using hi) (by simpa using hj) (by omega)
            rw [List.getElem_map, List.getElem_map] at this
            exact wcmp_trans _ _ _ hgt this)
        refine ⟨_, Ev.succ ?_, p, q⟩
        simp only [spec_wdPut.l0, rdOf_nat L i hi, toList_ch, Int.toNat_natCast, Option.bind_some]
        exact Ev.pos (by omega) (Ev.pos (by omega) (Ev.known (fun _ => wdLess_eq _ _) (Ev.neg (by rw [hw]; simpa using hl) (Ev.neg he (Ev.pos (by omega) (Ev.pos (by simp; omega) (Ev.pos (by simp; omega) (Ev.pos (by simp; omega) (Ev.pure (by simp))))))))))
theorem wdPut_ev (M : List (List UInt8)) (s : ByteArray) (hM : M.length ≤ 8796093000000) : Ev (fun k => spec_wdPut.f k (bas M) s) (bas (M ++ [ch s])) := by
  have hl := bas_len M
  obtain ⟨r, r1, r2, r3⟩ := wdPut_l0 (bas M) s (by omega) (by rw [ch_bas]; exact ordL_rises M) (bas M).length 0 (by omega) (fun j _ h => by omega)
  rw [← bas_of r (M ++ [ch s]) r2 (fun x => by rw [r3, ch_bas, List.mem_append, List.mem_append, mem_ordL])]
  exact r1

theorem flatMapLen {α β : Type} (f : α → List β) (c : Nat) : ∀ l : List α, (∀ x ∈ l, (f x).length ≤ c) → (l.flatMap f).length ≤ l.length * c
  | [], _ => by simp
  | x :: l, h => by
    have h1 := h x (by simp)
    have h2 := flatMapLen f c l (fun y hy => h y (by simp [hy]))
    rw [List.flatMap_cons, List.length_append, List.length_cons, Nat.succ_mul]
    omega

/-- all inner words: what stands ahead of a place in a word -/
def inn (W : List (List UInt8)) : List (List UInt8) := W.flatMap fun t => (List.range t.length).map fun n => t.take n
theorem inn_len (W : List (List UInt8)) (h8 : ∀ t ∈ W, t.length ≤ 8) : (inn W).length ≤ W.length * 8 := flatMapLen _ 8 W (fun t ht => by simpa using h8 t ht)
theorem inn_succ (W : List (List UInt8)) (i : Nat) (h : i < W.length) : inn (W.take (i + 1)) = inn (W.take i) ++ (List.range W[i].length).map fun n => W[i].take n := by
  unfold inn; rw [List.take_succ_eq_append_getElem h, List.flatMap_append]; simp
theorem spec_pfInner_ev (l : List ByteArray) (hl : l.length ≤ 12) (h8 : ∀ w ∈ l, w.size ≤ 8) : Ev (fun k => spec_pfInner.f k l) (bas (inn (l.map ch))) := by
  have h8' : ∀ t ∈ l.map ch, t.length ≤ 8 := fun t ht => by obtain ⟨w, hw, rfl⟩ := List.mem_map.1 ht; rw [ch_length]; exact h8 w hw
  have hb : ∀ i, (inn ((l.map ch).take i)).length ≤ 96 := fun i => by
    have h1 := inn_len ((l.map ch).take i) (fun t ht => h8' t (List.mem_of_mem_take ht))
    have h2 : ((l.map ch).take i).length ≤ 12 := Nat.le_trans (List.length_take_le' _ _) (by simpa using hl)
    omega
  unfold spec_pfInner.f
  have start : ([] : List ByteArray) = bas (inn ((l.map ch).take 0)) := by simp [inn, bas_nil]
  rw [start]
  refine Ev.loop (fun i k => spec_pfInner.l0 k (bas (inn ((l.map ch).take i))) l (l.length : Int) (i : Int)) l.length _ (fun i hi hnext => ?_) ?_
  · have hi' : i < (l.map ch).length := by simpa using hi
    have hbi := hb i
    have hw8 := h8 _ (List.getElem_mem hi)
    rw [inn_succ _ i hi', List.getElem_map] at hnext
    obtain ⟨N, hN⟩ : ∃ N, N = inn ((l.map ch).take i) := ⟨_, rfl⟩
    rw [← hN] at hnext hbi ⊢
    refine Ev.succ ?_
    simp only [spec_pfInner.l0, rdOf_nat l i hi]
    refine Ev.pos (by omega) (Ev.pos (by omega) (Ev.pos (by omega) ?_))
    have s0 : bas N = bas (N ++ (List.range 0).map fun n => (ch l[i]).take n) := by simp
    rw [s0]
    refine Ev.loop (fun j k => spec_pfInner.l1 k (bas (N ++ (List.range j).map fun n => (ch l[i]).take n)) l[i] (j : Int) l (l.length : Int) (i : Int)) l[i].size _ (fun j hj hnext => ?_) ?_
    · rw [List.range_succ, List.map_append, ← List.append_assoc, List.map_cons, List.map_nil] at hnext
      have hput := wdPut_ev (N ++ (List.range j).map fun n => (ch l[i]).take n) (l[i].extract 0 j) (by simp; omega)
      rw [show ch (l[i].extract 0 j) = (ch l[i]).take j by rw [ch_extract]; simp] at hput
      refine Ev.succ ?_
      simp only [spec_pfInner.l1, Int.toNat_natCast, w1 (show 0 ≤ (j : Int) by omega) (show (j : Int) < 9223372036854775807 by omega)]
      exact Ev.pos (by omega) (Ev.pos (by omega) (Ev.pos (by omega) (Ev.bind hput hnext)))
    · refine Ev.succ ?_
      simp only [spec_pfInner.l1, w1 (show 0 ≤ (i : Int) by omega) (show (i : Int) < 9223372036854775807 by omega)]
      refine Ev.neg (by omega) ?_
      rw [ch_length] at hnext
      exact hnext
  · refine Ev.succ ?_
    simp only [spec_pfInner.l0]
    exact Ev.neg (by omega) (Ev.pure (by rw [List.take_of_length_le (by simp)]))
theorem impl_innerWords_ev (l : List ByteArray) (hl : l.length ≤ 12) (h8 : ∀ w ∈ l, w.size ≤ 8) : Ev (fun k => impl_innerWords.f k l) (bas (inn (l.map ch))) := by
  have h8' : ∀ t ∈ l.map ch, t.length ≤ 8 := fun t ht => by obtain ⟨w, hw, rfl⟩ := List.mem_map.1 ht; rw [ch_length]; exact h8 w hw
  have hb : ∀ i, (inn ((l.map ch).take i)).length ≤ 96 := fun i => by
    have h1 := inn_len ((l.map ch).take i) (fun t ht => h8' t (List.mem_of_mem_take ht))
    have h2 : ((l.map ch).take i).length ≤ 12 := Nat.le_trans (List.length_take_le' _ _) (by simpa using hl)
    omega
  unfold impl_innerWords.f
  have start : ([] : List ByteArray) = (inn ((l.map ch).take 0)).map bx := by simp [inn]
  rw [start]
  refine Ev.loop (fun i k => impl_innerWords.l0 k ((inn ((l.map ch).take i)).map bx) l (l.length : Int) (i : Int)) l.length _ (fun i hi hnext => ?_) ?_
  · have hi' : i < (l.map ch).length := by simpa using hi
    have hbi := hb i
    have hw8 := h8 _ (List.getElem_mem hi)
    rw [inn_succ _ i hi', List.getElem_map] at hnext
    obtain ⟨N, hN⟩ : ∃ N, N = inn ((l.map ch).take i) := ⟨_, rfl⟩
    rw [← hN] at hnext hbi ⊢
    refine Ev.succ ?_
    simp only [impl_innerWords.l0, rdOf_nat l i hi]
    refine Ev.pos (by omega) (Ev.pos (by omega) (Ev.pos (by omega) ?_))
    have s0 : N.map bx = (N ++ (List.range 0).map fun n => (ch l[i]).take n).map bx := by simp
    rw [s0]
    refine Ev.loop (fun j k => impl_innerWords.l1 k ((N ++ (List.range j).map fun n => (ch l[i]).take n).map bx) l[i] l (l.length : Int) (i : Int) (l[i].size : Int) (j : Int)) l[i].size _ (fun j hj hnext => ?_) ?_
    · have e : bx ((ch l[i]).take j) = l[i].extract 0 j := by rw [← bx_ch (l[i].extract 0 j), ch_extract]; simp
      have e0 : (N ++ (List.range (j + 1)).map fun n => (ch l[i]).take n).map bx = (N ++ (List.range j).map fun n => (ch l[i]).take n).map bx ++ [l[i].extract 0 j] := by
        rw [← e]; simp [List.range_succ]
      rw [e0] at hnext
      refine Ev.succ ?_
      simp only [impl_innerWords.l1, Int.toNat_natCast, w1 (show 0 ≤ (j : Int) by omega) (show (j : Int) < 9223372036854775807 by omega)]
      exact Ev.pos (by omega) (Ev.pos (by omega) (Ev.pos (by omega) (Ev.pos (by simp; omega) hnext)))
    · refine Ev.succ ?_
      simp only [impl_innerWords.l1, w1 (show 0 ≤ (i : Int) by omega) (show (i : Int) < 9223372036854775807 by omega)]
      refine Ev.neg (by omega) ?_
      rw [ch_length] at hnext
      exact hnext
  · have hbl := hb l.length
    refine Ev.succ ?_
    simp only [impl_innerWords.l0]
    rw [List.take_of_length_le (by simp)] at hbl ⊢
    refine Ev.neg (by omega) (Ev.known (fun _ => ordered_eq _ (by simp only [List.length_map]; omega)) (Ev.pure ?_))
    rw [map_ch_bx]
theorem inn_short (l : List ByteArray) (hsh : ∀ s ∈ l, short s = true) : ∀ x ∈ inn (l.map ch), x.length ≤ 8 ∧ x.all isLetter = true := by
  intro x hx
  obtain ⟨t, ht, hx⟩ := List.mem_flatMap.1 hx
  obtain ⟨s, hs, rfl⟩ := List.mem_map.1 ht
  obtain ⟨n, -, rfl⟩ := List.mem_map.1 hx
  have h := hsh s hs
  unfold short at h
  simp only [Bool.and_eq_true, decide_eq_true_eq] at h
  refine ⟨?_, ?_⟩
  · have := ch_length s; simp; omega
  · rw [List.all_eq_true]
    intro c hc
    exact List.all_eq_true.1 h.2 c (List.mem_of_mem_take hc)

theorem wdHas_l0 (l : List ByteArray) (s : ByteArray) (hl : l.length ≤ 1048576) : ∀ (d i : Nat), i + d = l.length → Ev (fun k => spec_wdHas.l0 k s l (l.length : Int) (i : Int)) (((l.drop i).map ch).contains (ch s))
  | 0, i, hd => by
    refine Ev.succ ?_
    simp only [spec_wdHas.l0]
    exact Ev.neg (by omega) (Ev.pure (by rw [List.drop_of_length_le (by omega)]; rfl))
  | d + 1, i, hd => by
    have h1 : i < l.length := by omega
    have ih := wdHas_l0 l s hl d (i + 1) (by omega)
    rw [List.drop_eq_getElem_cons h1, List.map_cons, List.contains_cons]
    refine Ev.succ ?_
    simp only [spec_wdHas.l0, rdOf_nat l i h1, toList_ch, w1 (show 0 ≤ (i : Int) by omega) (show (i : Int) < 9223372036854775807 by omega)]
    refine Ev.pos (by omega) (Ev.pos (by omega) (Ev.pos (by omega) (Ev.cases (fun h => ?_) (fun h => ?_))))
    · rw [h]; simp only [BEq.rfl, Bool.true_or]; exact Ev.now _
    · rw [show (ch s == ch l[i]) = false by rw [beq_eq_false_iff_ne]; exact h, Bool.false_or]; exact ih
theorem wdHas_ev (l : List ByteArray) (s : ByteArray) (hl : l.length ≤ 1048576) : Ev (fun k => spec_wdHas.f k l s) ((l.map ch).contains (ch s)) := by
  have := wdHas_l0 l s hl l.length 0 (by omega)
  simpa [spec_wdHas.f] using this

theorem power_l0 (b m : Nat) (hb : 1 ≤ b) (hp : b ^ m < 4611686018427387904) (hm : m ≤ 1048576) : ∀ (d i : Nat), i + d = m → Ev (fun k => impl_power.l0 k (b : Int) ((b ^ i : Nat) : Int) (m : Int) (i : Int)) ((b ^ m : Nat) : Int)
  | 0, i, hd => by
    refine Ev.succ ?_
    simp only [impl_power.l0]
    exact Ev.neg (by omega) (Ev.pure (by rw [show i = m by omega]))
  | d + 1, i, hd => by
    have ih := power_l0 b m hb hp hm d (i + 1) (by omega)
    have h1 : b ^ (i + 1) ≤ b ^ m := Nat.pow_le_pow_right hb (by omega)
    have e : Aside0 (wrap64 (((b ^ i : Nat) : Int) * (b : Int)) = ((b ^ (i + 1) : Nat) : Int)) := ⟨by
      rw [← Int.natCast_mul, show b ^ i * b = b ^ (i + 1) from rfl]; exact w64 (by omega) (by omega)⟩
    refine Ev.succ ?_
    simp only [impl_power.l0, e.out, w1 (show 0 ≤ (i : Int) by omega) (show (i : Int) < 9223372036854775807 by omega)]
    exact Ev.pos (by omega) ih
theorem power_ev (b m : Nat) (hb : 1 ≤ b) (hp : b ^ m < 4611686018427387904) (hm : m ≤ 1048576) : Ev (fun k => impl_power.f k (b : Int) (m : Int)) ((b ^ m : Nat) : Int) := by
  have h := power_l0 b m hb hp hm m 0 (by omega)
  simpa [impl_power.f] using h

theorem wf64 {n : Int} (h1 : -9223372036854775808 ≤ n) (h2 : n ≤ 9223372036854775807) : (Lit.int .i64 n).wf = true := by
  simp only [Lit.wf, IntKind.min, IntKind.max, IntKind.signed, IntKind.bits, Bool.and_eq_true, decide_eq_true_eq, if_true]
  omega
theorem pow_small {m n : Nat} (hm : 2 ≤ m ∧ m ≤ 3) (hn : n ≤ 11) : 1 ≤ m ^ n ∧ m ^ n ≤ 177147 := by
  have e : (3 : Nat) ^ 11 = 177147 := by decide
  exact ⟨Nat.pow_pos (by omega), by rw [← e]; exact Nat.le_trans (Nat.pow_le_pow_left hm.2 _) (Nat.pow_le_pow_right (by omega) hn)⟩

/-- Kraft's sum, in parts of the greatest length e -/
def kr (m e : Nat) (L : List Nat) : Nat := (L.map fun x => m ^ (e - x)).sum
theorem kr_snoc (m e : Nat) (L : List Nat) (x : Nat) : kr m e (L ++ [x]) = kr m e L + m ^ (e - x) := by simp [kr]
theorem kr_le {m e : Nat} (hm : 2 ≤ m ∧ m ≤ 3) (he : e ≤ 11) : ∀ L : List Nat, kr m e L ≤ L.length * 177147
  | [] => by simp [kr]
  | x :: L => by
    have h1 := kr_le hm he L
    have h2 := (pow_small (n := e - x) hm (by omega)).2
    have h3 : kr m e (x :: L) = m ^ (e - x) + kr m e L := by simp [kr]
    rw [h3, List.length_cons, Nat.add_mul]
    omega
theorem kr_take {m e : Nat} (hm : 2 ≤ m ∧ m ≤ 3) (he : e ≤ 11) (L : List Nat) (hL : L.length ≤ 12) (i : Nat) : kr m e (L.take i) ≤ 2125764 := by
  have h1 := kr_le hm he (L.take i)
  have h2 : (L.take i).length ≤ 12 := by rw [List.length_take]; omega
  have h3 := Nat.mul_le_mul_right 177147 h2
  omega
theorem kr_perm (m e : Nat) {L M : List Nat} (h : L.Perm M) : kr m e L = kr m e M := (h.map _).sum_nat
theorem kr_up (m : Nat) : ∀ (L : List Nat), (∀ x ∈ L, x ≤ 8) → kr m 11 L = kr m 8 L * m ^ 3
  | [], _ => by simp [kr]
  | x :: L, h => by
    have ih := kr_up m L (fun y hy => h y (by simp [hy]))
    have hx := h x (by simp)
    have h1 : kr m 11 (x :: L) = m ^ (11 - x) + kr m 11 L := by simp [kr]
    have h2 : kr m 8 (x :: L) = m ^ (8 - x) + kr m 8 L := by simp [kr]
    rw [h1, h2, ih, Nat.add_mul, ← Nat.pow_add, show 8 - x + 3 = 11 - x by omega]
def intsOf (L : List Nat) : List Int := L.map fun (x : Nat) => (x : Int)
theorem ints_len (L : List Nat) : (intsOf L).length = L.length := by simp [intsOf]
theorem ints_at (L : List Nat) (i : Nat) (h : i < L.length) : rd (intsOf L) (i : Int) = ((L[i] : Nat) : Int) := by
  rw [rd_nat _ i (by rw [ints_len]; exact h)]
  simp [intsOf]

theorem nodupLe {α : Type} [DecidableEq α] : ∀ (M N : List α), M.Nodup → M ⊆ N → M.length ≤ N.length
  | [], _, _, _ => Nat.zero_le _
  | x :: M, N, hn, hs => by
    have hx : x ∈ N := hs (by simp)
    have hn' := List.nodup_cons.1 hn
    have := nodupLe M (N.erase x) hn'.2 (fun y hy => (List.mem_erase_of_ne (by rintro rfl; exact hn'.1 hy)).2 (hs (by simp [hy])))
    have h1 := List.length_erase_of_mem hx
    have h2 := List.length_pos_of_mem hx
    simp only [List.length_cons]
    omega

theorem sortI_up (l : List Int) : (sortI l).Pairwise fun x y => x ≤ y := by
  have h := List.pairwise_mergeSort (le := fun x y : Int => decide (x ≤ y)) (fun a b c h1 h2 => by simp at h1 h2 ⊢; omega) (fun a b => by simp; omega) l
  exact h.imp fun {a b} h => by simpa using h
theorem sortI_perm (l : List Int) : (sortI l).Perm l := List.mergeSort_perm l _
theorem up_unique {a b : List Int} (ha : a.Pairwise fun x y => x ≤ y) (hb : b.Pairwise fun x y => x ≤ y) (h : a.Perm b) : a = b :=
  List.Perm.eq_of_pairwise (le := fun x y : Int => x ≤ y) (fun x y _ _ h1 h2 => by omega) ha hb h
theorem sortI_of {a b : List Int} (ha : a.Pairwise fun x y => x ≤ y) (h : a.Perm b) : a = sortI b := up_unique ha (sortI_up b) (h.trans (sortI_perm b).symm)
theorem sortI_len (l : List Int) : (sortI l).length = l.length := (sortI_perm l).length_eq
theorem sortI_nil : sortI [] = [] := (sortI_of (by simp) (List.Perm.refl _)).symm

/-- the letters of a set of m letters -/
def lets (m : Nat) : List UInt8 := (List.range m).map fun k => UInt8.ofNat (97 + k)
/-- what stands behind a letter -/
def behindL (c : UInt8) : List (List UInt8) → List (List UInt8)
  | [] => []
  | [] :: V => behindL c V
  | (x :: t) :: V => if x = c then t :: behindL c V else behindL c V
theorem mem_behindL (c : UInt8) (t : List UInt8) : ∀ V : List (List UInt8), t ∈ behindL c V ↔ (c :: t) ∈ V
  | [] => by simp [behindL]
  | [] :: V => by simp [behindL, mem_behindL c t V]
  | (x :: u) :: V => by
    rw [behindL]
    by_cases h : x = c
    · subst h; simp [mem_behindL x t V]
    · rw [if_neg h, mem_behindL c t V]; simp [Ne.symm h]
/-- no one begins with the other -/
abbrev FreeL (x y : List UInt8) : Prop := ¬ x <+: y ∧ ¬ y <+: x
theorem behindL_free (c : UInt8) : ∀ V : List (List UInt8), V.Pairwise FreeL → (behindL c V).Pairwise FreeL
  | [], _ => by simp [behindL]
  | [] :: V, h => by rw [behindL]; exact behindL_free c V (List.pairwise_cons.1 h).2
  | (x :: u) :: V, h => by
    have h' := List.pairwise_cons.1 h
    have ih := behindL_free c V h'.2
    rw [behindL]
    by_cases e : x = c
    · subst e
      rw [if_pos rfl]
      refine List.pairwise_cons.2 ⟨fun t ht => ?_, ih⟩
      have := h'.1 _ ((mem_behindL x t V).1 ht)
      exact ⟨fun q => this.1 (List.cons_prefix_cons.2 ⟨rfl, q⟩), fun q => this.2 (List.cons_prefix_cons.2 ⟨rfl, q⟩)⟩
    · rw [if_neg e]; exact ih
/-- Kraft's sum of words -/
def kra (m e : Nat) (V : List (List UInt8)) : Nat := kr m e (V.map List.length)
theorem kra_cons (m e : Nat) (v : List UInt8) (V : List (List UInt8)) : kra m e (v :: V) = m ^ (e - v.length) + kra m e V := by simp [kra, kr]
theorem lets2 : lets 2 = [97, 98] := by decide
theorem lets3 : lets 3 = [97, 98, 99] := by decide
theorem kra_split (m e : Nat) (hm : m = 2 ∨ m = 3) : ∀ V : List (List UInt8), (∀ v ∈ V, v ≠ []) → (∀ v ∈ V, ∀ c ∈ v, c ∈ lets m) → kra m (e + 1) V = ((lets m).map fun c => kra m e (behindL c V)).sum
  | [], _, _ => by rcases hm with rfl | rfl <;> simp [lets2, lets3, behindL, kra, kr]
  | [] :: V, h, _ => absurd rfl (h [] (by simp))
  | (x :: t) :: V, hn, hl => by
    have ih := kra_split m e hm V (fun v hv => hn v (by simp [hv])) (fun v hv => hl v (by simp [hv]))
    have hx := hl (x :: t) (by simp) x (by simp)
    have e1 : e + 1 - (x :: t).length = e - t.length := by simp
    rw [kra_cons, ih, e1]
    have hc : ∀ c, kra m e (behindL c ((x :: t) :: V)) = (if x = c then m ^ (e - t.length) else 0) + kra m e (behindL c V) := fun c => by
      rw [behindL]; split <;> simp [kra_cons]
    simp only [hc]
    rcases hm with rfl | rfl
    · rw [lets2] at hx ⊢
      simp only [List.mem_cons, List.not_mem_nil, or_false] at hx
      rcases hx with rfl | rfl <;> simp <;> omega
    · rw [lets3] at hx ⊢
      simp only [List.mem_cons, List.not_mem_nil, or_false] at hx
      rcases hx with rfl | rfl | rfl <;> simp <;> omega
/-- each inner word with each letter goes on -/
def Full (m : Nat) (V : List (List UInt8)) : Prop := V ≠ [] ∧ ∀ p v, v ∈ V → (∃ t, t ≠ [] ∧ p ++ t = v) → ∀ c ∈ lets m, ∃ u ∈ V, (p ++ [c]) <+: u
theorem full_split (m : Nat) (hm : m = 2 ∨ m = 3) (V : List (List UInt8)) (hn : ∀ v ∈ V, v ≠ []) (hl : ∀ v ∈ V, ∀ c ∈ v, c ∈ lets m) : Full m V ↔ ∀ c ∈ lets m, Full m (behindL c V) := by
  constructor
  · rintro ⟨hV, h⟩ c hc
    refine ⟨?_, fun p v hv ht c' hc' => ?_⟩
    · obtain ⟨v, hv⟩ := List.exists_mem_of_ne_nil V hV
      obtain ⟨u, hu, hp⟩ := h [] v hv ⟨v, hn v hv, rfl⟩ c hc
      obtain ⟨t, rfl⟩ := hp
      intro e0
      have := (mem_behindL c t V).2 hu
      rw [e0] at this; cases this
    · obtain ⟨t, ht, e⟩ := ht
      obtain ⟨u, hu, hp⟩ := h (c :: p) (c :: v) ((mem_behindL c v V).1 hv) ⟨t, ht, by rw [List.cons_append, e]⟩ c' hc'
      obtain ⟨t', rfl⟩ := hp
      exact ⟨p ++ [c'] ++ t', (mem_behindL c _ V).2 (by simpa using hu), List.prefix_append _ _⟩
  · intro h
    have h97 : (97 : UInt8) ∈ lets m := by rcases hm with rfl | rfl <;> decide
    refine ⟨?_, fun p v hv ht c hc => ?_⟩
    · rintro rfl; exact (h 97 h97).1 rfl
    · obtain ⟨t, ht, rfl⟩ := ht
      cases p with
      | nil =>
        obtain ⟨u, hu⟩ := List.exists_mem_of_ne_nil _ (h c hc).1
        exact ⟨c :: u, (mem_behindL c u V).1 hu, ⟨u, rfl⟩⟩
      | cons c0 p =>
        have h0 := hl _ hv c0 (by simp)
        obtain ⟨u, hu, q⟩ := (h c0 h0).2 p (p ++ t) ((mem_behindL c0 _ V).2 hv) ⟨t, ht, rfl⟩ c hc
        exact ⟨c0 :: u, (mem_behindL c0 u V).1 hu, List.cons_prefix_cons.2 ⟨rfl, q⟩⟩
theorem one_of_nil : ∀ V : List (List UInt8), V.Pairwise FreeL → [] ∈ V → V = [[]]
  | [], _, h => by cases h
  | [v], _, h => by simp at h; subst h; rfl
  | v :: w :: V, hp, h => by
    have h1 := (List.pairwise_cons.1 hp).1
    rcases List.mem_cons.1 h with e | e
    · subst e; exact absurd (List.nil_prefix) (h1 w (by simp)).1
    · exact absurd (List.nil_prefix) (h1 [] e).2
/-- Kraft's sum is full just if the words lack none -/
theorem kra_full (m : Nat) (hm : m = 2 ∨ m = 3) : ∀ (e : Nat) (V : List (List UInt8)), V.Pairwise FreeL → (∀ v ∈ V, v.length ≤ e) → (∀ v ∈ V, ∀ c ∈ v, c ∈ lets m) → kra m e V ≤ m ^ e ∧ (kra m e V = m ^ e ↔ Full m V) := by
  intro e
  induction e with
  | zero =>
    intro V hp h8 hl
    by_cases h0 : [] ∈ V
    · rw [one_of_nil V hp h0]
      exact ⟨by simp [kra, kr], ⟨fun _ => ⟨by simp, fun p v hv ht c hc => by
        obtain ⟨t, ht, e⟩ := ht
        rw [List.mem_singleton] at hv; rw [hv] at e
        exact absurd (List.append_eq_nil_iff.1 e).2 ht⟩, fun _ => by simp [kra, kr]⟩⟩
    · have : V = [] := by
        cases V with
        | nil => rfl
        | cons v V =>
          have := h8 v (by simp)
          have : v = [] := List.length_eq_zero_iff.1 (by omega)
          subst this; exact absurd (by simp) h0
      subst this
      exact ⟨by simp [kra, kr], ⟨fun h => by simp [kra, kr] at h, fun h => absurd rfl h.1⟩⟩
  | succ e ih =>
    intro V hp h8 hl
    by_cases h0 : [] ∈ V
    · rw [one_of_nil V hp h0]
      exact ⟨by simp [kra, kr], ⟨fun _ => ⟨by simp, fun p v hv ht c hc => by
        obtain ⟨t, ht, e⟩ := ht
        rw [List.mem_singleton] at hv; rw [hv] at e
        exact absurd (List.append_eq_nil_iff.1 e).2 ht⟩, fun _ => by simp [kra, kr]⟩⟩
    · have hn : ∀ v ∈ V, v ≠ [] := fun v hv e => h0 (e ▸ hv)
      rw [full_split m hm V hn hl, kra_split m e hm V hn hl]
      have hc : ∀ c, kra m e (behindL c V) ≤ m ^ e ∧ (kra m e (behindL c V) = m ^ e ↔ Full m (behindL c V)) := fun c => by
        refine ih (behindL c V) (behindL_free c V hp) (fun v hv => ?_) (fun v hv x hx => ?_)
        · have := h8 _ ((mem_behindL c v V).1 hv); simp at this; exact this
        · exact hl _ ((mem_behindL c v V).1 hv) x (by simp [hx])
      rcases hm with rfl | rfl
      · have a := hc 97
        have b := hc 98
        rw [lets2]
        simp only [List.map_cons, List.map_nil, List.sum_cons, List.sum_nil, List.mem_cons, List.not_mem_nil, or_false, forall_eq_or_imp, forall_eq, ← a.2, ← b.2, Nat.pow_succ]
        omega
      · have a := hc 97
        have b := hc 98
        have d := hc 99
        rw [lets3]
        simp only [List.map_cons, List.map_nil, List.sum_cons, List.sum_nil, List.mem_cons, List.not_mem_nil, or_false, forall_eq_or_imp, forall_eq, ← a.2, ← b.2, ← d.2, Nat.pow_succ]
        omega
theorem mem_inn (W : List (List UInt8)) (p : List UInt8) : p ∈ inn W ↔ ∃ v ∈ W, ∃ t, t ≠ [] ∧ p ++ t = v := by
  unfold inn
  rw [List.mem_flatMap]
  constructor
  · rintro ⟨v, hv, h⟩
    obtain ⟨n, hn, rfl⟩ := List.mem_map.1 h
    rw [List.mem_range] at hn
    exact ⟨v, hv, v.drop n, by rw [ne_eq, List.drop_eq_nil_iff]; omega, List.take_append_drop n v⟩
  · rintro ⟨v, hv, t, ht, rfl⟩
    refine ⟨_, hv, List.mem_map.2 ⟨p.length, ?_, by simp⟩⟩
    rw [List.mem_range, List.length_append]
    have := List.length_pos_iff.2 ht
    omega
theorem full_inn (m : Nat) (W : List (List UInt8)) : Full m W ↔ W ≠ [] ∧ ∀ p ∈ inn W, ∀ c ∈ lets m, p ++ [c] ∈ inn W ∨ p ++ [c] ∈ W := by
  unfold Full
  refine and_congr_right fun _ => ?_
  have key : ∀ q : List UInt8, (∃ u ∈ W, q <+: u) ↔ q ∈ inn W ∨ q ∈ W := fun q => by
    rw [mem_inn]
    constructor
    · rintro ⟨u, hu, t, e⟩
      by_cases h : t = []
      · subst h; rw [List.append_nil] at e; exact Or.inr (e ▸ hu)
      · exact Or.inl ⟨u, hu, t, h, e⟩
    · rintro (⟨u, hu, t, -, e⟩ | h)
      · exact ⟨u, hu, t, e⟩
      · exact ⟨q, h, List.prefix_refl q⟩
  constructor
  · intro h p hp c hc
    obtain ⟨v, hv, ht⟩ := (mem_inn W p).1 hp
    exact (key _).1 (h p v hv ht c hc)
  · intro h p v hv ht c hc
    exact (key _).2 (h p ((mem_inn W p).2 ⟨v, hv, ht⟩) c hc)
theorem lets_len (m : Nat) : (lets m).length = m := by simp [lets]
theorem pairs_nodup (L : List UInt8) (hL : L.Nodup) : ∀ S : List (List UInt8), S.Nodup → (S.flatMap fun p => L.map fun c => p ++ [c]).Nodup
  | [], _ => by simp
  | p :: S, h => by
    have h' := List.nodup_cons.1 h
    rw [List.flatMap_cons, List.nodup_append]
    refine ⟨?_, pairs_nodup L hL S h'.2, fun a ha b hb e => ?_⟩
    · exact List.Pairwise.map _ (fun x y hxy e => hxy (by simpa using e)) hL
    · obtain ⟨c, -, rfl⟩ := List.mem_map.1 ha
      obtain ⟨q, hq, hb⟩ := List.mem_flatMap.1 hb
      obtain ⟨c', -, rfl⟩ := List.mem_map.1 hb
      have := List.append_inj_left' e rfl
      subst this
      exact h'.1 hq
theorem pairs_len (L : List UInt8) : ∀ S : List (List UInt8), (S.flatMap fun p => L.map fun c => p ++ [c]).length = S.length * L.length
  | [] => by simp
  | p :: S => by rw [List.flatMap_cons, List.length_append, pairs_len L S, List.length_map, List.length_cons, Nat.succ_mul]; omega
/-- a complete set of L words has less than L inner words -/
theorem full_few (m : Nat) (hm : m = 2 ∨ m = 3) (W : List (List UInt8)) (hW : W.length ≤ 12) (h : Full m W) : (ordL (inn W)).length ≤ 11 := by
  obtain ⟨-, h⟩ := (full_inn m W).1 h
  have hn := ordL_nodup (inn W)
  have hl : (lets m).Nodup := by rcases hm with rfl | rfl <;> decide
  have := nodupLe ([] :: (ordL (inn W)).flatMap fun p => (lets m).map fun c => p ++ [c]) ([] :: (ordL (inn W)).erase [] ++ W) (List.nodup_cons.2 ⟨?_, pairs_nodup _ hl _ hn⟩) ?_
  · have h1 : ((ordL (inn W)).erase []).length ≤ (ordL (inn W)).length - 1 ∨ ordL (inn W) = [] := by
      by_cases e : ([] : List UInt8) ∈ ordL (inn W)
      · left; rw [List.length_erase_of_mem e]; exact Nat.le_refl _
      · right
        cases hS : ordL (inn W) with
        | nil => rfl
        | cons p S =>
          exfalso
          apply e
          have hp : p ∈ inn W := (mem_ordL _ p).1 (by rw [hS]; simp)
          obtain ⟨v, hv, t, ht, e'⟩ := (mem_inn W p).1 hp
          exact (mem_ordL _ _).2 ((mem_inn W []).2 ⟨v, hv, v, by rw [← e']; simp [ht], rfl⟩)
    rcases h1 with h1 | h1
    · simp only [List.length_cons, List.length_append, pairs_len, lets_len] at this
      rcases hm with rfl | rfl <;> omega
    · rw [h1]; simp
  · intro hh
    obtain ⟨p, -, hp⟩ := List.mem_flatMap.1 hh
    obtain ⟨c, -, e⟩ := List.mem_map.1 hp
    simp at e
  · intro x hx
    rcases List.mem_cons.1 hx with rfl | hx
    · simp
    · obtain ⟨p, hp, hx⟩ := List.mem_flatMap.1 hx
      obtain ⟨c, hc, rfl⟩ := List.mem_map.1 hx
      rcases h p ((mem_ordL _ p).1 hp) c hc with h' | h'
      · refine List.mem_cons_of_mem _ (List.mem_append_left _ ((List.mem_erase_of_ne (by simp)).2 ((mem_ordL _ _).2 h')))
      · exact List.mem_cons_of_mem _ (List.mem_append_right _ h')

/-- two states, the less one first -/
abbrev Nd := Nat × Nat
def lt (c : Nat) : UInt8 := UInt8.ofNat (97 + c)
def stepN (nx : Nat → Nat → Nat) (c : Nat) (p : Nd) : Nd := (min (nx p.1 c) (nx p.2 c), max (nx p.1 c) (nx p.2 c))
abbrev Rch := List (Nd × List UInt8)
def putN (R : Rch) (e : Nd × List UInt8) : Rch := if e.1 ∈ R.map Prod.fst then R else R ++ [e]
def expN (nx : Nat → Nat → Nat) (now : Nd × List UInt8) (R : Rch) : Nat → Rch
  | 0 => R
  | c + 1 => putN (expN nx now R c) (stepN nx c now.1, now.2 ++ [lt c])
/-- the search over pairs of states -/
def srchN (nx : Nat → Nat → Nat) (m : Nat) : Nat → Rch → Nat → List UInt8 × Bool
  | 0, _, _ => ([], false)
  | d + 1, R, i => match R[i]? with
    | none => ([], false)
    | some e => if e.1.1 = e.1.2 then (e.2, true) else srchN nx m d (expN nx e R m) (i + 1)
structure Inv (n : Nat) (R : Rch) (i : Nat) : Prop where
  nodup : (R.map Prod.fst).Nodup
  ok : ∀ e ∈ R, e.1.1 ≤ e.1.2 ∧ e.1.2 < n
  wd : ∀ k (h : k < R.length), R[k].2.length ≤ k
  two : ∀ k (h : k < R.length), k < i → R[k].1.1 ≠ R[k].1.2
  le : i ≤ R.length
def allPairs : List Nd := (List.range 11).flatMap fun y => (List.range (y + 1)).map fun x => (x, y)
theorem allPairs_len : allPairs.length = 66 := by decide
theorem mem_allPairs (p : Nd) (h : p.1 ≤ p.2 ∧ p.2 < 11) : p ∈ allPairs := List.mem_flatMap.2 ⟨p.2, List.mem_range.2 h.2, List.mem_map.2 ⟨p.1, List.mem_range.2 (by omega), rfl⟩⟩
def twoPairs : List Nd := (List.range 11).flatMap fun y => (List.range y).map fun x => (x, y)
theorem twoPairs_len : twoPairs.length = 55 := by decide
theorem mem_twoPairs (p : Nd) (h : p.1 < p.2 ∧ p.2 < 11) : p ∈ twoPairs := List.mem_flatMap.2 ⟨p.2, List.mem_range.2 h.2, List.mem_map.2 ⟨p.1, List.mem_range.2 (by omega), rfl⟩⟩
theorem Inv.few {n : Nat} (hn : n ≤ 11) {R : Rch} {i : Nat} (h : Inv n R i) : R.length ≤ 66 := by
  have := nodupLe (R.map Prod.fst) allPairs h.nodup (fun p hp => by obtain ⟨e, he, rfl⟩ := List.mem_map.1 hp; have := h.ok e he; exact mem_allPairs _ ⟨this.1, by omega⟩)
  rw [List.length_map, allPairs_len] at this; exact this
theorem Inv.first {n : Nat} (hn : n ≤ 11) {R : Rch} {i : Nat} (h : Inv n R i) : i ≤ 55 := by
  have hle := h.le
  have := nodupLe ((R.map Prod.fst).take i) twoPairs (h.nodup.sublist (List.take_sublist _ _)) (fun p hp => by
    obtain ⟨k, hk, rfl⟩ := List.getElem_of_mem hp
    rw [List.length_take, List.length_map] at hk
    rw [List.getElem_take, List.getElem_map]
    have h1 := h.ok _ (List.getElem_mem (show k < R.length by omega))
    have h2 := h.two k (by omega) (by omega)
    exact mem_twoPairs _ ⟨by omega, by omega⟩)
  rw [twoPairs_len, List.length_take, List.length_map] at this
  omega
theorem Inv.put {n : Nat} {R : Rch} {i : Nat} (h : Inv n R i) (e : Nd × List UInt8) (he : e.1.1 ≤ e.1.2 ∧ e.1.2 < n) (hw : e.2.length ≤ R.length) : Inv n (putN R e) i ∧ R <+: putN R e := by
  unfold putN
  by_cases c : e.1 ∈ R.map Prod.fst
  · rw [if_pos c]; exact ⟨h, List.prefix_refl R⟩
  · rw [if_neg c]
    have hle := h.le
    refine ⟨⟨?_, ?_, ?_, ?_, by simp; omega⟩, List.prefix_append _ _⟩
    · rw [List.map_append, List.nodup_append]
      refine ⟨h.nodup, by simp, fun a ha b hb e' => ?_⟩
      simp only [List.map_cons, List.map_nil, List.mem_singleton] at hb
      subst hb; subst e'
      exact c ha
    · intro x hx
      rcases List.mem_append.1 hx with hx | hx
      · exact h.ok x hx
      · rw [List.mem_singleton] at hx; subst hx; exact he
    · intro k hk
      by_cases hk' : k < R.length
      · rw [List.getElem_append_left hk']; exact h.wd k hk'
      · rw [List.length_append, List.length_singleton] at hk
        have : k = R.length := by omega
        subst this
        rw [List.getElem_concat_length rfl]; exact hw
    · intro k hk hki
      rw [List.getElem_append_left (by omega)]; exact h.two k (by omega) hki
theorem Inv.exp {n : Nat} {nx : Nat → Nat → Nat} (hnx : ∀ s c, nx s c < n) {R : Rch} {i : Nat} (h : Inv n R (i + 1)) (now : Nd × List UInt8) (hw : now.2.length ≤ i) : ∀ c, Inv n (expN nx now R c) (i + 1) ∧ R <+: expN nx now R c
  | 0 => ⟨h, List.prefix_refl R⟩
  | c + 1 => by
    obtain ⟨h1, h2⟩ := Inv.exp hnx h now hw c
    have hl := h1.le
    obtain ⟨h3, h4⟩ := h1.put (stepN nx c now.1, now.2 ++ [lt c]) ⟨by simp [stepN]; omega, by have := hnx now.1.1 c; have := hnx now.1.2 c; simp [stepN]; omega⟩ (by simp; omega)
    exact ⟨h3, h2.trans h4⟩
theorem Inv.on {n : Nat} {R : Rch} {i : Nat} (h : Inv n R i) (hi : i < R.length) (h2 : R[i].1.1 ≠ R[i].1.2) : Inv n R (i + 1) :=
  ⟨h.nodup, h.ok, h.wd, fun k hk hki => by
    by_cases e : k = i
    · subst e; exact h2
    · exact h.two k hk (by omega), by omega⟩
theorem Inv.start {n : Nat} (p : Nd) (hp : p.1 ≤ p.2 ∧ p.2 < n) : Inv n [(p, [])] 0 := by
  refine ⟨by simp, fun e he => ?_, fun k hk => ?_, fun k _ hk => by omega, by simp⟩
  · rw [List.mem_singleton] at he; subst he; exact hp
  · have : k = 0 := by simp at hk; omega
    subst this; simp


theorem wdBegins_eq (a w : ByteArray) : spec_wdBegins.f a w = some ((ch w).isPrefixOf (ch a)) := by
  unfold spec_wdBegins.f
  by_cases h : w.size ≤ a.size
  · rw [if_pos (by omega), if_pos (by omega), begins_test a w h]
  · rw [if_neg (by omega), prefix_long a w h]

theorem hasPrefix_eq (a w : ByteArray) : strings_HasPrefix.f a w = some ((ch w).isPrefixOf (ch a)) := by
  unfold strings_HasPrefix.f stringslite_HasPrefix.f
  by_cases h : w.size ≤ a.size
  · rw [if_pos (by omega), if_pos (by omega), if_pos (by omega), begins_test a w h]; rfl
  · rw [if_neg (by omega), prefix_long a w h]; rfl

/-- the letters of a number with base m, l of them, the last one the least -/
def digs (m : Nat) : Nat → Nat → List UInt8
  | 0, _ => []
  | l + 1, n => digs m l (n / m) ++ [UInt8.ofNat (97 + n % m)]
theorem digs_length (m : Nat) : ∀ l n, (digs m l n).length = l
  | 0, _ => rfl
  | l + 1, n => by rw [digs, List.length_append, digs_length m l]; rfl
theorem ba_append (a b : Array UInt8) : (⟨a⟩ : ByteArray) ++ (⟨b⟩ : ByteArray) = ⟨a ++ b⟩ := by
  apply ByteArray.ext
  rw [ByteArray.data_append]
theorem letter_cut (r : Nat) (h : r < 3) : (⟨#[97, 98, 99]⟩ : ByteArray).extract r (r + 1) = ⟨#[UInt8.ofNat (97 + r)]⟩ := by
  match r, h with
  | 0, _ => decide
  | 1, _ => decide
  | 2, _ => decide

theorem let3 (c : UInt8) (h : isLetter c = true) : c = 97 ∨ c = 98 ∨ c = 99 := by
  have h1 := letter_test c
  have h2 : ¬ ((c.toNat : Int) < 97 ∨ ((c.toNat : Int) - 97) % 256 ≥ 3) := fun q => by rw [h1.1 q] at h; cases h
  have := c.toNat_lt
  have h3 : c.toNat = 97 ∨ c.toNat = 98 ∨ c.toNat = 99 := by omega
  rcases h3 with e | e | e
  · exact Or.inl (UInt8.toNat_inj.1 e)
  · exact Or.inr (Or.inl (UInt8.toNat_inj.1 e))
  · exact Or.inr (Or.inr (UInt8.toNat_inj.1 e))
theorem short_all {s : ByteArray} (h : short s = true) : s.size ≤ 8 ∧ (ch s).all isLetter = true := by
  unfold short at h
  simp only [Bool.and_eq_true, decide_eq_true_eq] at h
  exact ⟨h.1.2, h.2⟩
theorem krWord_l0 (s : ByteArray) (hs : s.size ≤ 8) (ha : (ch s).all isLetter = true) : ∀ (d i : Nat), i + d = (ch s).length → Ev (fun k => spec_krWord.l0 k s 2 (i : Int)) (!((ch s).drop i).contains 99)
  | 0, i, hd => by
    refine Ev.succ ?_
    simp only [spec_krWord.l0]
    exact Ev.neg (by have := ch_length s; omega) (Ev.pure (by rw [List.drop_of_length_le (by omega)]; rfl))
  | d + 1, i, hd => by
    have h1 : i < (ch s).length := by omega
    have hsz := ch_length s
    have ih := krWord_l0 s hs ha d (i + 1) (by omega)
    have hc : isLetter (ch s)[i] = true := List.all_eq_true.1 ha _ (List.getElem_mem h1)
    have hb := bt_nat s i h1
    rw [List.drop_eq_getElem_cons h1, List.contains_cons]
    refine Ev.succ ?_
    simp only [spec_krWord.l0, w1 (show 0 ≤ (i : Int) by omega) (show (i : Int) < 9223372036854775807 by omega)]
    refine Ev.pos (by omega) (Ev.pos (by omega) ?_)
    rcases let3 _ hc with e | e | e
    · rw [e] at hb ⊢
      exact Ev.neg (by rw [hb]; decide) (by simpa using ih)
    · rw [e] at hb ⊢
      exact Ev.neg (by rw [hb]; decide) (by simpa using ih)
    · rw [e] at hb ⊢
      exact Ev.pos (by rw [hb]; decide) (Ev.pure (by simp))
theorem krWord_ev (s : ByteArray) (hs : s.size ≤ 8) (ha : (ch s).all isLetter = true) : Ev (fun k => spec_krWord.f k s 2) (!(ch s).contains 99) := by
  have := krWord_l0 s hs ha (ch s).length 0 (by omega)
  simpa [spec_krWord.f] using this
/-- how many letters a set has -/
def letn (W : List (List UInt8)) : Nat := if W.any (fun w => w.contains 99) then 3 else 2
theorem letn_two (W : List (List UInt8)) : letn W = 2 ∨ letn W = 3 := by unfold letn; split <;> simp
theorem indexByte_has (c : UInt8) : ∀ l : List UInt8, decide (0 ≤ Lib.indexByte l c) = l.contains c
  | [] => by simp [Lib.indexByte]
  | b :: l => by
    have ih := indexByte_has c l
    have hge := Lib.indexByte_ge l c
    rw [List.contains_cons, ← ih, Lib.indexByte]
    by_cases e : b = c
    · subst e; simp
    · rw [if_neg (by simpa using e), show (c == b) = false by rw [beq_eq_false_iff_ne]; exact Ne.symm e, Bool.false_or]
      split
      · rename_i h; rw [beq_iff_eq] at h; rw [h]
      · rename_i h; rw [beq_iff_eq] at h; exact decide_eq_decide.2 (by omega)
theorem letterCount1 (s : ByteArray) : impl_letterCount__1.f s = some ((ch s).contains 99) := by
  unfold impl_letterCount__1.f strings_Contains.f
  rw [if_pos (by decide), Option.bind_some]
  exact congrArg some (indexByte_has 99 (ch s))
theorem letterIx_l0 (l : List ByteArray) (hl : l.length ≤ 12) : ∀ (d i : Nat), i + d = l.length → ∃ x : Int, Ev (fun k => slices_IndexFunc_string_string__at_impl_letterCount__1.l0 k l (l.length : Int) (i : Int)) x ∧ decide (x ≥ 0) = ((l.drop i).map ch).any (fun w => w.contains 99)
  | 0, i, hd => by
    refine ⟨-1, Ev.succ ?_, by rw [List.drop_of_length_le (by omega)]; rfl⟩
    simp only [slices_IndexFunc_string_string__at_impl_letterCount__1.l0]
    exact Ev.neg (by omega) (Ev.now _)
  | d + 1, i, hd => by
    have h1 : i < l.length := by omega
    obtain ⟨x, hx, hb⟩ := letterIx_l0 l hl d (i + 1) (by omega)
    rw [List.drop_eq_getElem_cons h1, List.map_cons, List.any_cons]
    have hc := letterCount1 l[i]
    cases hq : (ch l[i]).contains 99 with
    | true =>
      rw [hq] at hc
      refine ⟨(i : Int), Ev.succ ?_, by simp⟩
      simp only [slices_IndexFunc_string_string__at_impl_letterCount__1.l0, rdOf_nat l i h1]
      exact Ev.pos (by omega) (Ev.pos (by omega) (Ev.pos (by omega) (Ev.known (fun _ => hc) (Ev.pos rfl (Ev.now _)))))
    | false =>
      rw [hq] at hc
      refine ⟨x, Ev.succ ?_, by rw [Bool.false_or]; exact hb⟩
      simp only [slices_IndexFunc_string_string__at_impl_letterCount__1.l0, rdOf_nat l i h1, w1 (show 0 ≤ (i : Int) by omega) (show (i : Int) < 9223372036854775807 by omega)]
      exact Ev.pos (by omega) (Ev.pos (by omega) (Ev.pos (by omega) (Ev.known (fun _ => hc) (Ev.neg (by simp) hx))))
theorem letterCount_ev (l : List ByteArray) (hl : l.length ≤ 12) : Ev (fun k => impl_letterCount.f k l) ((letn (l.map ch) : Nat) : Int) := by
  obtain ⟨x, hx, hb⟩ := letterIx_l0 l hl l.length 0 (by omega)
  rw [List.drop_zero] at hb
  unfold impl_letterCount.f slices_ContainsFunc_string_string__at_impl_letterCount__1.f slices_IndexFunc_string_string__at_impl_letterCount__1.f
  refine Ev.bind (Ev.bind hx (Ev.now _)) ?_
  rw [hb]
  unfold letn
  cases (l.map ch).any (fun w => w.contains 99)
  · exact Ev.neg (by simp) (Ev.now _)
  · exact Ev.pos rfl (Ev.now _)
theorem lengthsOf_l0 (l : List ByteArray) (hl : l.length ≤ 1048576) : ∀ (d i : Nat), i + d = l.length → Ev (fun k => impl_lengthsOf.l0 k ((l.take i).map fun t => (t.size : Int)) l (l.length : Int) (i : Int)) (l.map fun t => (t.size : Int))
  | 0, i, hd => by
    refine Ev.succ ?_
    simp only [impl_lengthsOf.l0]
    exact Ev.neg (by omega) (Ev.pure (by rw [List.take_of_length_le (by omega)]))
  | d + 1, i, hd => by
    have h1 : i < l.length := by omega
    have ih := lengthsOf_l0 l hl d (i + 1) (by omega)
    rw [List.take_succ_eq_append_getElem h1, List.map_append] at ih
    refine Ev.succ ?_
    simp only [impl_lengthsOf.l0, rdOf_nat l i h1, w1 (show 0 ≤ (i : Int) by omega) (show (i : Int) < 9223372036854775807 by omega)]
    exact Ev.pos (by omega) (Ev.pos (by omega) (Ev.pos (by omega) (Ev.pos (by rw [List.length_map, List.length_take]; omega) ih)))
theorem lengthsOf_ev (l : List ByteArray) (hl : l.length ≤ 1048576) : Ev (fun k => impl_lengthsOf.f k l) (intsOf ((l.map ch).map List.length)) := by
  have h := lengthsOf_l0 l hl l.length 0 (by omega)
  have e : intsOf ((l.map ch).map List.length) = l.map fun t => (t.size : Int) := by
    unfold intsOf
    rw [List.map_map, List.map_map]
    refine List.map_congr_left fun t _ => ?_
    show (((ch t).length : Nat) : Int) = _
    rw [ch_length]
  rw [e]
  unfold impl_lengthsOf.f
  simpa using h
/-- no word of a set begins another one -/
theorem krPrefix_l0 (l : List ByteArray) (hl : l.length ≤ 12) : ∀ (d i : Nat), i + d = l.length → ∃ b, Ev (fun k => spec_krPrefix.l0 k l l (l.length : Int) (i : Int)) b ∧ (b = true ↔ (l.drop i).Pairwise fun s t => ¬ ch s <+: ch t)
  | 0, i, hd => by
    refine ⟨true, Ev.succ ?_, by rw [List.drop_of_length_le (by omega)]; simp⟩
    simp only [spec_krPrefix.l0]
    exact Ev.neg (by omega) (Ev.now _)
  | d + 1, i, hd => by
    have h1 : i < l.length := by omega
    obtain ⟨b, hb, hq⟩ := krPrefix_l0 l hl d (i + 1) (by omega)
    have inner : ∀ (e j : Nat), j + e = (l.drop (i + 1)).length → ∃ b', Ev (fun k => spec_krPrefix.l1 k l l[i] l (l.length : Int) (i : Int) (l.drop (i + 1)) ((l.drop (i + 1)).length : Int) (j : Int)) b' ∧ (b' = true ↔ (∀ t ∈ (l.drop (i + 1)).drop j, ¬ ch l[i] <+: ch t) ∧ b = true) := by
      intro e
      induction e with
      | zero =>
        intro j hj
        refine ⟨b, Ev.succ ?_, by rw [List.drop_of_length_le (by omega)]; simp⟩
        simp only [spec_krPrefix.l1, w1 (show 0 ≤ (i : Int) by omega) (show (i : Int) < 9223372036854775807 by omega)]
        exact Ev.neg (by omega) hb
      | succ e ih =>
        intro j hj
        have h2 : j < (l.drop (i + 1)).length := by omega
        have h3 : (l.drop (i + 1)).length ≤ 12 := by rw [List.length_drop]; omega
        obtain ⟨b', hb', hq'⟩ := ih (j + 1) (by omega)
        have hw := wdBegins_eq (l.drop (i + 1))[j] l[i]
        cases hc : (ch l[i]).isPrefixOf (ch (l.drop (i + 1))[j]) with
        | true =>
          rw [hc] at hw
          refine ⟨false, Ev.succ ?_, ?_⟩
          · simp only [spec_krPrefix.l1, rdOf_nat _ j h2]
            exact Ev.pos (by omega) (Ev.pos (by omega) (Ev.pos (by omega) (Ev.known (fun _ => hw) (Ev.pos rfl (Ev.now _)))))
          · refine ⟨fun h => (by cases h), fun h => ?_⟩
            exact absurd (List.isPrefixOf_iff_prefix.1 hc) (h.1 _ (by rw [List.drop_eq_getElem_cons h2]; exact List.mem_cons_self))
        | false =>
          rw [hc] at hw
          refine ⟨b', Ev.succ ?_, ?_⟩
          · simp only [spec_krPrefix.l1, rdOf_nat _ j h2, w1 (show 0 ≤ (j : Int) by omega) (show (j : Int) < 9223372036854775807 by omega)]
            exact Ev.pos (by omega) (Ev.pos (by omega) (Ev.pos (by omega) (Ev.known (fun _ => hw) (Ev.neg (by simp) hb'))))
          · rw [hq', List.drop_eq_getElem_cons h2]
            refine and_congr_left fun _ => ⟨fun h t ht => ?_, fun h t ht => h t (List.mem_cons_of_mem _ ht)⟩
            rcases List.mem_cons.1 ht with e1 | ht
            · rw [e1]; intro hp; rw [List.isPrefixOf_iff_prefix.2 hp] at hc; cases hc
            · exact h t ht
    obtain ⟨b', hb', hq'⟩ := inner (l.drop (i + 1)).length 0 (by omega)
    refine ⟨b', Ev.succ ?_, ?_⟩
    · simp only [spec_krPrefix.l0, rdOf_nat l i h1, w1 (show 0 ≤ (i : Int) by omega) (show (i : Int) < 9223372036854775807 by omega)]
      refine Ev.pos (by omega) (Ev.pos (by omega) (Ev.pos (by omega) (Ev.pos (by omega) (Ev.pos (by omega) ?_))))
      rw [show ((i : Int) + 1).toNat = i + 1 by omega]
      exact hb'
    · rw [hq', hq, List.drop_zero, List.drop_eq_getElem_cons h1, List.pairwise_cons]
theorem krPrefix_ev (l : List ByteArray) (hl : l.length ≤ 12) : ∃ b, Ev (fun k => spec_krPrefix.f k l) b ∧ (b = true ↔ l.Pairwise fun s t => ¬ ch s <+: ch t) := by
  obtain ⟨b, h1, h2⟩ := krPrefix_l0 l hl l.length 0 (by omega)
  exact ⟨b, h1, by rw [h2, List.drop_zero]⟩
theorem isFree_l0 (l : List ByteArray) (hl : l.length ≤ 12) : ∀ (d i : Nat), i + d = l.length → ∃ b, Ev (fun k => impl_isFree_at_strings_HasPrefix.l0 k l l (l.length : Int) (i : Int)) b ∧ (b = true ↔ ∀ i', i ≤ i' → ∀ (h : i' < l.length), ∀ j (h' : j < l.length), i' ≠ j → ¬ ch l[j] <+: ch l[i'])
  | 0, i, hd => by
    refine ⟨true, Ev.succ ?_, ⟨fun _ i' h1 h2 => by omega, fun _ => rfl⟩⟩
    simp only [impl_isFree_at_strings_HasPrefix.l0]
    exact Ev.neg (by omega) (Ev.now _)
  | d + 1, i, hd => by
    have h1 : i < l.length := by omega
    obtain ⟨b, hb, hq⟩ := isFree_l0 l hl d (i + 1) (by omega)
    have inner : ∀ (e j : Nat), j + e = l.length → ∃ b', Ev (fun k => impl_isFree_at_strings_HasPrefix.l1 k l (i : Int) l[i] l (l.length : Int) (i : Int) l (l.length : Int) (j : Int)) b' ∧ (b' = true ↔ (∀ j', j ≤ j' → ∀ (h : j' < l.length), i ≠ j' → ¬ ch l[j'] <+: ch l[i]) ∧ b = true) := by
      intro e
      induction e with
      | zero =>
        intro j hj
        refine ⟨b, Ev.succ ?_, ⟨fun h => ⟨fun j' h1 h2 => by omega, h⟩, fun h => h.2⟩⟩
        simp only [impl_isFree_at_strings_HasPrefix.l1, w1 (show 0 ≤ (i : Int) by omega) (show (i : Int) < 9223372036854775807 by omega)]
        exact Ev.neg (by omega) hb
      | succ e ih =>
        intro j hj
        have h2 : j < l.length := by omega
        obtain ⟨b', hb', hq'⟩ := ih (j + 1) (by omega)
        by_cases hij : i = j
        · refine ⟨b', Ev.succ ?_, ?_⟩
          · simp only [impl_isFree_at_strings_HasPrefix.l1, rdOf_nat _ j h2, w1 (show 0 ≤ (j : Int) by omega) (show (j : Int) < 9223372036854775807 by omega)]
            exact Ev.pos (by omega) (Ev.pos (by omega) (Ev.pos (by omega) (Ev.pos (by omega) hb')))
          · rw [hq']
            refine and_congr_left fun _ => ⟨fun h j' h3 h4 h5 => h j' (by omega) h4 h5, fun h j' h3 h4 h5 => h j' (by omega) h4 h5⟩
        · have hw := hasPrefix_eq l[i] l[j]
          cases hc : (ch l[j]).isPrefixOf (ch l[i]) with
          | true =>
            rw [hc] at hw
            refine ⟨false, Ev.succ ?_, ?_⟩
            · simp only [impl_isFree_at_strings_HasPrefix.l1, rdOf_nat _ j h2]
              exact Ev.pos (by omega) (Ev.pos (by omega) (Ev.pos (by omega) (Ev.neg (by omega) (Ev.known (fun _ => hw) (Ev.pos rfl (Ev.now _))))))
            · exact ⟨fun h => (by cases h), fun h => absurd (List.isPrefixOf_iff_prefix.1 hc) (h.1 j (Nat.le_refl j) h2 hij)⟩
          | false =>
            rw [hc] at hw
            refine ⟨b', Ev.succ ?_, ?_⟩
            · simp only [impl_isFree_at_strings_HasPrefix.l1, rdOf_nat _ j h2, w1 (show 0 ≤ (j : Int) by omega) (show (j : Int) < 9223372036854775807 by omega)]
              exact Ev.pos (by omega) (Ev.pos (by omega) (Ev.pos (by omega) (Ev.neg (by omega) (Ev.known (fun _ => hw) (Ev.neg (by simp) hb')))))
            · rw [hq']
              refine and_congr_left fun _ => ⟨fun h j' h3 h4 h5 => ?_, fun h j' h3 h4 h5 => h j' (by omega) h4 h5⟩
              by_cases e1 : j' = j
              · subst e1; intro hp; rw [List.isPrefixOf_iff_prefix.2 hp] at hc; cases hc
              · exact h j' (by omega) h4 h5
    obtain ⟨b', hb', hq'⟩ := inner l.length 0 (by omega)
    refine ⟨b', Ev.succ ?_, ?_⟩
    · simp only [impl_isFree_at_strings_HasPrefix.l0, rdOf_nat l i h1]
      exact Ev.pos (by omega) (Ev.pos (by omega) (Ev.pos (by omega) hb'))
    · rw [hq', hq]
      refine ⟨fun h i' h3 h4 j h5 h6 => ?_, fun h => ⟨fun j' h3 h4 h5 => h i (Nat.le_refl i) h1 j' h4 h5, fun i' h3 h4 j h5 h6 => h i' (by omega) h4 j h5 h6⟩⟩
      by_cases e1 : i' = i
      · subst e1; exact h.1 j (by omega) h5 h6
      · exact h.2 i' (by omega) h4 j h5 h6
/-- the reference's and the program's test for a prefix set are one -/
theorem prefix_same (l : List ByteArray) (hset : IsSet l) : ∃ b, Ev (fun k => spec_krPrefix.f k l) b ∧ Ev (fun k => impl_isPrefixSet.f k l) b ∧ (b = true → (l.map ch).Pairwise FreeL) := by
  have hl := hset.few
  obtain ⟨b, h1, hb⟩ := krPrefix_ev l hl
  obtain ⟨b', h2, hb'⟩ := isFree_l0 l hl l.length 0 (by omega)
  have far : ∀ i j (hj : j < l.length) (hi : i < j), ¬ ch l[j] <+: ch l[i] := fun i j hj hi hp => by
    have h3 := hset.lt j i hj hi
    have h4 := hp.length_le
    have e1 := ch_length l[i]
    have e2 := ch_length l[j]
    have h5 : (ch l[i]).length ≤ (ch l[j]).length := by
      unfold wless at h3
      simp only [Bool.or_eq_true, decide_eq_true_eq, Bool.and_eq_true] at h3
      rcases h3 with h3 | h3 <;> omega
    have h6 : l[j] = l[i] := ch_inj' (hp.eq_of_length (by omega))
    rw [h6, wless_irrefl] at h3
    cases h3
  have hbb : b = b' := by
    rw [Bool.eq_iff_iff, hb, hb', List.pairwise_iff_getElem]
    constructor
    · intro h i' _ h4 j h5 h6
      by_cases c : j < i'
      · exact h j i' h5 h4 c
      · exact far i' j h5 (by omega)
    · intro h i j hi hj hij
      exact h j (by omega) hj i hi (by omega)
  subst hbb
  refine ⟨b, h1, ?_, fun h => ?_⟩
  · unfold impl_isPrefixSet.f impl_isFree_at_strings_HasPrefix.f
    exact Ev.bind h2 (Ev.now _)
  · rw [List.pairwise_map, List.pairwise_iff_getElem]
    intro i j hi hj hij
    exact ⟨List.pairwise_iff_getElem.1 (hb.1 h) i j hi hj hij, far i j hj hij⟩

/-- where a word first stands in a list -/
def ff (x : List UInt8) : List (List UInt8) → Nat → Option Nat
  | [], _ => none
  | p :: r, i => if p = x then some i else ff x r (i + 1)
theorem ff_lt (x : List UInt8) : ∀ (r : List (List UInt8)) (i j : Nat), ff x r i = some j → j < i + r.length
  | [], _, _, h => by cases h
  | p :: r, i, j, h => by
    rw [ff] at h
    split at h
    · cases h; simp
    · have := ff_lt x r (i + 1) j h; simp; omega
def fnd (S : List (List UInt8)) (x : List UInt8) : Nat := (ff x S 0).getD 0
theorem fnd_lt (S : List (List UInt8)) (x : List UInt8) (h : 1 ≤ S.length) : fnd S x < S.length := by
  unfold fnd
  cases e : ff x S 0 with
  | none => exact h
  | some j => have := ff_lt x S 0 j e; simpa using this
def rowF (m : Nat) (S : List (List UInt8)) (p : List UInt8) : List Int := (List.range m).map fun c => ((fnd S (p ++ [lt c]) : Nat) : Int)
def tabF (m : Nat) (S : List (List UInt8)) : List (List Int) := S.map (rowF m S)
theorem syFind_l0 (L : List ByteArray) (s : ByteArray) (hL : L.length ≤ 1048576) : ∀ (d i : Nat), i + d = L.length → Ev (fun k => spec_syFind.l0 k s L (L.length : Int) (i : Int)) (((ff (ch s) ((L.drop i).map ch) i).getD 0 : Nat) : Int)
  | 0, i, hd => by
    refine Ev.succ ?_
    simp only [spec_syFind.l0]
    exact Ev.neg (by omega) (Ev.pure (by rw [List.drop_of_length_le (by omega)]; rfl))
  | d + 1, i, hd => by
    have h1 : i < L.length := by omega
    have ih := syFind_l0 L s hL d (i + 1) (by omega)
    rw [List.drop_eq_getElem_cons h1, List.map_cons, ff]
    refine Ev.succ ?_
    simp only [spec_syFind.l0, rdOf_nat L i h1, toList_ch, w1 (show 0 ≤ (i : Int) by omega) (show (i : Int) < 9223372036854775807 by omega)]
    refine Ev.pos (by omega) (Ev.pos (by omega) (Ev.pos (by omega) (Ev.cases (fun h => ?_) (fun h => ?_))))
    · rw [if_pos h]; exact Ev.now _
    · rw [if_neg h]; exact ih
theorem syFind_ev (L : List ByteArray) (s : ByteArray) (hL : L.length ≤ 1048576) : Ev (fun k => spec_syFind.f k L s) ((fnd (L.map ch) (ch s) : Nat) : Int) := by
  have := syFind_l0 L s hL L.length 0 (by omega)
  simpa [spec_syFind.f, fnd] using this
theorem index_l0 (L : List ByteArray) (s : ByteArray) (hL : L.length ≤ 1048576) : ∀ (d i : Nat), i + d = L.length → ∃ x : Int, Ev (fun k => slices_Index_string_string.l0 k L s (L.length : Int) (i : Int)) x ∧ max x 0 = (((ff (ch s) ((L.drop i).map ch) i).getD 0 : Nat) : Int)
  | 0, i, hd => by
    refine ⟨-1, Ev.succ ?_, by rw [List.drop_of_length_le (by omega)]; rfl⟩
    simp only [slices_Index_string_string.l0]
    exact Ev.neg (by omega) (Ev.now _)
  | d + 1, i, hd => by
    have h1 : i < L.length := by omega
    obtain ⟨x, ih, hx⟩ := index_l0 L s hL d (i + 1) (by omega)
    rw [List.drop_eq_getElem_cons h1, List.map_cons, ff]
    by_cases h : ch L[i] = ch s
    · refine ⟨(i : Int), Ev.succ ?_, by rw [if_pos h]; simp⟩
      simp only [slices_Index_string_string.l0, rdOf_nat L i h1, toList_ch]
      exact Ev.pos (by omega) (Ev.pos (by omega) (Ev.pos (by omega) (Ev.pos h.symm (Ev.now _))))
    · refine ⟨x, Ev.succ ?_, by rw [if_neg h]; exact hx⟩
      simp only [slices_Index_string_string.l0, rdOf_nat L i h1, toList_ch, w1 (show 0 ≤ (i : Int) by omega) (show (i : Int) < 9223372036854775807 by omega)]
      exact Ev.pos (by omega) (Ev.pos (by omega) (Ev.pos (by omega) (Ev.neg (fun e => h e.symm) ih)))
theorem index_ev (L : List ByteArray) (s : ByteArray) (hL : L.length ≤ 1048576) : ∃ x : Int, Ev (fun k => slices_Index_string_string.f k L s) x ∧ max x 0 = ((fnd (L.map ch) (ch s) : Nat) : Int) := by
  obtain ⟨x, h1, h2⟩ := index_l0 L s hL L.length 0 (by omega)
  exact ⟨x, by simpa [slices_Index_string_string.f] using h1, by simpa [fnd] using h2⟩
theorem ch_append (a b : ByteArray) : ch (a ++ b) = ch a ++ ch b := by simp [ch, ByteArray.data_append]
theorem lt_cut (c : Nat) (h : c < 3) : (⟨#[97, 98, 99]⟩ : ByteArray).extract c (c + 1) = ⟨#[lt c]⟩ := letter_cut c h
theorem ch_one (x : UInt8) : ch (⟨#[x]⟩ : ByteArray) = [x] := rfl
theorem size_one (x : UInt8) : (⟨#[x]⟩ : ByteArray).size = 1 := rfl
theorem syTable_ev (m : Nat) (hm : m = 2 ∨ m = 3) (l : List ByteArray) (hset : IsSet l) : Ev (fun k => spec_syTable.f k l (m : Int)) (tabF m (ordL (inn (l.map ch)))) := by
  have h8 := fun w hw => (hset.size w hw).2
  have hin := inn_short l hset.short
  have hlen : (bas (inn (l.map ch))).length ≤ 96 := by
    have h1 := bas_len (inn (l.map ch))
    have h2 := inn_len (l.map ch) (fun t ht => by obtain ⟨w, hw, rfl⟩ := List.mem_map.1 ht; rw [ch_length]; exact h8 w hw)
    have h3 := hset.few
    rw [List.length_map] at h2
    omega
  have hsh : ∀ s ∈ bas (inn (l.map ch)), s.size ≤ 8 := fun s hs => by
    obtain ⟨x, hx, rfl⟩ := List.mem_map.1 hs
    rw [bx_size]; exact (hin x ((mem_ordL _ x).1 hx)).1
  have hS := ch_bas (inn (l.map ch))
  have h1 := spec_pfInner_ev l hset.few h8
  unfold spec_syTable.f
  refine Ev.bind h1 ?_
  rw [← hS]
  generalize bas (inn (l.map ch)) = L at hlen hsh
  have start : ([] : List (List Int)) = ((L.take 0).map ch).map (rowF m (L.map ch)) := by simp
  rw [start]
  refine Ev.loop (fun i k => spec_syTable.l0 k (m : Int) L (((L.take i).map ch).map (rowF m (L.map ch))) L (L.length : Int) (i : Int)) L.length _ (fun i hi hnext => ?_) ?_
  · have hs := hsh _ (List.getElem_mem hi)
    rw [List.take_succ_eq_append_getElem hi, List.map_append, List.map_append] at hnext
    have hrl : (((L.take i).map ch).map (rowF m (L.map ch))).length ≤ 96 := by rw [List.length_map, List.length_map, List.length_take]; omega
    generalize ((L.take i).map ch).map (rowF m (L.map ch)) = X at hnext hrl
    refine Ev.succ ?_
    simp only [spec_syTable.l0, rdOf_nat L i hi]
    refine Ev.pos (by omega) (Ev.pos (by omega) (Ev.pos (by omega) ?_))
    have s0 : ([] : List Int) = (List.range 0).map fun c => ((fnd (L.map ch) (ch L[i] ++ [lt c]) : Nat) : Int) := rfl
    rw [s0]
    refine Ev.loop (fun c k => spec_syTable.l1 k (m : Int) L X L[i] ((List.range c).map fun c => ((fnd (L.map ch) (ch L[i] ++ [lt c]) : Nat) : Int)) (c : Int) L (L.length : Int) (i : Int)) m _ (fun c hc hnext => ?_) ?_
    · rw [List.range_succ, List.map_append] at hnext
      have hf := syFind_ev L (L[i] ++ ⟨#[lt c]⟩) (by omega)
      rw [ch_append, ch_one] at hf
      have e3 : Aside0 (wrap64 ((c : Int) + 1) = ((c + 1 : Nat) : Int)) := ⟨by rw [w64 (by omega) (by omega)]; omega⟩
      refine Ev.succ ?_
      simp only [spec_syTable.l1, e3.out, Int.toNat_natCast, lt_cut c (by omega)]
      exact Ev.pos (by omega) (Ev.pos (by omega) (Ev.pos (by omega) (Ev.pos (by omega) (Ev.pos (by rw [size_one]; omega) (Ev.bind hf (Ev.pos (by simp; omega) hnext))))))
    · refine Ev.succ ?_
      simp only [spec_syTable.l1, w1 (show 0 ≤ (i : Int) by omega) (show (i : Int) < 9223372036854775807 by omega)]
      exact Ev.neg (by omega) (Ev.pos (by omega) hnext)
  · refine Ev.succ ?_
    simp only [spec_syTable.l0]
    exact Ev.neg (by omega) (Ev.pure (by rw [List.take_of_length_le (by simp)]; rfl))
theorem letn_snoc (W : List (List UInt8)) (w : List UInt8) : letn (W ++ [w]) = if w.contains 99 then 3 else letn W := by
  unfold letn
  rw [List.any_append]
  cases W.any (fun w => w.contains 99) <;> simp
/-- each inner word with each letter is one or a word -/
theorem syLetters_l1 (m : Nat) (hm : m = 2 ∨ m = 3) (l L : List ByteArray) (hl : l.length ≤ 12) (hL : L.length ≤ 96) (hsh : ∀ s ∈ L, s.size ≤ 8) : ∀ (d i : Nat), i + d = L.length → ∃ b : Bool, Ev (fun k => spec_syLetters.l1 k l (m : Int) L L (L.length : Int) (i : Int)) (if b = true then ((m : Int), true) else (0, false)) ∧ (b = true ↔ ∀ p ∈ (L.drop i).map ch, ∀ c, c < m → p ++ [lt c] ∈ L.map ch ∨ p ++ [lt c] ∈ l.map ch)
  | 0, i, hd => by
    refine ⟨true, Ev.succ ?_, by rw [List.drop_of_length_le (by omega)]; simp⟩
    simp only [spec_syLetters.l1]
    exact Ev.neg (by omega) (Ev.now _)
  | d + 1, i, hd => by
    have h1 : i < L.length := by omega
    have hs := hsh _ (List.getElem_mem h1)
    obtain ⟨b, hb, hq⟩ := syLetters_l1 m hm l L hl hL hsh d (i + 1) (by omega)
    have inner : ∀ (e c : Nat), c + e = m → ∃ b' : Bool, Ev (fun k => spec_syLetters.l2 k l (m : Int) L L[i] (c : Int) L (L.length : Int) (i : Int)) (if b' = true then ((m : Int), true) else (0, false)) ∧ (b' = true ↔ (∀ c', c ≤ c' → c' < m → ch L[i] ++ [lt c'] ∈ L.map ch ∨ ch L[i] ++ [lt c'] ∈ l.map ch) ∧ b = true) := by
      intro e
      induction e with
      | zero =>
        intro c hc
        refine ⟨b, Ev.succ ?_, ⟨fun h => ⟨fun c' h1 h2 => by omega, h⟩, fun h => h.2⟩⟩
        simp only [spec_syLetters.l2, w1 (show 0 ≤ (i : Int) by omega) (show (i : Int) < 9223372036854775807 by omega)]
        exact Ev.neg (by omega) hb
      | succ e ih =>
        intro c hc
        obtain ⟨b', hb', hq'⟩ := ih (c + 1) (by omega)
        have g1 := wdHas_ev L (L[i] ++ ⟨#[lt c]⟩) (by omega)
        have g2 := wdHas_ev l (L[i] ++ ⟨#[lt c]⟩) (by omega)
        rw [ch_append, ch_one] at g1 g2
        have e3 : Aside0 (wrap64 ((c : Int) + 1) = ((c + 1 : Nat) : Int)) := ⟨by rw [w64 (by omega) (by omega)]; omega⟩
        have step : ∀ q : Option (Int × Bool), True := fun _ => trivial
        cases c1 : (L.map ch).contains (ch L[i] ++ [lt c]) with
        | true =>
          rw [c1] at g1
          refine ⟨b', Ev.succ ?_, ?_⟩
          · simp only [spec_syLetters.l2, e3.out, Int.toNat_natCast, lt_cut c (by omega)]
            exact Ev.pos (by omega) (Ev.pos (by omega) (Ev.pos (by omega) (Ev.pos (by omega) (Ev.pos (by rw [size_one]; omega) (Ev.bind g1 (Ev.pos rfl hb'))))))
          · rw [hq']
            refine and_congr_left fun _ => ⟨fun h c' h3 h4 => ?_, fun h c' h3 h4 => h c' (by omega) h4⟩
            by_cases e1 : c' = c
            · subst e1; exact Or.inl (by simpa using c1)
            · exact h c' (by omega) h4
        | false =>
          rw [c1] at g1
          cases c2 : (l.map ch).contains (ch L[i] ++ [lt c]) with
          | true =>
            rw [c2] at g2
            refine ⟨b', Ev.succ ?_, ?_⟩
            · simp only [spec_syLetters.l2, e3.out, Int.toNat_natCast, lt_cut c (by omega)]
              exact Ev.pos (by omega) (Ev.pos (by omega) (Ev.pos (by omega) (Ev.pos (by omega) (Ev.pos (by rw [size_one]; omega) (Ev.bind g1 (Ev.neg (by simp) (Ev.bind g2 (Ev.pos rfl hb'))))))))
            · rw [hq']
              refine and_congr_left fun _ => ⟨fun h c' h3 h4 => ?_, fun h c' h3 h4 => h c' (by omega) h4⟩
              by_cases e1 : c' = c
              · subst e1; exact Or.inr (by simpa using c2)
              · exact h c' (by omega) h4
          | false =>
            rw [c2] at g2
            refine ⟨false, Ev.succ ?_, ?_⟩
            · simp only [spec_syLetters.l2, e3.out, Int.toNat_natCast, lt_cut c (by omega)]
              exact Ev.pos (by omega) (Ev.pos (by omega) (Ev.pos (by omega) (Ev.pos (by omega) (Ev.pos (by rw [size_one]; omega) (Ev.bind g1 (Ev.neg (by simp) (Ev.bind g2 (Ev.neg (by simp) (Ev.now _)))))))))
            · refine ⟨fun h => (by cases h), fun h => ?_⟩
              rcases h.1 c (Nat.le_refl c) (by omega) with h | h
              · rw [← List.contains_iff_mem, c1] at h; cases h
              · rw [← List.contains_iff_mem, c2] at h; cases h
    obtain ⟨b', hb', hq'⟩ := inner m 0 (by omega)
    refine ⟨b', Ev.succ ?_, ?_⟩
    · simp only [spec_syLetters.l1, rdOf_nat L i h1]
      exact Ev.pos (by omega) (Ev.pos (by omega) (Ev.pos (by omega) hb'))
    · rw [hq', hq, List.drop_eq_getElem_cons h1, List.map_cons]
      refine ⟨fun h p hp c hc => ?_, fun h => ⟨fun c' _ h4 => h _ List.mem_cons_self c' h4, fun p hp => h p (List.mem_cons_of_mem _ hp)⟩⟩
      rcases List.mem_cons.1 hp with e1 | hp
      · rw [e1]; exact h.1 c (Nat.zero_le c) hc
      · exact h.2 p hp c hc
theorem syLetters_l0 (l : List ByteArray) (hset : IsSet l) (r : Int × Bool) (next : Ev (fun k => (spec_pfInner.f k l).bind fun t171 => spec_syLetters.l1 k l ((letn (l.map ch) : Nat) : Int) t171 t171 (t171.length : Int) 0) r) : Ev (fun k => spec_syLetters.l0 k l 2 l (l.length : Int) 0) r := by
  have hl := hset.few
  refine Ev.loop (fun i k => spec_syLetters.l0 k l ((letn ((l.take i).map ch) : Nat) : Int) l (l.length : Int) (i : Int)) l.length _ (fun i hi hnext => ?_) ?_
  · obtain ⟨a1, a2⟩ := short_all (hset.short _ (List.getElem_mem hi))
    have hk := krWord_ev l[i] a1 a2
    rw [List.take_succ_eq_append_getElem hi, List.map_append, List.map_cons, List.map_nil, letn_snoc] at hnext
    refine Ev.succ ?_
    simp only [spec_syLetters.l0, rdOf_nat l i hi, w1 (show 0 ≤ (i : Int) by omega) (show (i : Int) < 9223372036854775807 by omega)]
    refine Ev.pos (by omega) (Ev.pos (by omega) (Ev.pos (by omega) (Ev.bind hk ?_)))
    cases hc : (ch l[i]).contains 99 with
    | true => rw [hc] at hnext; exact Ev.neg (by simp) hnext
    | false => rw [hc] at hnext; exact Ev.pos rfl hnext
  · refine Ev.succ ?_
    simp only [spec_syLetters.l0]
    rw [List.take_of_length_le (Nat.le_refl _)]
    exact Ev.neg (by omega) next

theorem impl_parts_l0 (m : Nat) (hm : 2 ≤ m ∧ m ≤ 3) (L : List Nat) (hL : L.length ≤ 12) (hb : ∀ x ∈ L, 1 ≤ x ∧ x ≤ 8) : ∀ (d i : Nat), i + d = L.length → Ev (fun k => impl_parts.l0 k (m : Int) ((kr m 8 (L.take i) : Nat) : Int) (intsOf L) (L.length : Int) (i : Int)) ((kr m 8 L : Nat) : Int)
  | 0, i, hd => by
    refine Ev.succ ?_
    simp only [impl_parts.l0]
    exact Ev.neg (by omega) (Ev.pure (by rw [List.take_of_length_le (by omega)]))
  | d + 1, i, hd => by
    have h1 : i < L.length := by omega
    have hx := hb _ (List.getElem_mem h1)
    have ih := impl_parts_l0 m hm L hL hb d (i + 1) (by omega)
    have hp := pow_small (n := 8 - L[i]) hm (by omega)
    have hk := kr_take hm (e := 8) (by omega) L hL i
    have hpe := power_ev m (8 - L[i]) (by omega) (by omega) (by omega)
    rw [List.take_succ_eq_append_getElem h1, kr_snoc] at ih
    have e1 : Aside0 (wrap64 (8 - ((L[i] : Nat) : Int)) = ((8 - L[i] : Nat) : Int)) := ⟨by rw [w64 (by omega) (by omega)]; omega⟩
    have e2 : Aside0 (wrap64 (((kr m 8 (L.take i) : Nat) : Int) + ((m ^ (8 - L[i]) : Nat) : Int)) = ((kr m 8 (L.take i) + m ^ (8 - L[i]) : Nat) : Int)) := ⟨by rw [w64 (by omega) (by omega)]; omega⟩
    refine Ev.succ ?_
    simp only [impl_parts.l0, ints_at L i h1, e1.out, w1 (show 0 ≤ (i : Int) by omega) (show (i : Int) < 9223372036854775807 by omega)]
    refine Ev.pos (by omega) (Ev.pos (by omega) (Ev.pos (by rw [ints_len]; omega) (Ev.bind hpe ?_)))
    simp only [e2.out]
    exact ih
theorem impl_parts_ev (m : Nat) (hm : 2 ≤ m ∧ m ≤ 3) (L : List Nat) (hL : L.length ≤ 12) (hb : ∀ x ∈ L, 1 ≤ x ∧ x ≤ 8) : Ev (fun k => impl_parts.f k (intsOf L) (m : Int)) ((kr m 8 L : Nat) : Int) := by
  have h := impl_parts_l0 m hm L hL hb L.length 0 (by omega)
  unfold impl_parts.f
  rw [ints_len]
  exact h

theorem mem_lets (m : Nat) (c : UInt8) : c ∈ lets m ↔ ∃ k, k < m ∧ lt k = c := by
  unfold lets lt
  rw [List.mem_map]
  exact ⟨fun ⟨k, h, e⟩ => ⟨k, List.mem_range.1 h, e⟩, fun ⟨k, h, e⟩ => ⟨k, List.mem_range.2 h, e⟩⟩
theorem letters_ok (l : List ByteArray) (hset : IsSet l) : ∀ v ∈ l.map ch, ∀ c ∈ v, c ∈ lets (letn (l.map ch)) := by
  intro v hv c hc
  have hv' := hv
  obtain ⟨w, hw, rfl⟩ := List.mem_map.1 hv
  have h3 := let3 c (List.all_eq_true.1 (short_all (hset.short w hw)).2 c hc)
  unfold letn
  by_cases h : ((l.map ch).any fun w => w.contains 99) = true
  · rw [if_pos h, lets3]
    rcases h3 with rfl | rfl | rfl <;> simp
  · rw [if_neg h, lets2]
    rcases h3 with rfl | rfl | rfl
    · simp
    · simp
    · exfalso; apply h
      rw [List.any_eq_true]
      exact ⟨ch w, hv', by simpa using hc⟩
theorem so_row_ev (m : Nat) (hm : m = 2 ∨ m = 3) (L : List ByteArray) (s : ByteArray) (hL : L.length ≤ 96) : ∀ (c i : Nat), i + c = m → Ev (fun k => so_row k L s c i ((List.range i).map fun c => ((fnd (L.map ch) (ch s ++ [lt c]) : Nat) : Int))) (rowF m (L.map ch) (ch s))
  | 0, i, hd => by
    rw [show i = m by omega]
    simp only [so_row]
    exact Ev.now _
  | c + 1, i, hd => by
    have ih := so_row_ev m hm L s hL c (i + 1) (by omega)
    rw [List.range_succ, List.map_append] at ih
    obtain ⟨x, h1, h2⟩ := index_ev L (s ++ ⟨#[lt i]⟩) (by omega)
    rw [ch_append, ch_one] at h2
    simp only [so_row]
    have e : letK i = ⟨#[lt i]⟩ := lt_cut i (by omega)
    rw [e]
    refine Ev.bind h1 ?_
    rw [h2]
    exact ih
theorem so_rows_ev (m : Nat) (hm : m = 2 ∨ m = 3) (L : List ByteArray) (hL : L.length ≤ 96) : ∀ (r : List ByteArray) (nx : List (List Int)), (∀ s ∈ r, s.size ≤ 8) → Ev (fun k => so_rows k L m r nx) (nx ++ (r.map ch).map (rowF m (L.map ch)))
  | [], nx, _ => by
    simp only [so_rows]
    exact Ev.pure (by simp)
  | s :: r, nx, h => by
    have hs := h s (by simp)
    have ih := so_rows_ev m hm L hL r (nx ++ [rowF m (L.map ch) (ch s)]) (fun t ht => h t (by simp [ht]))
    simp only [so_rows]
    refine Ev.pos (by omega) (Ev.bind (so_row_ev m hm L s hL m 0 (by omega)) ?_)
    simpa using ih
/-- what is given: the states and the table, of the reference and of the program -/
theorem given_same (l : List ByteArray) (hl : l.length ≤ 1048576) :
    (Ev (fun k => spec_syGiven.f k l ⟨#[]⟩) (([] : List (List Int)), false) ∧ Ev (fun k => impl_stepperOf.f k l) none) ∨
    ∃ (m : Nat) (S : List (List UInt8)), (m = 2 ∨ m = 3) ∧ 1 ≤ S.length ∧ S.length ≤ 11 ∧ Ev (fun k => spec_syGiven.f k l ⟨#[]⟩) (tabF m S, true) ∧ Ev (fun k => impl_stepperOf.f k l) (some ((m : Int), S.map bx, tabF m S)) := by
  obtain ⟨b, h1, h2, hb⟩ := isSet_same l hl
  have bad : ∀ {x : Bool}, x = true → Ev (fun k => spec_syLetters.j0 k l x) (0, false) := fun {x} hx => Ev.succ (by simp only [spec_syLetters.j0]; exact Ev.pos hx (Ev.now _))
  have out : Ev (fun k => spec_syLetters.f k l) (0, false) → Ev (fun k => spec_syGiven.f k l ⟨#[]⟩) (([] : List (List Int)), false) := fun h => by
    unfold spec_syGiven.f
    exact Ev.bind h (Ev.neg (by simp) (Ev.now _))
  cases b with
  | false =>
    left
    refine ⟨out ?_, ?_⟩
    · unfold spec_syLetters.f
      exact Ev.bind h1 (Ev.neg (by simp) (bad rfl))
    · unfold impl_stepperOf.f
      exact Ev.bind h2 (Ev.neg (by simp) (Ev.now _))
  | true =>
    have hset := hb rfl
    have h12 := hset.few
    have h8 := fun w hw => (hset.size w hw).2
    have hlc := letterCount_ev l h12
    have hiw := impl_innerWords_ev l h12 h8
    have hpi := spec_pfInner_ev l h12 h8
    have hm := letn_two (l.map ch)
    have hlet := letters_ok l hset
    have hsl := syLetters_l0 l hset
    have hin := inn_short l hset.short
    have hst := syTable_ev (letn (l.map ch)) hm l hset
    have hlen : (bas (inn (l.map ch))).length ≤ 96 := by
      have h1 := bas_len (inn (l.map ch))
      have h2 := inn_len (l.map ch) (fun t ht => by obtain ⟨w, hw, rfl⟩ := List.mem_map.1 ht; rw [ch_length]; exact h8 w hw)
      rw [List.length_map] at h2
      omega
    have hsh : ∀ s ∈ bas (inn (l.map ch)), s.size ≤ 8 := fun s hs => by
      obtain ⟨x, hx, rfl⟩ := List.mem_map.1 hs
      rw [bx_size]; exact (hin x ((mem_ordL _ x).1 hx)).1
    generalize letn (l.map ch) = m at hlc hm hlet hsl hst
    have hm' : 2 ≤ m ∧ m ≤ 3 := by omega
    have hLb : ∀ x ∈ (l.map ch).map List.length, 1 ≤ x ∧ x ≤ 8 := fun x hx => by
      obtain ⟨t, ht, rfl⟩ := List.mem_map.1 hx
      obtain ⟨w, hw, rfl⟩ := List.mem_map.1 ht
      rw [ch_length]; exact hset.size w hw
    have hparts := impl_parts_ev m hm' ((l.map ch).map List.length) (by rw [List.length_map, List.length_map]; exact h12) hLb
    have hpow := power_ev m 8 (by omega) (by have := pow_small (n := 8) hm' (by omega); omega) (by omega)
    obtain ⟨bp, p1, p2, hfree⟩ := prefix_same l hset
    have himpl : ∀ q : Bool, Ev (fun k => impl_isMaximalPrefix.f k l (m : Int)) q → (q = false → Ev (fun k => impl_stepperOf.f k l) none) ∧ (q = true → Ev (fun k => impl_stepperOf.f k l) (some ((m : Int), (ordL (inn (l.map ch))).map bx, tabF m (ordL (inn (l.map ch)))))) := fun q hq => by
      unfold impl_stepperOf.f
      constructor
      · rintro rfl
        exact Ev.bind h2 (Ev.pos rfl (Ev.pos h12 (Ev.bind hlc (Ev.bind hiw (Ev.bind hq (Ev.neg (by simp) (Ev.now _)))))))
      · rintro rfl
        have hrows := so_rows_ev m hm (bas (inn (l.map ch))) hlen (bas (inn (l.map ch))) [] hsh
        refine Ev.bind h2 (Ev.pos rfl (Ev.pos h12 (Ev.bind hlc (Ev.bind hiw (Ev.bind hq (Ev.pos rfl (Ev.pos ⟨by omega, by omega⟩ ?_)))))))
        rw [Int.toNat_natCast]
        refine Ev.bind hrows (Ev.pure ?_)
        rw [ch_bas]; rfl
    have hmax : ∀ f : Bool, (f = true ↔ kra m 8 (l.map ch) = m ^ 8) → bp = true → Ev (fun k => impl_isMaximalPrefix.f k l (m : Int)) f := fun f hf hbp => by
      subst hbp
      unfold impl_isMaximalPrefix.f
      refine Ev.bind p2 (Ev.pos rfl (Ev.bind (lengthsOf_ev l hl) (Ev.bind hparts (Ev.bind hpow (Ev.pure ?_)))))
      rw [Bool.eq_iff_iff, beq_iff_eq, hf]
      unfold kra
      omega
    have hmax0 : bp = false → Ev (fun k => impl_isMaximalPrefix.f k l (m : Int)) false := fun hbp => by
      subst hbp
      unfold impl_isMaximalPrefix.f
      exact Ev.bind p2 (Ev.neg (by simp) (Ev.now _))
    by_cases h0 : l.length = 0
    · left
      have hnil : l = [] := List.length_eq_zero_iff.1 h0
      refine ⟨out ?_, ?_⟩
      · unfold spec_syLetters.f
        exact Ev.bind h1 (Ev.pos rfl (Ev.pos (by omega) (bad rfl)))
      · cases hbp : bp with
        | false => exact (himpl false (hmax0 hbp)).1 rfl
        | true =>
          refine (himpl false (hmax false ⟨fun h => (by cases h), fun h => ?_⟩ hbp)).1 rfl
          exfalso
          rw [hnil] at h
          simp [kra, kr] at h
          rcases hm with rfl | rfl <;> simp at h
    · cases hbp : bp with
      | false =>
        left
        refine ⟨out ?_, (himpl false (hmax0 hbp)).1 rfl⟩
        rw [hbp] at p1
        unfold spec_syLetters.f
        exact Ev.bind h1 (Ev.pos rfl (Ev.neg (by omega) (Ev.neg (by omega) (Ev.bind p1 (bad rfl)))))
      | true =>
        have hfr := hfree hbp
        rw [hbp] at p1
        have hW : l.map ch ≠ [] := fun e => h0 (by rw [← List.length_map (f := ch), e]; rfl)
        have hkf := (kra_full m hm 8 (l.map ch) hfr (fun v hv => by obtain ⟨w, hw, rfl⟩ := List.mem_map.1 hv; rw [ch_length]; exact h8 w hw) hlet).2
        obtain ⟨f, hf1, hf2⟩ := syLetters_l1 m hm l (bas (inn (l.map ch))) h12 hlen hsh (bas (inn (l.map ch))).length 0 (by omega)
        have hfull : f = true ↔ Full m (l.map ch) := by
          rw [hf2, full_inn, List.drop_zero, ch_bas]
          constructor
          · intro h
            refine ⟨hW, fun p hp c hc => ?_⟩
            obtain ⟨k, hk, rfl⟩ := (mem_lets m c).1 hc
            rcases h p ((mem_ordL _ p).2 hp) k hk with h | h
            · exact Or.inl ((mem_ordL _ _).1 h)
            · exact Or.inr h
          · rintro ⟨-, h⟩ p hp c hc
            rcases h p ((mem_ordL _ p).1 hp) (lt c) ((mem_lets m _).2 ⟨c, hc, rfl⟩) with h | h
            · exact Or.inl ((mem_ordL _ _).2 h)
            · exact Or.inr h
        have hsp : Ev (fun k => spec_syLetters.f k l) (if f = true then ((m : Int), true) else (0, false)) := by
          unfold spec_syLetters.f
          refine Ev.bind h1 (Ev.pos rfl (Ev.neg (by omega) (Ev.neg (by omega) (Ev.bind p1 (Ev.succ ?_)))))
          simp only [spec_syLetters.j0]
          exact Ev.neg (by simp) (hsl _ (Ev.bind hpi hf1))
        have hmx := hmax f (hfull.trans hkf.symm) hbp
        cases f with
        | false => left; exact ⟨out hsp, (himpl false hmx).1 rfl⟩
        | true =>
          right
          have hF := hfull.1 rfl
          refine ⟨m, ordL (inn (l.map ch)), hm, ?_, full_few m hm (l.map ch) (by rw [List.length_map]; exact h12) hF, ?_, (himpl true hmx).2 rfl⟩
          · obtain ⟨v, hv⟩ := List.exists_mem_of_ne_nil _ hW
            have : ([] : List UInt8) ∈ ordL (inn (l.map ch)) := (mem_ordL _ _).2 ((mem_inn _ []).2 ⟨v, hv, v, fun e => by
              obtain ⟨w, hw, e'⟩ := List.mem_map.1 hv
              have h1 := (hset.size w hw).1
              have h2 := ch_length w
              rw [e', e] at h2; simp at h2; omega, rfl⟩)
            exact List.length_pos_of_mem this
          · unfold spec_syGiven.f
            have g0 : Ev (fun k => spec_wdGood.f k ⟨#[]⟩) true := by
              unfold spec_wdGood.f spec_wdIs.f
              refine Ev.pos (by decide) (Ev.bind (a := true) (Ev.succ ?_) (Ev.now _))
              simp only [spec_wdIs.l0]
              exact Ev.neg (by decide) (Ev.now _)
            have g1 : Ev (fun k => spec_krWord.f k ⟨#[]⟩ (m : Int)) true := by
              unfold spec_krWord.f
              refine Ev.succ ?_
              simp only [spec_krWord.l0]
              exact Ev.neg (by decide) (Ev.now _)
            exact Ev.bind hsp (Ev.pos rfl (Ev.bind g0 (Ev.pos rfl (Ev.bind g1 (Ev.pos rfl (Ev.bind hst (Ev.now _)))))))

/-- two states as a sum of powers of 2 -/
def mskI (p : Nd) : Int := Go.bits .or .i64 (shl .i64 1 (p.1 : Int)) (shl .i64 1 (p.2 : Int))
theorem msk_one : ∀ x : Fin 11, ∀ y : Fin 11, spec_syOne.f (mskI (x.val, y.val)) = some (decide (x = y)) := by decide +kernel
theorem msk_has : ∀ x : Fin 11, ∀ y : Fin 11, ∀ s : Fin 11, Int.tmod (shr .i64 (mskI (x.val, y.val)) (s.val : Int)) 2 = (if s = x ∨ s = y then 1 else 0) := by decide +kernel
theorem msk_or : ∀ x : Fin 11, ∀ y : Fin 11, Go.bits .or .i64 (Go.bits .or .i64 0 (shl .i64 1 (x.val : Int))) (shl .i64 1 (y.val : Int)) = mskI (min x.val y.val, max x.val y.val) ∧ Go.bits .or .i64 0 (shl .i64 1 (x.val : Int)) = mskI (x.val, x.val) ∧ mskI (x.val, y.val) = mskI (min x.val y.val, max x.val y.val) ∧ (Lit.int .i64 (mskI (x.val, y.val))).wf = true := by decide +kernel
theorem msk_inj (p q : Nd) (hp : p.1 ≤ p.2 ∧ p.2 < 11) (hq : q.1 ≤ q.2 ∧ q.2 < 11) (h : mskI p = mskI q) : p = q := by
  have k : ∀ s : Fin 11, (s.val = p.1 ∨ s.val = p.2) ↔ (s.val = q.1 ∨ s.val = q.2) := fun s => by
    have a := msk_has ⟨p.1, by omega⟩ ⟨p.2, by omega⟩ s
    have b := msk_has ⟨q.1, by omega⟩ ⟨q.2, by omega⟩ s
    have a' : Int.tmod (shr .i64 (mskI p) (s.val : Int)) 2 = (if s.val = p.1 ∨ s.val = p.2 then 1 else 0) := by
      rw [a]; simp only [Fin.ext_iff]
    have b' : Int.tmod (shr .i64 (mskI q) (s.val : Int)) 2 = (if s.val = q.1 ∨ s.val = q.2 then 1 else 0) := by
      rw [b]; simp only [Fin.ext_iff]
    rw [h, b'] at a'
    by_cases c1 : s.val = p.1 ∨ s.val = p.2 <;> by_cases c2 : s.val = q.1 ∨ s.val = q.2
    · exact ⟨fun _ => c2, fun _ => c1⟩
    · rw [if_neg c2, if_pos c1] at a'; cases a'
    · rw [if_pos c2, if_neg c1] at a'; cases a'
    · exact ⟨fun h => absurd h c1, fun h => absurd h c2⟩
  have k1 : p.1 = q.1 ∨ p.1 = q.2 := (k ⟨p.1, by omega⟩).1 (Or.inl rfl)
  have k2 : p.2 = q.1 ∨ p.2 = q.2 := (k ⟨p.2, by omega⟩).1 (Or.inr rfl)
  have k3 : q.1 = p.1 ∨ q.1 = p.2 := (k ⟨q.1, by omega⟩).2 (Or.inl rfl)
  have k4 : q.2 = p.1 ∨ q.2 = p.2 := (k ⟨q.2, by omega⟩).2 (Or.inr rfl)
  refine Prod.ext ?_ ?_ <;> omega
/-- a table of states and letters -/
structure Tab (T : List (List Int)) (n m : Nat) (nx : Nat → Nat → Nat) : Prop where
  len : T.length = n
  row : ∀ s, s < n → (rd_L2 T (s : Int)).length = m
  at_ : ∀ s c, s < n → c < m → rd (rd_L2 T (s : Int)) (c : Int) = (nx s c : Int)
  lt : ∀ s c, nx s c < n
  pos : 1 ≤ n
  few : n ≤ 11
  two : m = 2 ∨ m = 3
/-- what the reference has reached -/
def rchS (R : Rch) : List S51 := R.map fun e => ⟨mskI e.1, bx e.2⟩
theorem rchS_len (R : Rch) : (rchS R).length = R.length := by simp [rchS]
theorem rchS_at (R : Rch) (i : Nat) (h : i < R.length) : rd_T51 (rchS R) (i : Int) = ⟨mskI R[i].1, bx R[i].2⟩ := by
  unfold rd_T51 rchS
  simp [List.getD_eq_getElem?_getD, h]
theorem bx_snoc (w : List UInt8) (c : Nat) : bx w ++ (⟨#[lt c]⟩ : ByteArray) = bx (w ++ [lt c]) := by
  rw [bx, ba_append, bx]; simp
def resN (r : List UInt8 × Bool) : ByteArray × Bool := (bx r.1, r.2)
section
variable {T : List (List Int)} {n m : Nat} {nx : Nat → Nat → Nat} (H : Tab T n m nx)
include H
theorem spec_l3 (R : Rch) (i c q : Nat) (o : Nd) (N : Nd) (hq : mskI N = mskI N) (now : Nd) (w : List UInt8) (hc : c < m) (hR : R.length ≤ 66) (hw : w.length ≤ 66) (hN : N.1 ≤ N.2 ∧ N.2 < n) (hok : ∀ e ∈ R, e.1.1 ≤ e.1.2 ∧ e.1.2 < n) (r : ByteArray × Bool)
    (next : Ev (fun k => spec_sySearch.l1 k T (rchS (putN R (N, w ++ [lt c]))) (i : Int) (m : Int) ((c + 1 : Nat) : Int) (mskI now) (bx w)) r) :
    Ev (fun k => spec_sySearch.l3 k T (rchS R) (i : Int) (c : Int) (mskI N) false (m : Int) (c : Int) (rchS R) (R.length : Int) 0 (mskI now) (bx w)) r := by
  have htwo := H.two
  have hfew := H.few
  refine Ev.loop (fun j k => spec_sySearch.l3 k T (rchS R) (i : Int) (c : Int) (mskI N) (((R.take j).map Prod.fst).contains N) (m : Int) (c : Int) (rchS R) (R.length : Int) (j : Int) (mskI now) (bx w)) R.length _ (fun j hj hnext => ?_) ?_
  · rw [List.take_succ_eq_append_getElem hj, List.map_append] at hnext
    refine Ev.succ ?_
    simp only [spec_sySearch.l3, rchS_at R j hj, w1 (show 0 ≤ (j : Int) by omega) (show (j : Int) < 9223372036854775807 by omega)]
    refine Ev.pos (by omega) (Ev.pos (by omega) (Ev.pos (by rw [rchS_len]; omega) ?_))
    cases hk : ((R.take j).map Prod.fst).contains N with
    | true =>
      have : (((R.take j).map Prod.fst) ++ List.map Prod.fst [R[j]]).contains N = true := by simp at hk ⊢; exact Or.inl hk
      rw [this] at hnext
      exact Ev.pos rfl hnext
    | false =>
      have he := hok _ (List.getElem_mem hj)
      have : (((R.take j).map Prod.fst) ++ List.map Prod.fst [R[j]]).contains N = (mskI R[j].1 == mskI N) := by
        rw [Bool.eq_iff_iff, beq_iff_eq, List.contains_iff_mem, List.mem_append]
        constructor
        · rintro (h | h)
          · rw [← List.contains_iff_mem, hk] at h; cases h
          · simp only [List.map_cons, List.map_nil, List.mem_singleton] at h; rw [h]
        · intro h
          exact Or.inr (by simp only [List.map_cons, List.map_nil, List.mem_singleton]; exact (msk_inj _ _ ⟨he.1, by omega⟩ ⟨hN.1, by omega⟩ h).symm)
      rw [this] at hnext
      exact Ev.neg (by simp) hnext
  · have e3 : Aside0 (wrap64 ((c : Int) + 1) = ((c + 1 : Nat) : Int)) := ⟨by rw [w64 (by omega) (by omega)]; omega⟩
    refine Ev.succ ?_
    simp only [spec_sySearch.l3, e3.out, Int.toNat_natCast, lt_cut c (by omega), bx_snoc]
    rw [List.take_of_length_le (Nat.le_refl _)]
    refine Ev.neg (by omega) ?_
    cases hk : (R.map Prod.fst).contains N with
    | true =>
      have hp : putN R (N, w ++ [lt c]) = R := by unfold putN; rw [if_pos (by rw [← List.contains_iff_mem]; exact hk)]
      rw [hp] at next
      exact Ev.pos rfl next
    | false =>
      have hp : putN R (N, w ++ [lt c]) = R ++ [(N, w ++ [lt c])] := by unfold putN; rw [if_neg (by rw [← List.contains_iff_mem, hk]; simp)]
      rw [hp] at next
      have e : rchS (R ++ [(N, w ++ [lt c])]) = rchS R ++ [(⟨mskI N, bx (w ++ [lt c])⟩ : S51)] := by simp [rchS]
      rw [e] at next
      exact Ev.neg (by simp) (Ev.pos (by omega) (Ev.pos (by omega) (Ev.pos (by omega) (Ev.pos (by rw [size_one, bx_size]; omega) (Ev.pos (by rw [rchS_len]; omega) next)))))
/-- the sum of powers of 2 of the states behind, up to a state -/
def accN (nx : Nat → Nat → Nat) (now : Nd) (c s : Nat) : Int := if s ≤ now.1 then 0 else if s ≤ now.2 then Go.bits .or .i64 0 (shl .i64 1 (nx now.1 c : Int)) else Go.bits .or .i64 (Go.bits .or .i64 0 (shl .i64 1 (nx now.1 c : Int))) (shl .i64 1 (nx now.2 c : Int))
theorem spec_l2 (R : Rch) (i c : Nat) (now : Nd) (w : List UInt8) (hc : c < m) (hR : R.length ≤ 66) (hw : w.length ≤ 66) (hn : now.1 < now.2 ∧ now.2 < n) (hok : ∀ e ∈ R, e.1.1 ≤ e.1.2 ∧ e.1.2 < n) (r : ByteArray × Bool)
    (next : Ev (fun k => spec_sySearch.l1 k T (rchS (putN R (stepN nx c now, w ++ [lt c]))) (i : Int) (m : Int) ((c + 1 : Nat) : Int) (mskI now) (bx w)) r) :
    Ev (fun k => spec_sySearch.l2 k T (rchS R) (i : Int) (c : Int) 0 (m : Int) (c : Int) (T.length : Int) 0 (mskI now) (bx w)) r := by
  have htwo := H.two
  have hfew := H.few
  have hlen := H.len
  have a0 : (0 : Int) = accN nx now c 0 := by unfold accN; rw [if_pos (by omega)]
  have h1 := H.lt now.1 c
  have h2 := H.lt now.2 c
  refine Ev.congr (fun k => by rw [show spec_sySearch.l2 k T (rchS R) (i : Int) (c : Int) 0 (m : Int) (c : Int) (T.length : Int) 0 (mskI now) (bx w) = spec_sySearch.l2 k T (rchS R) (i : Int) (c : Int) (accN nx now c 0) (m : Int) (c : Int) (T.length : Int) ((0 : Nat) : Int) (mskI now) (bx w) by rw [← a0]; rfl]) ?_
  refine Ev.loop (fun s k => spec_sySearch.l2 k T (rchS R) (i : Int) (c : Int) (accN nx now c s) (m : Int) (c : Int) (T.length : Int) (s : Int) (mskI now) (bx w)) n _ (fun s hs hnext => ?_) ?_
  · have hh := msk_has ⟨now.1, by omega⟩ ⟨now.2, by omega⟩ ⟨s, by omega⟩
    have hh' : Int.tmod (shr .i64 (mskI now) (s : Int)) 2 = (if s = now.1 ∨ s = now.2 then 1 else 0) := by rw [hh]; simp only [Fin.ext_iff]
    have hat := H.at_ s c hs hc
    have hrow := H.row s hs
    have h3 := H.lt s c
    refine Ev.succ ?_
    simp only [spec_sySearch.l2, hh', hat, w1 (show 0 ≤ (s : Int) by omega) (show (s : Int) < 9223372036854775807 by omega)]
    refine Ev.pos (by omega) (Ev.pos (by omega) ?_)
    by_cases e1 : s = now.1
    · subst e1
      have e : accN nx now c (now.1 + 1) = Go.bits .or .i64 (accN nx now c now.1) (shl .i64 1 (nx now.1 c : Int)) := by
        unfold accN; rw [if_neg (by omega), if_pos (by omega), if_pos (by omega)]
      rw [e] at hnext
      exact Ev.pos (by rw [if_pos (Or.inl rfl)]) (Ev.pos (by omega) (Ev.pos (by omega) (Ev.pos (by omega) (Ev.pos (by omega) hnext))))
    · by_cases e2 : s = now.2
      · subst e2
        have e : accN nx now c (now.2 + 1) = Go.bits .or .i64 (accN nx now c now.2) (shl .i64 1 (nx now.2 c : Int)) := by
          unfold accN; rw [if_neg (by omega), if_neg (by omega), if_neg (by omega), if_pos (by omega)]
        rw [e] at hnext
        exact Ev.pos (by rw [if_pos (Or.inr rfl)]) (Ev.pos (by omega) (Ev.pos (by omega) (Ev.pos (by omega) (Ev.pos (by omega) hnext))))
      · have e : accN nx now c (s + 1) = accN nx now c s := by
          unfold accN
          (repeat' split) <;> first | rfl | (exfalso; omega)
        rw [e] at hnext
        exact Ev.neg (by rw [if_neg (by omega)]; omega) hnext
  · have e : accN nx now c n = mskI (stepN nx c now) := by
      unfold accN
      rw [if_neg (by omega), if_neg (by omega)]
      exact (msk_or ⟨nx now.1 c, by omega⟩ ⟨nx now.2 c, by omega⟩).1
    rw [e]
    refine Ev.succ ?_
    simp only [spec_sySearch.l2]
    refine Ev.neg (by omega) ?_
    rw [rchS_len]
    refine spec_l3 H R i c 0 now (stepN nx c now) rfl now w hc hR hw ?_ hok r next
    simp only [stepN]; omega
theorem spec_l1 (R : Rch) (i : Nat) (hI : Inv n R (i + 1)) (hi : i < R.length) (r : ByteArray × Bool)
    (next : Ev (fun k => spec_sySearch.l0 k T (rchS (expN nx R[i] R m)) ((i + 1 : Nat) : Int)) r) :
    Ev (fun k => spec_sySearch.l1 k T (rchS R) (i : Int) (m : Int) 0 (mskI R[i].1) (bx R[i].2)) r := by
  have htwo := H.two
  have hfew := H.few
  have hwd := hI.wd i hi
  have h55 := hI.first hfew
  have h2 := hI.two i hi (by omega)
  have hok := hI.ok _ (List.getElem_mem hi)
  have hexp := hI.exp H.lt R[i] hwd
  generalize R[i] = now at hwd h2 hok hexp next ⊢
  refine Ev.loop (fun c k => spec_sySearch.l1 k T (rchS (expN nx now R c)) (i : Int) (m : Int) (c : Int) (mskI now.1) (bx now.2)) m _ (fun c hc hnext => ?_) ?_
  · have hc1 := (hexp c).1
    have hf := hc1.few hfew
    refine Ev.succ ?_
    simp only [spec_sySearch.l1]
    refine Ev.pos (by omega) ?_
    exact spec_l2 H (expN nx now R c) i c now.1 now.2 hc hf (by omega) ⟨by omega, hok.2⟩ hc1.ok r hnext
  · refine Ev.succ ?_
    simp only [spec_sySearch.l1, w1 (show 0 ≤ (i : Int) by omega) (show (i : Int) < 9223372036854775807 by omega)]
    exact Ev.neg (by omega) next
theorem spec_l0 : ∀ (d : Nat) (R : Rch) (i : Nat), Inv n R i → d + i = 67 → Ev (fun k => spec_sySearch.l0 k T (rchS R) (i : Int)) (resN (srchN nx m d R i))
  | 0, R, i, hI, hd => by
    have := hI.few H.few
    have := hI.le
    omega
  | d + 1, R, i, hI, hd => by
    have hle := hI.le
    have hf := hI.few H.few
    have hpos := H.pos
    have hfew := H.few
    have hlen := H.len
    rw [srchN]
    by_cases hi : i < R.length
    · rw [List.getElem?_eq_getElem hi]
      have hok := hI.ok _ (List.getElem_mem hi)
      have h1 := msk_one ⟨R[i].1.1, by omega⟩ ⟨R[i].1.2, by omega⟩
      have h1' : spec_syOne.f (mskI R[i].1) = some (decide (R[i].1.1 = R[i].1.2)) := by
        rw [show mskI R[i].1 = mskI (R[i].1.1, R[i].1.2) from rfl, h1]; simp only [Fin.ext_iff]
      refine Ev.succ ?_
      simp only [spec_sySearch.l0, rchS_at R i hi]
      refine Ev.pos (by rw [rchS_len]; omega) (Ev.pos (by omega) (Ev.known (fun _ => h1') ?_))
      by_cases e : R[i].1.1 = R[i].1.2
      · rw [if_pos e, decide_eq_true e]
        exact Ev.pos rfl (Ev.now _)
      · rw [if_neg e, decide_eq_false e]
        have hI' := hI.on hi e
        have hex := (hI'.exp H.lt R[i] (hI.wd i hi) m).1
        have ih := spec_l0 d (expN nx R[i] R m) (i + 1) hex (by omega)
        have hrow := H.row 0 hpos
        refine Ev.neg (by simp) (Ev.pos (by omega) ?_)
        rw [show ((rd_L2 T 0).length : Int) = (m : Int) by rw [← hrow]; rfl]
        exact spec_l1 H R i hI' hi _ ih
    · rw [List.getElem?_eq_none (by omega)]
      refine Ev.succ ?_
      simp only [spec_sySearch.l0]
      exact Ev.neg (by rw [rchS_len]; omega) (Ev.now _)
end

def rowOf (p : Nd) : List Int := if p.1 = p.2 then [(p.1 : Int)] else [(p.1 : Int), (p.2 : Int)]
theorem bits_row (p : Nd) (hp : p.1 ≤ p.2 ∧ p.2 < 11) : impl_stepper_together__1.f 4 (rowOf p) = some (mskI p) := by
  obtain ⟨x, y⟩ := p
  simp only at hp
  have e1 : wrap64 (0 + 1) = 1 := by rw [w64 (by omega) (by omega)]; rfl
  have e2 : wrap64 (1 + 1) = 2 := by rw [w64 (by omega) (by omega)]; rfl
  have h1 := msk_or ⟨x, by omega⟩ ⟨y, by omega⟩
  unfold rowOf impl_stepper_together__1.f
  by_cases e : x = y
  · subst e
    rw [if_pos rfl]
    have r0 : rd [(x : Int)] 0 = (x : Int) := rfl
    simp only [impl_stepper_together__1.l0, e1, r0, List.length_cons, List.length_nil]
    rw [if_pos (by decide), if_pos (by decide), if_pos (by decide), if_pos (by omega), if_neg (by decide)]
    exact congrArg some h1.2.1
  · rw [if_neg e]
    have r0 : rd [(x : Int), (y : Int)] 0 = (x : Int) := rfl
    have r1 : rd [(x : Int), (y : Int)] 1 = (y : Int) := rfl
    simp only [impl_stepper_together__1.l0, e1, e2, r0, r1, List.length_cons, List.length_nil]
    rw [if_pos (by decide), if_pos (by decide), if_pos (by decide), if_pos (by omega), if_pos (by decide), if_pos (by decide), if_pos (by decide), if_pos (by omega), if_neg (by decide)]
    refine congrArg some ?_
    rw [h1.1]
    simp only
    rw [Nat.min_eq_left hp.1, Nat.max_eq_right hp.1]
theorem row_one (p : Nd) : (rowOf p).length = 1 ↔ p.1 = p.2 := by unfold rowOf; split <;> simp_all
theorem row_two (p : Nd) (h : p.1 ≠ p.2) : rowOf p = [(p.1 : Int), (p.2 : Int)] := if_neg h
theorem dd_sort (a b : Nat) : dd (sortI [(a : Int), (b : Int)]) = rowOf (min a b, max a b) := by
  have e : sortI [(a : Int), (b : Int)] = [((min a b : Nat) : Int), ((max a b : Nat) : Int)] := by
    symm
    refine sortI_of (by simp; omega) ?_
    by_cases h : a ≤ b
    · rw [Nat.min_eq_left h, Nat.max_eq_right h]
    · rw [Nat.min_eq_right (by omega), Nat.max_eq_left (by omega)]; exact List.Perm.swap _ _ _
  rw [e, dd, rowOf]
  by_cases h : min a b = max a b
  · rw [if_pos (by omega), if_pos h]
  · rw [if_neg (by omega), if_neg h]
/-- what the program has in hand, and what it has met -/
def qsN (R : Rch) (i : Nat) : List (List Int × ByteArray) := (R.drop i).map fun e => (rowOf e.1, bx e.2)
def mtN (R : Rch) : List Int := (R.map fun e => mskI e.1).reverse
theorem qsN_len (R : Rch) (i : Nat) : (qsN R i).length ≤ R.length := by unfold qsN; rw [List.length_map, List.length_drop]; omega
theorem mtN_len (R : Rch) : (mtN R).length = R.length := by unfold mtN; rw [List.length_reverse, List.length_map]
theorem mtN_has (R : Rch) (N : Nd) (hN : N.1 ≤ N.2 ∧ N.2 < 11) (hok : ∀ e ∈ R, e.1.1 ≤ e.1.2 ∧ e.1.2 < 11) : (mtN R).contains (mskI N) = true ↔ N ∈ R.map Prod.fst := by
  unfold mtN
  rw [List.contains_iff_mem, List.mem_reverse, List.mem_map, List.mem_map]
  constructor
  · rintro ⟨e, he, h⟩
    exact ⟨e, he, msk_inj _ _ (hok e he) hN h⟩
  · rintro ⟨e, he, rfl⟩
    exact ⟨e, he, rfl⟩
section
variable {T : List (List Int)} {n m : Nat} {nx : Nat → Nat → Nat} (H : Tab T n m nx)
include H
theorem bhd_row (p : Nd) (hp : p.1 < p.2 ∧ p.2 < n) (c : Nat) (hc : c < m) : bhd T (rowOf p) c = rowOf (stepN nx c p) := by
  have h1 := H.at_ p.1 c (by omega) hc
  have h2 := H.at_ p.2 c (by omega) hc
  rw [row_two p (by omega), bhd, List.map_cons, List.map_cons, List.map_nil, stp, stp, h1, h2]
  exact dd_sort _ _
theorem tg_inner_ev (R : Rch) (i : Nat) (hI : Inv n R (i + 1)) (hi : i < R.length) : ∀ (e c : Nat), c + e = m → tg_inner T (rowOf R[i].1) (bx R[i].2) e c (qsN (expN nx R[i] R c) (i + 1)) (mtN (expN nx R[i] R c)) = some (qsN (expN nx R[i] R m) (i + 1), mtN (expN nx R[i] R m))
  | 0, c, hc => by rw [show c = m by omega]; rfl
  | e + 1, c, hc => by
    have hfew := H.few
    have htwo := H.two
    have hwd := hI.wd i hi
    have h55 := hI.first hfew
    have h2 := hI.two i hi (by omega)
    have hok := hI.ok _ (List.getElem_mem hi)
    have hexp := (hI.exp H.lt R[i] hwd c).1
    have hle := hexp.le
    have hf := hexp.few hfew
    have ih := tg_inner_ev R i hI hi e (c + 1) (by omega)
    have hb := bhd_row H R[i].1 ⟨by omega, hok.2⟩ c (by omega)
    have a1 := H.lt R[i].1.1 c
    have a2 := H.lt R[i].1.2 c
    have hN : (stepN nx c R[i].1).1 ≤ (stepN nx c R[i].1).2 ∧ (stepN nx c R[i].1).2 < 11 := by simp only [stepN]; omega
    have hbit := bits_row (stepN nx c R[i].1) hN
    have hwf : (Lit.int .i64 (mskI (stepN nx c R[i].1))).wf = true := (msk_or ⟨(stepN nx c R[i].1).1, by omega⟩ ⟨(stepN nx c R[i].1).2, by omega⟩).2.2.2
    have hhas := mtN_has (expN nx R[i] R c) (stepN nx c R[i].1) hN (fun e he => ⟨(hexp.ok e he).1, by have := (hexp.ok e he).2; omega⟩)
    have hl1 := qsN_len (expN nx R[i] R c) (i + 1)
    have hl2 := mtN_len (expN nx R[i] R c)
    have e3 : letK c = ⟨#[lt c]⟩ := lt_cut c (by omega)
    rw [tg_inner, hb, hbit, Option.bind_some, if_pos hwf, e3, bx_snoc]
    rw [expN] at ih
    by_cases hk : stepN nx c R[i].1 ∈ (expN nx R[i] R c).map Prod.fst
    · have hp : putN (expN nx R[i] R c) (stepN nx c R[i].1, R[i].2 ++ [lt c]) = expN nx R[i] R c := by unfold putN; rw [if_pos hk]
      rw [hp] at ih
      rw [if_pos (hhas.2 hk)]
      exact ih
    · have hp : putN (expN nx R[i] R c) (stepN nx c R[i].1, R[i].2 ++ [lt c]) = expN nx R[i] R c ++ [(stepN nx c R[i].1, R[i].2 ++ [lt c])] := by unfold putN; rw [if_neg hk]
      rw [hp] at ih
      rw [if_neg (fun h => hk (hhas.1 h)), if_pos (by rw [bx_size]; omega), if_pos ⟨by omega, by omega⟩]
      have q1 : qsN (expN nx R[i] R c ++ [(stepN nx c R[i].1, R[i].2 ++ [lt c])]) (i + 1) = qsN (expN nx R[i] R c) (i + 1) ++ [(rowOf (stepN nx c R[i].1), bx (R[i].2 ++ [lt c]))] := by
        unfold qsN; rw [List.drop_append_of_le_length hle, List.map_append]; rfl
      have q2 : mtN (expN nx R[i] R c ++ [(stepN nx c R[i].1, R[i].2 ++ [lt c])]) = mskI (stepN nx c R[i].1) :: mtN (expN nx R[i] R c) := by
        unfold mtN; rw [List.map_append, List.reverse_append]; rfl
      rw [q1, q2] at ih
      exact ih
theorem tg_outer_ev : ∀ (d : Nat) (R : Rch) (i : Nat), Inv n R i → d + i = 67 → Ev (fun k => tg_outer T m k (qsN R i) (mtN R)) (resN (srchN nx m d R i))
  | 0, R, i, hI, hd => by
    have := hI.few H.few
    have := hI.le
    omega
  | d + 1, R, i, hI, hd => by
    have hle := hI.le
    have hlen := H.len
    rw [srchN]
    by_cases hi : i < R.length
    · rw [List.getElem?_eq_getElem hi]
      have hok := hI.ok _ (List.getElem_mem hi)
      have hq : qsN R i = (rowOf R[i].1, bx R[i].2) :: qsN R (i + 1) := by unfold qsN; rw [List.drop_eq_getElem_cons hi, List.map_cons]
      rw [hq]
      refine Ev.succ ?_
      simp only [tg_outer]
      by_cases e : R[i].1.1 = R[i].1.2
      · rw [if_pos e]
        exact Ev.pos ((row_one _).2 e) (Ev.now _)
      · rw [if_neg e]
        have hI' := hI.on hi e
        have hex := (hI'.exp H.lt R[i] (hI.wd i hi) m).1
        have ih := tg_outer_ev d (expN nx R[i] R m) (i + 1) hex (by omega)
        have hin := tg_inner_ev H R i hI' hi m 0 (by omega)
        rw [expN] at hin
        refine Ev.neg (fun h => e ((row_one _).1 h)) (Ev.pos ⟨by rw [row_two _ e]; rfl, fun x hx => ?_⟩ (Ev.known (fun _ => hin) ih))
        rw [row_two _ e] at hx
        simp only [List.mem_cons, List.not_mem_nil, or_false] at hx
        rcases hx with rfl | rfl <;> omega
    · rw [List.getElem?_eq_none (by omega)]
      have hq : qsN R i = [] := by unfold qsN; rw [List.drop_of_length_le (by omega)]; rfl
      rw [hq]
      refine Ev.succ ?_
      simp only [tg_outer]
      exact Ev.now _
/-- both searches answer alike -/
theorem search_same (hrows : ∀ row ∈ T, row.length = m) (p : Nd) (hp : p.1 ≤ p.2 ∧ p.2 < n) : ∃ r, Ev (fun k => spec_sySearch.f k T (mskI p)) r ∧ Ev (fun k => mw_two T k m (rowOf p)) r := by
  have hI := Inv.start p hp
  have hfew := H.few
  have h1 := spec_l0 H 67 [(p, [])] 0 hI rfl
  have h2 := tg_outer_ev H 67 [(p, [])] 0 hI rfl
  refine ⟨_, h1, ?_⟩
  unfold mw_two tg_f
  refine Ev.pos ⟨H.two, hrows⟩ (Ev.known (fun _ => bits_row p ⟨hp.1, by omega⟩) (Ev.pos ?_ h2))
  exact (msk_or ⟨p.1, by omega⟩ ⟨p.2, by omega⟩).2.2.2
end
theorem tabF_tab (m : Nat) (hm : m = 2 ∨ m = 3) (S : List (List UInt8)) (h1 : 1 ≤ S.length) (h11 : S.length ≤ 11) : Tab (tabF m S) S.length m (fun s c => fnd S (S.getD s [] ++ [lt c])) := by
  have hr : ∀ s (h : s < S.length), rd_L2 (tabF m S) (s : Int) = rowF m S S[s] := fun s h => by
    unfold rd_L2 tabF
    simp [List.getD_eq_getElem?_getD, h]
  refine ⟨by simp [tabF], fun s hs => ?_, fun s c hs hc => ?_, fun s c => fnd_lt S _ h1, h1, h11, hm⟩
  · rw [hr s hs]; simp [rowF]
  · rw [hr s hs, rowF, rd_nat _ c (by simpa using hc)]
    simp [List.getD_eq_getElem?_getD, hs]
theorem tabF_rows (m : Nat) (S : List (List UInt8)) : ∀ row ∈ tabF m S, row.length = m := fun row h => by
  obtain ⟨p, -, rfl⟩ := List.mem_map.1 h
  simp [rowF]


section
variable {T : List (List Int)} {n m : Nat} {nx : Nat → Nat → Nat} (H : Tab T n m nx) (hrows : ∀ row ∈ T, row.length = m)
include H hrows
theorem cs_l1 (i : Nat) (hi : i < n) : ∀ (d j : Nat), j + d = i → ∃ b : Bool, Ev (fun k => cs_in T k m i d j) b ∧ (b = false → Ev (fun k => spec_CanBeInStep.l1 k T (i : Int) (j : Int) (n : Int) (i : Int)) (false, true)) ∧ (b = true → ∀ r, Ev (fun k => spec_CanBeInStep.l0 k T (n : Int) ((i + 1 : Nat) : Int)) r → Ev (fun k => spec_CanBeInStep.l1 k T (i : Int) (j : Int) (n : Int) (i : Int)) r)
  | 0, j, hd => by
    have hfew := H.few
    refine ⟨true, ?_, fun h => (by cases h), fun _ r hr => Ev.succ ?_⟩
    · simp only [cs_in]; exact Ev.now _
    · simp only [spec_CanBeInStep.l1, w1 (show 0 ≤ (i : Int) by omega) (show (i : Int) < 9223372036854775807 by omega)]
      exact Ev.neg (by omega) hr
  | d + 1, j, hd => by
    have hfew := H.few
    obtain ⟨b, b1, b2, b3⟩ := cs_l1 i hi d (j + 1) (by omega)
    obtain ⟨r, r1, r2⟩ := search_same H hrows (j, i) ⟨by simp only; omega, hi⟩
    have e0 : rowOf (j, i) = [(j : Int), (i : Int)] := row_two (j, i) (by simp only; omega)
    have e1 : Go.bits .or .i64 (shl .i64 1 (i : Int)) (shl .i64 1 (j : Int)) = mskI (j, i) := by
      have h := (msk_or ⟨i, by omega⟩ ⟨j, by omega⟩).2.2.1
      simp only at h
      rw [Nat.min_eq_right (by omega), Nat.max_eq_left (by omega)] at h
      exact h
    rw [e0] at r2
    cases hr : r.2 with
    | false =>
      refine ⟨false, ?_, fun _ => Ev.succ ?_, fun h => (by cases h)⟩
      · simp only [cs_in]; exact Ev.bind r2 (Ev.neg (by rw [hr]; simp) (Ev.now _))
      · simp only [spec_CanBeInStep.l1, e1]
        exact Ev.pos (by omega) (Ev.pos (by omega) (Ev.pos (by omega) (Ev.bind r1 (Ev.neg (by rw [hr]; simp) (Ev.now _)))))
    | true =>
      refine ⟨b, ?_, fun h => Ev.succ ?_, fun h q hq => Ev.succ ?_⟩
      · simp only [cs_in]; exact Ev.bind r2 (Ev.pos hr b1)
      · simp only [spec_CanBeInStep.l1, e1, w1 (show 0 ≤ (j : Int) by omega) (show (j : Int) < 9223372036854775807 by omega)]
        exact Ev.pos (by omega) (Ev.pos (by omega) (Ev.pos (by omega) (Ev.bind r1 (Ev.pos hr (b2 h)))))
      · simp only [spec_CanBeInStep.l1, e1, w1 (show 0 ≤ (j : Int) by omega) (show (j : Int) < 9223372036854775807 by omega)]
        exact Ev.pos (by omega) (Ev.pos (by omega) (Ev.pos (by omega) (Ev.bind r1 (Ev.pos hr (b3 h q hq)))))
theorem cs_l0 : ∀ (d i : Nat), i + d = n → ∃ b : Bool, Ev (fun k => cs_out T k m d i) b ∧ Ev (fun k => spec_CanBeInStep.l0 k T (n : Int) (i : Int)) (b, true)
  | 0, i, hd => by
    refine ⟨true, ?_, Ev.succ ?_⟩
    · simp only [cs_out]; exact Ev.now _
    · simp only [spec_CanBeInStep.l0]
      exact Ev.neg (by omega) (Ev.now _)
  | d + 1, i, hd => by
    obtain ⟨b, b1, b2⟩ := cs_l0 d (i + 1) (by omega)
    obtain ⟨q, q1, q2, q3⟩ := cs_l1 H hrows i (by omega) i 0 (by omega)
    cases q with
    | false =>
      refine ⟨false, ?_, Ev.succ ?_⟩
      · simp only [cs_out]; exact Ev.bind q1 (Ev.neg (by simp) (Ev.now _))
      · simp only [spec_CanBeInStep.l0]
        exact Ev.pos (by omega) (q2 rfl)
    | true =>
      refine ⟨b, ?_, Ev.succ ?_⟩
      · simp only [cs_out]; exact Ev.bind q1 (Ev.pos rfl b1)
      · simp only [spec_CanBeInStep.l0]
        exact Ev.pos (by omega) (q3 rfl _ b2)
end
theorem cs_same (l : List ByteArray) (hl : l.length ≤ 1048576) : ∃ r : Bool × Bool, Ev (fun k => spec_CanBeInStep.f k l) r ∧ Ev (fun k => impl_CanBeInStep.f k l) r := by
  unfold spec_CanBeInStep.f impl_CanBeInStep.f
  rcases given_same l hl with ⟨h1, h2⟩ | ⟨m, S, hm, hS1, hS2, h1, h2⟩
  · refine ⟨(false, false), Ev.bind h1 (Ev.neg (by simp) (Ev.now _)), Ev.bind h2 ?_⟩
    simp only [impl_CanBeInStep.g]
    exact Ev.now _
  · have H := tabF_tab m hm S hS1 hS2
    have hrows := tabF_rows m S
    have hlen : (tabF m S).length = S.length := H.len
    have hbl : (S.map bx).length = S.length := List.length_map _
    generalize tabF m S = T at H hrows hlen h1 h2
    obtain ⟨b, b1, b2⟩ := cs_l0 H hrows S.length 0 (by omega)
    refine ⟨(b, true), Ev.bind h1 (Ev.pos rfl ?_), Ev.bind h2 ?_⟩
    · rw [hlen]; exact b2
    · simp only [impl_CanBeInStep.g, hbl, Int.toNat_natCast]
      exact Ev.pos ⟨by omega, by omega⟩ (Ev.bind b1 (Ev.now _))
theorem FnExactCanBeInStep : laws_FnExactCanBeInStep.Pure := by
  intro l hl hs
  refine Ev.rounds ?_
  unfold laws_FnExactCanBeInStep.f
  obtain ⟨z, hz, hzz⟩ := szS_ev l hl hs
  refine Ev.bind hz (Ev.cases (fun _ => Ev.now _) (fun hzn => ?_))
  obtain ⟨hl', -⟩ := hzz (by omega)
  obtain ⟨r, h1, h2⟩ := cs_same l hl'
  refine Ev.bind (toS_ev l hl') (Ev.bind h1 (Ev.bind (toS_ev l hl') (Ev.bind h2 (Ev.neg (by simp) ?_))))
  refine Ev.succ ?_
  simp only [laws_FnExactCanBeInStep.j0]
  exact Ev.neg (by simp) (Ev.bind (toS_ev l hl') (Ev.bind (eqS_ev l hl') (Ev.pos rfl (Ev.now _))))
end Go.Proofs.YthlldokmjpfilaaGreatDoor.Pure
