/- DelayBack of the program and of the reference answer alike for all arguments, and leave them as they were: no condition. -/
import Derived.Test.YtpldfbkknkhlaaaDoorXFnExactDelayBackxp
namespace Go.Proofs.YtpldfbkknkhlaaaDoor.Pure
set_option linter.unusedSimpArgs false
set_option linter.unusedVariables false
open Go.RowKit Go.Proofs.YtpldfbkknkhlaaaDoor.Hand Go.Proofs.YtpldfbkknkhlaaaDoor.XFnExactDelayBack Go.Proofs.YtpldfbkknkhlaaaDoorW.PrintWords Go.Proofs.YtpldfbkknkhlaaaDoorW.PrintLast Go.Proofs.YtpldfbkknkhlaaaDoorW.PrintMore

theorem w1 {i : Int} (h0 : 0 ≤ i) (h : i < 9223372036854775807) : wrap64 (i + 1) = i + 1 := by unfold wrap64; omega
theorem w64 {i : Int} (h0 : -9223372036854775808 ≤ i) (h : i < 9223372036854775808) : wrap64 i = i := by unfold wrap64; omega
theorem rd_nat (l : List Int) (i : Nat) (h : i < l.length) : rd l (i : Int) = l[i] := by
  unfold rd; simp [List.getD_eq_getElem?_getD, h]
theorem Ev.pos {α : Type} {c : Prop} [Decidable c] {g g' : Nat → Option α} {r : α} (h : c) (k : Ev g r) : Ev (fun n => if c then g n else g' n) r :=
  Ev.congr (fun n => if_pos h) k
theorem Ev.neg {α : Type} {c : Prop} [Decidable c] {g g' : Nat → Option α} {r : α} (h : ¬ c) (k : Ev g' r) : Ev (fun n => if c then g n else g' n) r :=
  Ev.congr (fun n => if_neg h) k
theorem Ev.cases {α : Type} {c : Prop} [Decidable c] {g g' : Nat → Option α} {r : α} (h : c → Ev g r) (k : ¬ c → Ev g' r) : Ev (fun n => if c then g n else g' n) r := by
  by_cases e : c
  · exact Ev.pos e (h e)
  · exact Ev.neg e (k e)
/-- a call whose answer is known at every number of rounds -/
theorem Ev.known {α β : Type} {g : Nat → Option α} {f : Nat → α → Option β} {a : α} {r : β} (h : ∀ n, g n = some a) (k : Ev (fun n => f n a) r) : Ev (fun n => (g n).bind (f n)) r :=
  Ev.bind ⟨0, fun n _ => h n⟩ k
/-- one bind of two, joined with what follows -/
theorem Ev.pure {α : Type} {r q : α} (h : r = q) : Ev (fun _ => some r) q := h ▸ Ev.now r
theorem Ev.succ {α : Type} {g : Nat → Option α} {r : α} (h : Ev (fun k => g (k + 1)) r) : Ev g r := Ev.step (f := fun k => g (k + 1)) (fun _ => rfl) h

theorem rdOf_nat (l : List ByteArray) (i : Nat) (h : i < l.length) : rdOf ByteArray.empty l (i : Int) = l[i] := by
  unfold rdOf; simp [List.getD_eq_getElem?_getD, h]

theorem maxLen_le : maxLen ≤ 9223372036854775807 := by unfold maxLen; omega
theorem szS_l0 (l : List ByteArray) (hl : l.length ≤ 9223372036854775807) (hs : ∀ s ∈ l, s.size ≤ 9223372036854775807) : ∀ (d i : Nat) (b : Int), i + d = l.length → 0 ≤ b → b ≤ 1048576 → ∃ r, Ev (fun k => laws_szStringS.l0 k l b (i : Int)) r ∧ (0 ≤ r → r ≤ 1048576 ∧ ∀ s ∈ l.drop i, s.size ≤ 1048576)
  | 0, i, b, hd, h0, hb => by
    refine ⟨b, Ev.succ ?_, fun _ => ⟨hb, fun s h => ?_⟩⟩
    · simp only [laws_szStringS.l0]; exact Ev.neg (by omega) (Ev.now _)
    · rw [List.drop_of_length_le (by omega)] at h; cases h
  | d + 1, i, b, hd, h0, hb => by
    have h1 : i < l.length := by omega
    have h2 := hs _ (List.getElem_mem h1)
    have e : Aside0 (wrap64 (b - (l[i].size : Int)) = b - (l[i].size : Int)) := ⟨w64 (by omega) (by omega)⟩
    by_cases hc : b - (l[i].size : Int) < 0
    · refine ⟨-1, Ev.succ ?_, fun h => by omega⟩
      simp only [laws_szStringS.l0, rdOf_nat l i h1, e.out]
      exact Ev.pos (by omega) (Ev.pos (by omega) (Ev.pos hc (Ev.now _)))
    · obtain ⟨r, hr, hh⟩ := szS_l0 l hl hs d (i + 1) (b - (l[i].size : Int)) (by omega) (by omega) (by omega)
      refine ⟨r, Ev.succ ?_, fun h => ⟨(hh h).1, fun s hm => ?_⟩⟩
      · simp only [laws_szStringS.l0, rdOf_nat l i h1, e.out, w1 (show 0 ≤ (i : Int) by omega) (show (i : Int) < 9223372036854775807 by omega)]
        exact Ev.pos (by omega) (Ev.pos (by omega) (Ev.neg hc hr))
      · rw [List.drop_eq_getElem_cons h1] at hm
        rcases List.mem_cons.1 hm with rfl | hm
        · omega
        · exact (hh h).2 s hm
theorem szS_ev (l : List ByteArray) (hl : l.length ≤ maxLen) (hs : ∀ s ∈ l, s.size ≤ maxLen) : ∃ r, Ev (fun k => laws_szStringS.f k l 1048576) r ∧ (0 ≤ r → l.length ≤ 1048576 ∧ r ≤ 1048576 ∧ ∀ s ∈ l, s.size ≤ 1048576) := by
  have hm := maxLen_le
  have e : Aside0 (wrap64 (1048576 - (l.length : Int)) = 1048576 - (l.length : Int)) := ⟨w64 (by omega) (by omega)⟩
  unfold laws_szStringS.f
  rw [e.out]
  by_cases hc : 1048576 - (l.length : Int) < 0
  · exact ⟨-1, Ev.pos hc (Ev.now _), fun h => by omega⟩
  · obtain ⟨r, hr, hh⟩ := szS_l0 l (by omega) (fun s h => Nat.le_trans (hs s h) hm) l.length 0 (1048576 - (l.length : Int)) (by omega) (by omega) (by omega)
    exact ⟨r, Ev.neg hc hr, fun h => ⟨by omega, (hh h).1, by simpa using (hh h).2⟩⟩
theorem toS_l0 (l : List ByteArray) (hl : l.length ≤ 1048576) : ∀ (d i : Nat) (xs : List ByteArray), i + d = l.length → xs.length = l.length → xs.take i = l.take i → Ev (fun k => laws_toStringS.l0 k l xs (i : Int)) l
  | 0, i, xs, hd, hx, ht => by
    refine Ev.step (f := fun _ => some xs) (fun k => ?_) (Ev.pure ?_)
    · simp only [laws_toStringS.l0]; rw [if_neg (by omega)]
    · rw [List.take_of_length_le (by omega), List.take_of_length_le (by omega)] at ht; exact ht
  | d + 1, i, xs, hd, hx, ht => by
    refine Ev.step (f := fun k => laws_toStringS.l0 k l (xs.set i (rdOf ByteArray.empty l i)) ((i + 1 : Nat) : Int)) (fun k => ?_) (toS_l0 l hl d (i + 1) _ (by omega) (by simp [hx]) ?_)
    · simp only [laws_toStringS.l0]; rw [if_pos (by omega), if_pos (by omega), if_pos (by omega), w1 (by omega) (by omega)]; simp
    · have h1 : i < l.length := by omega
      have h2 : i < (xs.set i (rdOf ByteArray.empty l i)).length := by simp; omega
      have e := rdOf_nat l i h1
      rw [List.take_succ_eq_append_getElem h2, List.take_succ_eq_append_getElem h1, List.take_set, List.set_eq_of_length_le (by simp; omega), ht]
      simp [e]
theorem toS_ev (l : List ByteArray) (hl : l.length ≤ 1048576) : Ev (fun k => laws_toStringS.f k l) l := by
  unfold laws_toStringS.f
  refine Ev.pos (by omega) (Ev.pos (by omega) ?_)
  have h := toS_l0 l hl l.length 0 (List.replicate l.length ⟨#[]⟩) (by omega) (by simp) (by simp)
  simpa using h
theorem eqS_l0 (l : List ByteArray) (hl : l.length ≤ 1048576) : ∀ (d i : Nat), i + d = l.length → Ev (fun k => laws_eqStringS.l0 k l l (i : Int)) true
  | 0, i, hd => Ev.step (f := fun _ => some true) (fun k => by simp only [laws_eqStringS.l0]; rw [if_neg (by omega)]) (Ev.now _)
  | d + 1, i, hd => by
    refine Ev.step (f := fun k => laws_eqStringS.l0 k l l ((i + 1 : Nat) : Int)) (fun k => ?_) (eqS_l0 l hl d (i + 1) (by omega))
    simp only [laws_eqStringS.l0]; rw [if_pos (by omega), if_pos (by omega), if_pos (by omega), if_pos trivial, w1 (by omega) (by omega)]; simp
theorem eqS_ev (l : List ByteArray) (hl : l.length ≤ 1048576) : Ev (fun k => laws_eqStringS.f k l l) true := by
  unfold laws_eqStringS.f
  exact Ev.pos rfl (by simpa using eqS_l0 l hl l.length 0 (by omega))


theorem spec_in (a b c : Int) : spec_l1In.f a b c = some (decide (b ≤ a ∧ a ≤ c)) := by
  unfold spec_l1In.f
  by_cases h : a ≥ b
  · rw [if_pos h]; simp [h]
  · rw [if_neg h]; simp; omega

theorem impl_in_eq (a b c : Int) : impl_in.f a b c = some (decide (b ≤ a ∧ a ≤ c)) := by
  unfold impl_in.f
  by_cases h : b ≤ a
  · rw [if_pos h]; simp [h]
  · rw [if_neg h]; simp [h]

theorem bt_nat (s : ByteArray) (i : Nat) (h : i < s.data.toList.length) : bt s (i : Int) = ((s.data.toList[i]).toNat : Int) := by
  have h' : i < s.size := by have e : s.size = s.data.toList.length := Array.length_toList.symm; omega
  unfold bt
  rw [dif_pos (show (i : Int).toNat < s.size by simpa using h')]
  simp [ByteArray.getElem_eq_getElem_data]
theorem size_data (s : ByteArray) : s.size = s.data.toList.length := Array.length_toList.symm
theorem letter_test (c : UInt8) : ((c.toNat : Int) < 97 ∨ ((c.toNat : Int) - 97) % 256 ≥ 3) ↔ isLetter c = false := by
  have := c.toNat_lt
  unfold isLetter
  rw [decide_eq_false_iff_not]
  omega
theorem wdIs_l0 (s : ByteArray) (hs : s.size < 4611686018427387904) : ∀ (d i : Nat), i + d = s.data.toList.length → Ev (fun k => spec_wdIs.l0 k s (i : Int)) ((s.data.toList.drop i).all isLetter)
  | 0, i, hd => by
    refine Ev.succ ?_
    simp only [spec_wdIs.l0]
    exact Ev.neg (by rw [size_data]; omega) (Ev.pure (by rw [List.drop_of_length_le (by omega)]; rfl))
  | d + 1, i, hd => by
    have h1 : i < s.data.toList.length := by omega
    have ih := wdIs_l0 s hs d (i + 1) (by omega)
    have ht := letter_test s.data.toList[i]
    have hsz := size_data s
    rw [List.drop_eq_getElem_cons h1, List.all_cons]
    refine Ev.succ ?_
    simp only [spec_wdIs.l0, bt_nat s i h1, w1 (show 0 ≤ (i : Int) by omega) (show (i : Int) < 9223372036854775807 by omega)]
    refine Ev.pos (by omega) (Ev.pos (by omega) (Ev.cases (fun h => ?_) (fun h => Ev.cases (fun h' => ?_) (fun h' => ?_))))
    · rw [ht.1 (Or.inl h)]; exact Ev.now _
    · rw [ht.1 (Or.inr h')]; exact Ev.now _
    · have : isLetter s.data.toList[i] = true := by
        cases hl : isLetter s.data.toList[i]
        · exact absurd (ht.2 hl) (by omega)
        · rfl
      rw [this, Bool.true_and]; exact ih
theorem wdIs_ev (s : ByteArray) (hs : s.size < 4611686018427387904) : Ev (fun k => spec_wdIs.f k s) (s.data.toList.all isLetter) := by
  have h := wdIs_l0 s hs s.data.toList.length 0 (by omega)
  simpa [spec_wdIs.f] using h

/-- a word of a set -/
def short (s : ByteArray) : Bool := decide (1 ≤ s.size ∧ s.size ≤ 8) && s.data.toList.all isLetter
theorem wdShort_ev (s : ByteArray) : Ev (fun k => spec_wdShort.f k s) (short s) := by
  unfold spec_wdShort.f short
  refine Ev.known (fun _ => spec_in _ _ _) (Ev.cases (fun h => ?_) (fun h => ?_))
  · have h' := of_decide_eq_true h
    rw [decide_eq_true (show 1 ≤ s.size ∧ s.size ≤ 8 by omega), Bool.true_and]
    exact Ev.bind (wdIs_ev s (by omega)) (Ev.now _)
  · rw [decide_eq_false (show ¬ (1 ≤ s.size ∧ s.size ≤ 8) by intro hh; exact h (decide_eq_true (by omega))), Bool.false_and]
    exact Ev.now _
theorem isShort_eq (s : ByteArray) : impl_isShort.f s = some (short s) := by
  unfold impl_isShort.f impl_isWord.f short
  by_cases h : 1 ≤ s.size ∧ s.size ≤ 8
  · rw [decide_eq_true h, decide_eq_true (show s.size ≤ 60 by omega)]
    cases s.data.toList.all isLetter
    · rfl
    · simp [impl_in_eq]; omega
  · rw [decide_eq_false h]
    cases (decide (s.size ≤ 60) && s.data.toList.all isLetter)
    · rfl
    · simp [impl_in_eq]; omega
theorem bytesLess_cmp : ∀ (x y : List UInt8), Op.bytesLess x y = decide (Lib.compareBytes x y < 0)
  | [], [] => by simp [Op.bytesLess, Lib.compareBytes]
  | _ :: _, [] => by simp [Op.bytesLess, Lib.compareBytes]
  | [], _ :: _ => by simp [Op.bytesLess, Lib.compareBytes]
  | a :: x, b :: y => by
    rw [Op.bytesLess, bytesLess_cmp x y, Lib.compareBytes]
    by_cases h1 : a < b
    · simp [h1]
    · by_cases h2 : b < a
      · have : (a == b) = false := by
          rw [beq_eq_false_iff_ne]; rintro rfl; exact h1 h2
        simp [h1, h2, this]
      · have : a = b := by
          have h1' : ¬ a.toNat < b.toNat := h1
          have h2' : ¬ b.toNat < a.toNat := h2
          exact UInt8.toNat_inj.1 (by omega)
        subst this; simp [h1]
theorem bytesLess_irrefl : ∀ (x : List UInt8), Op.bytesLess x x = false
  | [] => rfl
  | a :: x => by rw [Op.bytesLess, bytesLess_irrefl x]; simp
theorem bytesLess_trans : ∀ (x y z : List UInt8), Op.bytesLess x y = true → Op.bytesLess y z = true → Op.bytesLess x z = true
  | _, [], _ => by simp [Op.bytesLess]
  | _, _ :: _, [] => by simp [Op.bytesLess]
  | [], _ :: _, _ :: _ => by simp [Op.bytesLess]
  | a :: x, b :: y, c :: z => by
    have ih := bytesLess_trans x y z
    simp only [Op.bytesLess, Bool.or_eq_true, decide_eq_true_eq, Bool.and_eq_true, beq_iff_eq]
    intro h1 h2
    rcases h1 with h1 | ⟨rfl, h1⟩
    · rcases h2 with h2 | ⟨rfl, h2⟩
      · exact Or.inl (UInt8.lt_trans h1 h2)
      · exact Or.inl h1
    · rcases h2 with h2 | ⟨rfl, h2⟩
      · exact Or.inl h2
      · exact Or.inr ⟨rfl, ih h1 h2⟩
/-- the order of words: by length, then by letters -/
def wless (a b : ByteArray) : Bool := decide (a.size < b.size) || (decide (a.size = b.size) && Op.bytesLess a.data.toList b.data.toList)
theorem wless_irrefl (a : ByteArray) : wless a a = false := by unfold wless; rw [bytesLess_irrefl]; simp
theorem wless_trans (a b c : ByteArray) (h1 : wless a b = true) (h2 : wless b c = true) : wless a c = true := by
  unfold wless at *
  simp only [Bool.or_eq_true, decide_eq_true_eq, Bool.and_eq_true] at *
  rcases h1 with h1 | ⟨h1, g1⟩ <;> rcases h2 with h2 | ⟨h2, g2⟩
  · left; omega
  · left; omega
  · left; omega
  · exact Or.inr ⟨by omega, bytesLess_trans _ _ _ g1 g2⟩
theorem wdLess_eq (a b : ByteArray) : spec_wdLess.f a b = some (wless a b) := by
  unfold spec_wdLess.f wless
  by_cases h : a.size < b.size
  · rw [if_pos (by omega)]; simp [h]
  · rw [if_neg (by omega)]
    by_cases h' : a.size = b.size
    · rw [if_pos (by omega)]; simp [h', ByteArray.toList_eq]
    · rw [if_neg (by omega)]; simp [h, h']
theorem or2 (a b : Int) : Ev (fun k => cmp_Or_int.f k [a, b]) (if a = 0 then b else a) := by
  refine ⟨3, fun k hk => ?_⟩
  obtain ⟨k, rfl⟩ : ∃ m, k = m + 3 := ⟨k - 3, by omega⟩
  by_cases ha : a = 0 <;> by_cases hb : b = 0 <;> simp [cmp_Or_int.f, cmp_Or_int.l0, rd, wrap64, ha, hb]
theorem compareWords_ev (a b : ByteArray) : ∃ c, Ev (fun k => impl_compareWords.f k a b) c ∧ wless a b = decide (c < 0) := by
  have hn : ∀ x : Int, cmp_isNaN_int.f x = some false := fun x => by simp [cmp_isNaN_int.f]
  have hc : cmp_Compare_int.f (a.size : Int) (b.size : Int) = some (if a.size < b.size then -1 else if b.size < a.size then 1 else 0) := by
    unfold cmp_Compare_int.f
    simp only [hn, Option.bind_some]
    rw [if_neg (by simp), if_neg (by simp)]
    by_cases h1 : a.size < b.size
    · rw [if_pos (by omega), if_pos h1]
    · rw [if_neg (by omega), if_neg h1]
      by_cases h2 : b.size < a.size
      · rw [if_pos (by omega), if_pos h2]
      · rw [if_neg (by omega), if_neg h2]
  refine ⟨_, Ev.known (fun _ => hc) (Ev.known (fun _ => rfl) (Ev.bind (or2 _ _) (Ev.now _))), ?_⟩
  unfold wless
  rw [bytesLess_cmp]
  by_cases h1 : a.size < b.size
  · simp [h1]
  · by_cases h2 : b.size < a.size
    · rw [if_neg h1, if_pos h2]; simp [h1, show ¬ a.size = b.size by omega]
    · rw [if_neg h1, if_neg h2]; simp [h1, show a.size = b.size by omega]
/-- a set: words of the right size, one by one in order -/
def SetUpto (l : List ByteArray) (i : Nat) : Prop := ∀ (j : Nat) (h : j < l.length), i ≤ j → short l[j] = true ∧ (0 < j → wless l[j - 1] l[j] = true)
theorem set_l0 (l : List ByteArray) (hl : l.length ≤ 1048576) : ∀ (d i : Nat), i + d = l.length → ∃ b, Ev (fun k => spec_wdSet.l0 k l l (l.length : Int) (i : Int)) b ∧ Ev (fun k => impl_isSet.l0 k l l (l.length : Int) (i : Int)) (b && decide (l.length ≤ 12)) ∧ (b = true → SetUpto l i)
  | 0, i, hd => by
    refine ⟨true, Ev.succ ?_, Ev.succ ?_, fun _ j h hj => by omega⟩
    · simp only [spec_wdSet.l0]; exact Ev.neg (by omega) (Ev.now _)
    · simp only [impl_isSet.l0]; refine Ev.neg (by omega) (Ev.pure ?_); rw [Bool.true_and]; exact decide_eq_decide.2 (by omega)
  | d + 1, i, hd => by
    have h1 : i < l.length := by omega
    obtain ⟨b, e1, e2, hb⟩ := set_l0 l hl d (i + 1) (by omega)
    have s1 := wdShort_ev l[i]
    have s2 := isShort_eq l[i]
    cases hs : short l[i]
    · rw [hs] at s1 s2
      refine ⟨false, Ev.succ ?_, Ev.succ ?_, fun h => by cases h⟩
      · simp only [spec_wdSet.l0, rdOf_nat l i h1]
        exact Ev.pos (by omega) (Ev.pos (by omega) (Ev.pos (by omega) (Ev.bind s1 (Ev.neg (by simp) (Ev.now _)))))
      · simp only [impl_isSet.l0, rdOf_nat l i h1]
        exact Ev.pos (by omega) (Ev.pos (by omega) (Ev.pos (by omega) (Ev.known (fun _ => s2) (Ev.neg (by simp) (Ev.now _)))))
    · rw [hs] at s1 s2
      by_cases h0 : i = 0
      · refine ⟨b, Ev.succ ?_, Ev.succ ?_, fun h j hj hij => ?_⟩
        · simp only [spec_wdSet.l0, rdOf_nat l i h1, w1 (show 0 ≤ (i : Int) by omega) (show (i : Int) < 9223372036854775807 by omega)]
          exact Ev.pos (by omega) (Ev.pos (by omega) (Ev.pos (by omega) (Ev.bind s1 (Ev.pos rfl (Ev.neg (by omega) e1)))))
        · simp only [impl_isSet.l0, rdOf_nat l i h1, w1 (show 0 ≤ (i : Int) by omega) (show (i : Int) < 9223372036854775807 by omega)]
          exact Ev.pos (by omega) (Ev.pos (by omega) (Ev.pos (by omega) (Ev.known (fun _ => s2) (Ev.pos rfl (Ev.neg (by omega) e2)))))
        · by_cases he : i = j
          · subst he; exact ⟨hs, fun h => by omega⟩
          · exact hb h j hj (by omega)
      · obtain ⟨c, hc, hw⟩ := compareWords_ev l[i - 1] l[i]
        have e3 : Aside0 (wrap64 ((i : Int) - 1) = ((i - 1 : Nat) : Int)) := ⟨by rw [w64 (by omega) (by omega)]; omega⟩
        have l1 := wdLess_eq l[i - 1] l[i]
        refine ⟨wless l[i - 1] l[i] && b, Ev.succ ?_, Ev.succ ?_, fun h j hj hij => ?_⟩
        · simp only [spec_wdSet.l0, rdOf_nat l i h1, e3.out, rdOf_nat l (i - 1) (by omega), w1 (show 0 ≤ (i : Int) by omega) (show (i : Int) < 9223372036854775807 by omega)]
          refine Ev.pos (by omega) (Ev.pos (by omega) (Ev.pos (by omega) (Ev.bind s1 (Ev.pos rfl (Ev.pos (by omega) (Ev.pos (by omega) (Ev.pos (by omega) (Ev.known (fun _ => l1) (Ev.cases (fun h => ?_) (fun h => ?_))))))))))
          · rw [h, Bool.true_and]; exact e1
          · rw [Bool.eq_false_iff.mpr h, Bool.false_and]; exact Ev.now _
        · simp only [impl_isSet.l0, rdOf_nat l i h1, e3.out, rdOf_nat l (i - 1) (by omega), w1 (show 0 ≤ (i : Int) by omega) (show (i : Int) < 9223372036854775807 by omega)]
          refine Ev.pos (by omega) (Ev.pos (by omega) (Ev.pos (by omega) (Ev.known (fun _ => s2) (Ev.pos rfl (Ev.pos (by omega) (Ev.pos (by omega) (Ev.pos (by omega) (Ev.bind hc (Ev.cases (fun h => ?_) (fun h => ?_))))))))))
          · rw [hw, decide_eq_false (by omega)]; exact Ev.now _
          · rw [hw, decide_eq_true (by omega)]; exact e2
        · simp only [Bool.and_eq_true] at h
          by_cases he : i = j
          · subst he; exact ⟨hs, fun _ => h.1⟩
          · exact hb h.2 j hj (by omega)
/-- what a set is -/
structure IsSet (l : List ByteArray) : Prop where
  few : l.length ≤ 12
  each : SetUpto l 0
theorem isSet_same (l : List ByteArray) (hl : l.length ≤ 1048576) : ∃ b, Ev (fun k => spec_wdSet.f k l) b ∧ Ev (fun k => impl_isSet.f k l) b ∧ (b = true → IsSet l) := by
  obtain ⟨b, h1, h2, hb⟩ := set_l0 l hl l.length 0 (by omega)
  unfold spec_wdSet.f impl_isSet.f
  by_cases h12 : l.length ≤ 12
  · rw [decide_eq_true h12, Bool.and_true] at h2
    exact ⟨b, Ev.neg (by omega) h1, h2, fun h => ⟨h12, hb h⟩⟩
  · rw [decide_eq_false h12, Bool.and_false] at h2
    exact ⟨false, Ev.pos (by omega) (Ev.now _), h2, fun h => by cases h⟩
theorem IsSet.lt {l : List ByteArray} (h : IsSet l) : ∀ (j i : Nat) (hj : j < l.length) (hi : i < j), wless l[i] l[j] = true
  | 0, i, hj, hi => by omega
  | j + 1, i, hj, hi => by
    have h1 := (h.each (j + 1) hj (by omega)).2 (by omega)
    by_cases e : i = j
    · subst e; exact h1
    · exact wless_trans _ _ _ (h.lt j i (by omega) (by omega)) h1
theorem IsSet.short {l : List ByteArray} (h : IsSet l) (w : ByteArray) (hw : w ∈ l) : Pure.short w = true := by
  obtain ⟨i, hi, rfl⟩ := List.getElem_of_mem hw
  exact (h.each i hi (by omega)).1
theorem IsSet.size {l : List ByteArray} (h : IsSet l) (w : ByteArray) (hw : w ∈ l) : 1 ≤ w.size ∧ w.size ≤ 8 := by
  have := h.short w hw
  unfold Pure.short at this
  simp only [Bool.and_eq_true, decide_eq_true_eq] at this
  exact this.1

/-- a text's letters -/
abbrev ch (s : ByteArray) : List UInt8 := s.data.toList
theorem ch_length (s : ByteArray) : (ch s).length = s.size := Array.length_toList
theorem ch_extract (s : ByteArray) (a b : Nat) : ch (s.extract a b) = ((ch s).drop a).take (b - a) := by
  simp [ch, ByteArray.data_extract, Array.toList_extract, List.extract_eq_take_drop]
theorem ch_drop (s : ByteArray) (a : Nat) : ch (s.extract a s.size) = (ch s).drop a := by
  rw [ch_extract, List.take_of_length_le]; simp only [List.length_drop, ch_length]; omega
theorem begins_test (a w : ByteArray) (h : w.size ≤ a.size) : ((a.extract 0 w.size).toList == w.toList) = (ch w).isPrefixOf (ch a) := by
  rw [ByteArray.toList_eq, ByteArray.toList_eq]
  change (ch (a.extract 0 w.size) == ch w) = _
  rw [ch_extract, List.drop_zero, Nat.sub_zero, ← ch_length w, Bool.eq_iff_iff, beq_iff_eq, List.isPrefixOf_iff_prefix, List.prefix_iff_eq_take]
  exact eq_comm
theorem prefix_long (a w : ByteArray) (h : ¬ w.size ≤ a.size) : (ch w).isPrefixOf (ch a) = false := by
  rw [Bool.eq_false_iff]
  intro hp
  have := (List.isPrefixOf_iff_prefix.1 hp).length_le
  rw [ch_length, ch_length] at this
  exact h this
theorem toList_ch (s : ByteArray) : s.toList = ch s := ByteArray.toList_eq s
theorem chNe (l : List ByteArray) (hne : ∀ w ∈ l, 1 ≤ w.size) : ∀ t ∈ l.map ch, t ≠ [] := fun t ht => by
  obtain ⟨w, hw, rfl⟩ := List.mem_map.1 ht
  intro e; have := hne w hw; have := ch_length w; rw [e] at this; simp at this; omega

theorem wdBegins_eq (a w : ByteArray) : spec_wdBegins.f a w = some ((ch w).isPrefixOf (ch a)) := by
  unfold spec_wdBegins.f
  by_cases h : w.size ≤ a.size
  · rw [if_pos (by omega), if_pos (by omega), begins_test a w h]
  · rw [if_neg (by omega), prefix_long a w h]

/-- a loop from the first place to the last one, with what is so at each place -/
theorem Ev.loop {R : Type} (g : Nat → Nat → Option R) (n : Nat) (r : R) (hstep : ∀ i, i < n → Ev (g (i + 1)) r → Ev (g i) r) (hend : Ev (g n) r) : Ev (g 0) r := by
  have h : ∀ d i, i + d = n → Ev (g i) r := by
    intro d
    induction d with
    | zero => intro i hi; rw [show i = n by omega]; exact hend
    | succ d ih => intro i hi; exact hstep i (by omega) (ih (i + 1) (by omega))
  exact h n 0 (by omega)

/-- a text out of its letters -/
def bx (x : List UInt8) : ByteArray := ⟨x.toArray⟩
theorem ch_bx (x : List UInt8) : ch (bx x) = x := by simp [ch, bx]
theorem bx_ch (s : ByteArray) : bx (ch s) = s := by simp [ch, bx]
theorem ch_inj' {a b : ByteArray} (h : ch a = ch b) : a = b := ByteArray.ext (Array.toList_inj.1 h)
theorem map_ch_bx (l : List (List UInt8)) : (l.map bx).map ch = l := by simp [Function.comp_def, ch_bx]
theorem map_bx_ch (l : List ByteArray) : (l.map ch).map bx = l := by simp [Function.comp_def, bx_ch]
theorem bx_size (x : List UInt8) : (bx x).size = x.length := by rw [← ch_length, ch_bx]
/-- words in order, each once, as texts -/
def bas (M : List (List UInt8)) : List ByteArray := (ordL M).map bx
theorem ordL_congr {M N : List (List UInt8)} (h : ∀ x, x ∈ M ↔ x ∈ N) : ordL M = ordL N := rises_unique _ _ (ordL_rises M) (ordL_rises N) (fun x => by rw [mem_ordL, mem_ordL]; exact h x)
theorem bas_congr {M N : List (List UInt8)} (h : ∀ x, x ∈ M ↔ x ∈ N) : bas M = bas N := by unfold bas; rw [ordL_congr h]
theorem ch_bas (M : List (List UInt8)) : (bas M).map ch = ordL M := map_ch_bx _
theorem bas_of (r : List ByteArray) (M : List (List UInt8)) (hr : (r.map ch).Pairwise fun x y => wcmp x y < 0) (hm : ∀ x, x ∈ r.map ch ↔ x ∈ M) : r = bas M := by
  unfold bas
  rw [← rises_unique (r.map ch) (ordL M) hr (ordL_rises M) (fun x => by rw [hm, mem_ordL]), map_bx_ch]
theorem ordL_len (M : List (List UInt8)) : (ordL M).length ≤ M.length := by
  unfold ordL Lib.compact Lib.compactUpTo
  rw [List.length_map]
  refine Nat.le_trans (List.length_filter_le _ _) ?_
  rw [List.length_range, (sortW_perm M).length_eq]
  exact Nat.le_refl _
theorem bas_len (M : List (List UInt8)) : (bas M).length ≤ M.length := by unfold bas; rw [List.length_map]; exact ordL_len M
theorem ordL_ordL (M : List (List UInt8)) : ordL (ordL M) = ordL M := ordL_congr (fun x => mem_ordL M x)
theorem bas_nil : bas [] = [] := (bas_of [] [] (by simp) (by simp)).symm
theorem bas_one (x : List UInt8) : bas [x] = [bx x] := by
  symm
  exact bas_of _ _ (by simp) (by intro y; simp [ch_bx])
theorem ordL_nodup (M : List (List UInt8)) : (ordL M).Nodup := (ordL_rises M).imp fun {a b} h e => by rw [e, wcmp_self] at h; omega
theorem wless_wcmp (a b : ByteArray) : wless a b = decide (wcmp (ch a) (ch b) < 0) := by
  unfold wless wcmp
  rw [ch_length, ch_length, bytesLess_cmp]
  by_cases h1 : a.size < b.size
  · simp [h1]
  · by_cases h2 : b.size < a.size
    · simp [h1, h2, show ¬ a.size = b.size by omega]
    · simp [h1, show a.size = b.size by omega]
theorem ordered_eq (l : List ByteArray) (h : l.length ≤ 8796093021952) : impl_ordered.f l = some (bas (l.map ch)) := by
  unfold impl_ordered.f
  rw [if_pos h]; rfl

theorem wdPut_l0 (L : List ByteArray) (s : ByteArray) (hL : L.length ≤ 8796093000000) (hr : (L.map ch).Pairwise fun x y => wcmp x y < 0) : ∀ (d i : Nat), i + d = L.length → (∀ j (h : j < L.length), j < i → wcmp (ch L[j]) (ch s) < 0) → ∃ r, Ev (fun k => spec_wdPut.l0 k L s (i : Int)) r ∧ (r.map ch).Pairwise (fun x y => wcmp x y < 0) ∧ ∀ x, x ∈ r.map ch ↔ x ∈ L.map ch ++ [ch s] := by
  have fin : ∀ i, i ≤ L.length → (∀ j (h : j < L.length), j < i → wcmp (ch L[j]) (ch s) < 0) → (∀ j (h : j < L.length), i ≤ j → wcmp (ch s) (ch L[j]) < 0) → ((L.take i ++ [s] ++ L.drop i).map ch).Pairwise (fun x y => wcmp x y < 0) ∧ ∀ x, x ∈ (L.take i ++ [s] ++ L.drop i).map ch ↔ x ∈ L.map ch ++ [ch s] := by
    intro i hi h1 h2
    refine ⟨?_, fun x => ?_⟩
    · rw [List.map_append, List.map_append, List.map_cons, List.map_nil, List.pairwise_append, List.pairwise_append]
      refine ⟨⟨?_, by simp, ?_⟩, ?_, ?_⟩
      · rw [List.map_take]; exact hr.sublist (List.take_sublist _ _)
      · intro a ha b hb
        rw [List.mem_singleton] at hb
        subst hb
        obtain ⟨y, hy, rfl⟩ := List.mem_map.1 ha
        obtain ⟨j, hj, rfl⟩ := List.getElem_of_mem hy
        rw [List.length_take] at hj
        rw [List.getElem_take]
        exact h1 j (by omega) (by omega)
      · rw [List.map_drop]; exact hr.sublist (List.drop_sublist _ _)
      · intro a ha b hb
        obtain ⟨y, hy, rfl⟩ := List.mem_map.1 hb
        obtain ⟨j, hj, rfl⟩ := List.getElem_of_mem hy
        rw [List.length_drop] at hj
        rw [List.getElem_drop]
        have hb' := h2 (i + j) (by omega) (by omega)
        rcases List.mem_append.1 ha with ha | ha
        · obtain ⟨y, hy, rfl⟩ := List.mem_map.1 ha
          obtain ⟨j', hj', rfl⟩ := List.getElem_of_mem hy
          rw [List.length_take] at hj'
          rw [List.getElem_take]
          exact wcmp_trans _ _ _ (h1 j' (by omega) (by omega)) hb'
        · rw [List.mem_singleton] at ha
          subst ha
          exact hb'
    · have := List.take_append_drop i L
      constructor
      · intro hx
        obtain ⟨y, hy, rfl⟩ := List.mem_map.1 hx
        rcases List.mem_append.1 hy with hy | hy
        · rcases List.mem_append.1 hy with hy | hy
          · exact List.mem_append_left _ (List.mem_map.2 ⟨y, List.mem_of_mem_take hy, rfl⟩)
          · rw [List.mem_singleton] at hy; subst hy; exact List.mem_append_right _ (by simp)
        · exact List.mem_append_left _ (List.mem_map.2 ⟨y, List.mem_of_mem_drop hy, rfl⟩)
      · intro hx
        rcases List.mem_append.1 hx with hx | hx
        · obtain ⟨y, hy, rfl⟩ := List.mem_map.1 hx
          refine List.mem_map.2 ⟨y, ?_, rfl⟩
          rw [← this] at hy
          rcases List.mem_append.1 hy with hy | hy
          · exact List.mem_append_left _ (List.mem_append_left _ hy)
          · exact List.mem_append_right _ hy
        · rw [List.mem_singleton] at hx; subst hx
          exact List.mem_map.2 ⟨s, List.mem_append_left _ (List.mem_append_right _ (by simp)), rfl⟩
  intro d
  induction d with
  | zero =>
    intro i hd h1
    obtain ⟨p, q⟩ := fin i (by omega) h1 (fun j hj h => by omega)
    refine ⟨_, Ev.succ ?_, p, q⟩
    simp only [spec_wdPut.l0, Int.toNat_natCast, Option.bind_some]
    exact Ev.neg (by omega) (Ev.pos (by omega) (Ev.pos (by omega) (Ev.pos (by simp; omega) (Ev.pos (by simp; omega) (Ev.pos (by simp; omega) (Ev.pure (by simp)))))))
  | succ d ih =>
    intro i hd h1
    have hi : i < L.length := by omega
    have hw := wless_wcmp L[i] s
    by_cases hl : wcmp (ch L[i]) (ch s) < 0
    · obtain ⟨r, r1, r2, r3⟩ := ih (i + 1) (by omega) (fun j hj h => by
        by_cases e : j = i
        · subst e; exact hl
        · exact h1 j hj (by omega))
      refine ⟨r, Ev.succ ?_, r2, r3⟩
      simp only [spec_wdPut.l0, rdOf_nat L i hi, w1 (show 0 ≤ (i : Int) by omega) (show (i : Int) < 9223372036854775807 by omega)]
      exact Ev.pos (by omega) (Ev.pos (by omega) (Ev.known (fun _ => wdLess_eq _ _) (Ev.pos (by rw [hw]; simpa using hl) r1)))
    · by_cases he : ch L[i] = ch s
      · refine ⟨L, Ev.succ ?_, hr, fun x => ?_⟩
        · simp only [spec_wdPut.l0, rdOf_nat L i hi, toList_ch]
          exact Ev.pos (by omega) (Ev.pos (by omega) (Ev.known (fun _ => wdLess_eq _ _) (Ev.neg (by rw [hw]; simpa using hl) (Ev.pos he (Ev.now _)))))
        · rw [List.mem_append, List.mem_singleton]
          constructor
          · exact Or.inl
          · rintro (h | rfl)
            · exact h
            · exact List.mem_map.2 ⟨L[i], List.getElem_mem hi, he⟩
      · have hgt : wcmp (ch s) (ch L[i]) < 0 := by
          have := wcmp_anti (ch L[i]) (ch s)
          have h0 : wcmp (ch L[i]) (ch s) ≠ 0 := fun h => he (wcmp_zero _ _ h)
          omega
        obtain ⟨p, q⟩ := fin i (by omega) h1 (fun j hj h => by
          by_cases e : j = i
          · subst e; exact hgt
          · have := List.pairwise_iff_getElem.1 hr i j (by simpa using hi) (by simpa using hj) (by omega)
            rw [List.getElem_map, List.getElem_map] at this
            exact wcmp_trans _ _ _ hgt this)
        refine ⟨_, Ev.succ ?_, p, q⟩
        simp only [spec_wdPut.l0, rdOf_nat L i hi, toList_ch, Int.toNat_natCast, Option.bind_some]
        exact Ev.pos (by omega) (Ev.pos (by omega) (Ev.known (fun _ => wdLess_eq _ _) (Ev.neg (by rw [hw]; simpa using hl) (Ev.neg he (Ev.pos (by omega) (Ev.pos (by simp; omega) (Ev.pos (by simp; omega) (Ev.pos (by simp; omega) (Ev.pure (by simp))))))))))
theorem wdPut_ev (M : List (List UInt8)) (s : ByteArray) (hM : M.length ≤ 8796093000000) : Ev (fun k => spec_wdPut.f k (bas M) s) (bas (M ++ [ch s])) := by
  have hl := bas_len M
  obtain ⟨r, r1, r2, r3⟩ := wdPut_l0 (bas M) s (by omega) (by rw [ch_bas]; exact ordL_rises M) (bas M).length 0 (by omega) (fun j _ h => by omega)
  rw [← bas_of r (M ++ [ch s]) r2 (fun x => by rw [r3, ch_bas, List.mem_append, List.mem_append, mem_ordL])]
  exact r1

/-- what is left if words are put behind each other until they begin with a text -/
def cov (W : List (List UInt8)) (s : List UInt8) : List (List UInt8) :=
  W.flatMap fun t => if s.isPrefixOf t then [t.drop s.length] else if h : t ≠ [] ∧ t.isPrefixOf s = true then cov W (s.drop t.length) else []
termination_by s.length
decreasing_by
  have h1 : t.length ≠ 0 := by intro e; exact h.1 (List.eq_nil_of_length_eq_zero e)
  have h2 : t.length ≤ s.length := (List.isPrefixOf_iff_prefix.1 h.2).length_le
  simp only [List.length_drop]
  omega
/-- what one word adds -/
def covT (W : List (List UInt8)) (s t : List UInt8) : List (List UInt8) := if s.isPrefixOf t then [t.drop s.length] else if t ≠ [] ∧ t.isPrefixOf s = true then cov W (s.drop t.length) else []
theorem cov_eq (W : List (List UInt8)) (s : List UInt8) : cov W s = W.flatMap (covT W s) := by
  rw [cov]
  rfl
/-- all ends of words -/
def sufs (W : List (List UInt8)) : List (List UInt8) := W.flatMap fun t => (List.range 9).map fun a => t.drop a
theorem mem_sufs {W : List (List UInt8)} (h8 : ∀ t ∈ W, t.length ≤ 8) {t : List UInt8} (ht : t ∈ W) (a : Nat) : t.drop a ∈ sufs W := by
  refine List.mem_flatMap.2 ⟨t, ht, List.mem_map.2 ⟨min a 8, by simp; omega, ?_⟩⟩
  have := h8 t ht
  by_cases h : a ≤ 8
  · rw [Nat.min_eq_left h]
  · rw [Nat.min_eq_right (by omega), List.drop_of_length_le (by omega), List.drop_of_length_le (by omega)]
theorem sufs_drop {W : List (List UInt8)} (h8 : ∀ t ∈ W, t.length ≤ 8) {x : List UInt8} (hx : x ∈ sufs W) (a : Nat) : x.drop a ∈ sufs W := by
  obtain ⟨t, ht, hx⟩ := List.mem_flatMap.1 hx
  obtain ⟨b, -, rfl⟩ := List.mem_map.1 hx
  rw [List.drop_drop]
  exact mem_sufs h8 ht _
theorem sufs_small {W : List (List UInt8)} (h8 : ∀ t ∈ W, t.length ≤ 8) {x : List UInt8} (hx : x ∈ sufs W) : x.length ≤ 8 := by
  obtain ⟨t, ht, hx⟩ := List.mem_flatMap.1 hx
  obtain ⟨b, -, rfl⟩ := List.mem_map.1 hx
  have := h8 t ht
  simp; omega
theorem flatMap_len {α β : Type} (f : α → List β) (c : Nat) : ∀ l : List α, (∀ x ∈ l, (f x).length ≤ c) → (l.flatMap f).length ≤ l.length * c
  | [], _ => by simp
  | x :: l, h => by
    have h1 := h x (by simp)
    have h2 := flatMap_len f c l (fun y hy => h y (by simp [hy]))
    rw [List.flatMap_cons, List.length_append, List.length_cons, Nat.succ_mul]
    omega
theorem sufs_len (W : List (List UInt8)) : (sufs W).length ≤ W.length * 9 := flatMap_len _ 9 W (fun t _ => by simp)
theorem cov_len (W : List (List UInt8)) (hW : W.length ≤ 12) : ∀ (n : Nat) (s : List UInt8), s.length = n → (cov W s).length ≤ 12 ^ (n + 1) := by
  intro n
  induction n using Nat.strongRecOn with
  | _ n ih =>
    intro s hs
    rw [cov_eq]
    have h1 : ∀ t ∈ W, (covT W s t).length ≤ 12 ^ n := by
      intro t _
      have hp : 1 ≤ 12 ^ n := Nat.one_le_pow _ _ (by omega)
      unfold covT
      split
      · simpa using hp
      · split
        · rename_i h
          have h1 : 0 < t.length := List.length_pos_iff.2 h.1
          have h2 : t.length ≤ s.length := (List.isPrefixOf_iff_prefix.1 h.2).length_le
          refine Nat.le_trans (ih (s.drop t.length).length (by simp only [List.length_drop]; omega) _ rfl) (Nat.pow_le_pow_right (by omega) ?_)
          simp only [List.length_drop]; omega
        · simp
    have h2 := flatMap_len (covT W s) (12 ^ n) W h1
    rw [Nat.pow_succ]
    exact Nat.le_trans h2 (by rw [Nat.mul_comm]; exact Nat.mul_le_mul_left _ hW)
theorem cov_mem (W : List (List UInt8)) (h8 : ∀ t ∈ W, t.length ≤ 8) : ∀ (n : Nat) (s : List UInt8), s.length = n → ∀ x ∈ cov W s, x ∈ sufs W := by
  intro n
  induction n using Nat.strongRecOn with
  | _ n ih =>
    intro s hs x hx
    rw [cov_eq] at hx
    obtain ⟨t, ht, hx⟩ := List.mem_flatMap.1 hx
    unfold covT at hx
    split at hx
    · rw [List.mem_singleton] at hx; subst hx; exact mem_sufs h8 ht _
    · split at hx
      · rename_i h
        have h1 : 0 < t.length := List.length_pos_iff.2 h.1
        have h2 : t.length ≤ s.length := (List.isPrefixOf_iff_prefix.1 h.2).length_le
        exact ih (s.drop t.length).length (by simp only [List.length_drop]; omega) _ rfl x hx
      · cases hx
/-- what is left behind a word that is put on the first side -/
def beh (W : List (List UInt8)) (w left : List UInt8) : List (List UInt8) := if w.isPrefixOf left then [left.drop w.length] else if left.isPrefixOf w then cov W (w.drop left.length) else []
theorem beh_mem (W : List (List UInt8)) (h8 : ∀ t ∈ W, t.length ≤ 8) (w left : List UInt8) (hl : left ∈ sufs W) : ∀ x ∈ beh W w left, x ∈ sufs W := by
  intro x hx
  unfold beh at hx
  split at hx
  · rw [List.mem_singleton] at hx; subst hx; exact sufs_drop h8 hl _
  · split at hx
    · exact cov_mem W h8 _ _ rfl x hx
    · cases hx
theorem beh_len (W : List (List UInt8)) (hW : W.length ≤ 12) (w left : List UInt8) (hw : w.length ≤ 8) : (beh W w left).length ≤ 5159780352 := by
  unfold beh
  split
  · simp
  · split
    · refine Nat.le_trans (cov_len W hW _ _ rfl) (Nat.le_trans (Nat.pow_le_pow_right (by omega) (show (w.drop left.length).length + 1 ≤ 9 by simp; omega)) (by decide))
    · simp
/-- the rests one word later -/
def nxt (W R : List (List UInt8)) : List (List UInt8) := R.flatMap fun r => W.flatMap fun w => beh W w r
theorem nxt_mem (W : List (List UInt8)) (h8 : ∀ t ∈ W, t.length ≤ 8) (R : List (List UInt8)) (hR : ∀ x ∈ R, x ∈ sufs W) : ∀ x ∈ nxt W R, x ∈ sufs W := by
  intro x hx
  obtain ⟨r, hr, hx⟩ := List.mem_flatMap.1 hx
  obtain ⟨w, hw, hx⟩ := List.mem_flatMap.1 hx
  exact beh_mem W h8 w r (hR r hr) x hx
theorem nodup_le' {α : Type} [DecidableEq α] : ∀ (M N : List α), M.Nodup → M ⊆ N → M.length ≤ N.length
  | [], _, _, _ => Nat.zero_le _
  | x :: M, N, hn, hs => by
    have hx : x ∈ N := hs (by simp)
    have hn' := List.nodup_cons.1 hn
    have := nodup_le' M (N.erase x) hn'.2 (fun y hy => (List.mem_erase_of_ne (by rintro rfl; exact hn'.1 hy)).2 (hs (by simp [hy])))
    have h1 := List.length_erase_of_mem hx
    have h2 := List.length_pos_of_mem hx
    simp only [List.length_cons]
    omega
theorem ord_few (W : List (List UInt8)) (hW : W.length ≤ 12) (M : List (List UInt8)) (hM : ∀ x ∈ M, x ∈ sufs W) : (ordL M).length ≤ 108 := by
  have h1 := nodup_le' (ordL M) (sufs W) (ordL_nodup M) (fun x hx => hM x ((mem_ordL M x).1 hx))
  have h2 := sufs_len W
  omega
theorem nxt_len (W : List (List UInt8)) (hW : W.length ≤ 12) (h8 : ∀ t ∈ W, t.length ≤ 8) (R : List (List UInt8)) (hR : R.length ≤ 108) : (nxt W R).length ≤ 6687075336192 := by
  have h1 : ∀ r ∈ R, (W.flatMap fun w => beh W w r).length ≤ 61917364224 := fun r _ => by
    refine Nat.le_trans (flatMap_len _ 5159780352 W (fun w hw => beh_len W hW w r (h8 w hw))) ?_
    omega
  refine Nat.le_trans (flatMap_len _ 61917364224 R h1) ?_
  omega

theorem slHasPrefix_eq (a w : ByteArray) : stringslite_HasPrefix.f a w = some ((ch w).isPrefixOf (ch a)) := by
  unfold stringslite_HasPrefix.f
  by_cases h : w.size ≤ a.size
  · rw [if_pos (by omega), if_pos (by omega), if_pos (by omega), begins_test a w h]
  · rw [if_neg (by omega), prefix_long a w h]
theorem cutPrefix_eq (a w : ByteArray) : strings_CutPrefix.f a w = some (if (ch w).isPrefixOf (ch a) then (bx ((ch a).drop w.size), true) else (a, false)) := by
  unfold strings_CutPrefix.f stringslite_CutPrefix.f
  rw [slHasPrefix_eq]
  cases hp : (ch w).isPrefixOf (ch a)
  · simp
  · have hle := (List.isPrefixOf_iff_prefix.1 hp).length_le
    rw [ch_length, ch_length] at hle
    have : a.extract w.size a.size = bx ((ch a).drop w.size) := by rw [← ch_drop, bx_ch]
    simp [hle, this]
theorem impl_cover_ev (l : List ByteArray) (hl : l.length ≤ 12) (hne : ∀ w ∈ l, 1 ≤ w.size) (h8 : ∀ w ∈ l, w.size ≤ 8) : ∀ (n : Nat) (f : ByteArray), f.size = n → n ≤ 8 → 1 ≤ n → Ev (fun k => impl_cover.f k l f) ((cov (l.map ch) (ch f)).map bx) := by
  intro n
  induction n using Nat.strongRecOn with
  | _ n ih =>
    intro f hf hn8 hn1
    have hW : (l.map ch).length ≤ 12 := by simpa using hl
    have hbound : ∀ i, (((l.map ch).take i).flatMap (covT (l.map ch) (ch f))).length ≤ 5159780352 := fun i => by
      refine Nat.le_trans ?_ (show (cov (l.map ch) (ch f)).length ≤ 5159780352 from Nat.le_trans (cov_len _ hW _ _ rfl) (Nat.le_trans (Nat.pow_le_pow_right (by omega) (show (ch f).length + 1 ≤ 9 by rw [ch_length]; omega)) (by decide)))
      rw [cov_eq, ← List.take_append_drop i (l.map ch), List.flatMap_append, List.length_append, List.take_append_drop]
      omega
    refine Ev.succ ?_
    simp only [impl_cover.f]
    refine Ev.loop (fun i k => impl_cover.l0 k l f ((((l.map ch).take i).flatMap (covT (l.map ch) (ch f))).map bx) l (l.length : Int) (i : Int)) l.length _ (fun i hi hnext => ?_) ?_
    · have hb := hbound i
      have hb' := hbound (i + 1)
      have hi' : i < (l.map ch).length := by simpa using hi
      rw [List.take_succ_eq_append_getElem hi', List.flatMap_append, List.flatMap_cons, List.flatMap_nil, List.append_nil, List.map_append, List.getElem_map] at hnext
      rw [List.take_succ_eq_append_getElem hi', List.flatMap_append, List.flatMap_cons, List.flatMap_nil, List.append_nil, List.length_append, List.getElem_map] at hb'
      have hw1 := hne l[i] (List.getElem_mem hi)
      refine Ev.succ ?_
      simp only [impl_cover.l0, rdOf_nat l i hi, w1 (show 0 ≤ (i : Int) by omega) (show (i : Int) < 9223372036854775807 by omega)]
      refine Ev.pos (by omega) (Ev.pos (by omega) (Ev.pos (by omega) (Ev.known (fun _ => cutPrefix_eq _ _) ?_)))
      by_cases hp : (ch f).isPrefixOf (ch l[i]) = true
      · have e : covT (l.map ch) (ch f) (ch l[i]) = [(ch l[i]).drop f.size] := by unfold covT; rw [if_pos hp, ch_length]
        rw [e] at hnext hb'
        simp only [if_pos hp]
        exact Ev.pos (by simp) (Ev.pos (by simpa using (by omega : (((l.map ch).take i).flatMap (covT (l.map ch) (ch f))).length < 8796093022208)) hnext)
      · simp only [if_neg hp]
        refine Ev.neg (by simp) (Ev.known (fun _ => cutPrefix_eq _ _) ?_)
        by_cases hq : (ch l[i]).isPrefixOf (ch f) = true
        · have hle := (List.isPrefixOf_iff_prefix.1 hq).length_le
          rw [ch_length, ch_length] at hle
          have hlt : l[i].size < f.size := by
            rcases Nat.lt_or_ge l[i].size f.size with h | h
            · exact h
            · exfalso
              have e := (List.isPrefixOf_iff_prefix.1 hq).eq_of_length (by rw [ch_length, ch_length]; omega)
              exact hp (by rw [e]; exact List.isPrefixOf_iff_prefix.2 (List.prefix_refl _))
          have e : covT (l.map ch) (ch f) (ch l[i]) = cov (l.map ch) ((ch f).drop l[i].size) := by
            unfold covT
            rw [if_neg hp, if_pos ⟨fun e => by have := ch_length l[i]; rw [e] at this; simp at this; omega, hq⟩, ch_length]
          rw [e] at hnext hb'
          simp only [if_pos hq]
          have hrec := ih (f.size - l[i].size) (by omega) (bx ((ch f).drop l[i].size)) (by rw [bx_size, List.length_drop, ch_length]) (by omega) (by omega)
          rw [ch_bx] at hrec
          exact Ev.pos (by simp) (Ev.bind hrec (Ev.pos (by simp only [List.length_map]; omega) hnext))
        · have e : covT (l.map ch) (ch f) (ch l[i]) = [] := by
            unfold covT
            rw [if_neg hp, if_neg (fun h => hq h.2)]
          rw [e] at hnext
          simp only [if_neg hq]
          refine Ev.neg (by simp) ?_
          simpa using hnext
    · refine Ev.succ ?_
      simp only [impl_cover.l0]
      exact Ev.neg (by omega) (Ev.pure (by rw [List.take_of_length_le (by simp), cov_eq]))
theorem impl_behind_ev (l : List ByteArray) (hl : l.length ≤ 12) (hne : ∀ w ∈ l, 1 ≤ w.size) (h8 : ∀ w ∈ l, w.size ≤ 8) (w left : ByteArray) (hw : w.size ≤ 8) : Ev (fun k => impl_behind.f k l w left) ((beh (l.map ch) (ch w) (ch left)).map bx) := by
  unfold impl_behind.f beh
  refine Ev.known (fun _ => cutPrefix_eq _ _) ?_
  by_cases hp : (ch w).isPrefixOf (ch left) = true
  · simp only [if_pos hp]
    exact Ev.pos (by simp) (Ev.pure (by simp [ch_length]))
  · simp only [if_neg hp]
    refine Ev.neg (by simp) (Ev.known (fun _ => cutPrefix_eq _ _) ?_)
    by_cases hq : (ch left).isPrefixOf (ch w) = true
    · have hle := (List.isPrefixOf_iff_prefix.1 hq).length_le
      rw [ch_length, ch_length] at hle
      have hlt : left.size < w.size := by
        rcases Nat.lt_or_ge left.size w.size with h | h
        · exact h
        · exfalso
          have e := (List.isPrefixOf_iff_prefix.1 hq).eq_of_length (by rw [ch_length, ch_length]; omega)
          exact hp (by rw [e]; exact List.isPrefixOf_iff_prefix.2 (List.prefix_refl _))
      simp only [if_pos hq]
      have hrec := impl_cover_ev l hl hne h8 (w.size - left.size) (bx ((ch w).drop left.size)) (by rw [bx_size, List.length_drop, ch_length]) (by omega) (by omega)
      rw [ch_bx] at hrec
      exact Ev.pos (by simp) (Ev.bind hrec (Ev.pure (by rw [ch_length])))
    · simp only [if_neg hq]
      exact Ev.neg (by simp) (Ev.now _)
theorem impl_nextRests_ev (l : List ByteArray) (hl : l.length ≤ 12) (hne : ∀ w ∈ l, 1 ≤ w.size) (h8 : ∀ w ∈ l, w.size ≤ 8) (R : List ByteArray) (hR : R.length ≤ 108) : Ev (fun k => impl_nextRests.f k l R) (bas (nxt (l.map ch) (R.map ch))) := by
  have hW : (l.map ch).length ≤ 12 := by simpa using hl
  have h8' : ∀ t ∈ l.map ch, t.length ≤ 8 := fun t ht => by obtain ⟨w, hw, rfl⟩ := List.mem_map.1 ht; rw [ch_length]; exact h8 w hw
  have hin : ∀ (r : List UInt8) (j : Nat), (((l.map ch).take j).flatMap fun w => beh (l.map ch) w r).length ≤ 61917364224 := fun r j => by
    refine Nat.le_trans (flatMap_len _ 5159780352 _ (fun w hw => beh_len _ hW w r (h8' w (List.mem_of_mem_take hw)))) ?_
    have : ((l.map ch).take j).length ≤ 12 := Nat.le_trans (List.length_take_le' _ _) hW
    omega
  have hout : ∀ i, (nxt (l.map ch) ((R.map ch).take i)).length ≤ 6687075336192 := fun i => nxt_len _ hW h8' _ (Nat.le_trans (List.length_take_le' _ _) (by simpa using hR))
  unfold impl_nextRests.f
  refine Ev.loop (fun i k => impl_nextRests.l0 k l ((nxt (l.map ch) ((R.map ch).take i)).map bx) R (R.length : Int) (i : Int)) R.length _ (fun i hi hnext => ?_) ?_
  · have hb := hout i
    have hi' : i < (R.map ch).length := by simpa using hi
    rw [List.take_succ_eq_append_getElem hi'] at hnext
    unfold nxt at hnext hb ⊢
    rw [List.flatMap_append, List.flatMap_cons, List.flatMap_nil, List.append_nil, List.getElem_map] at hnext
    refine Ev.succ ?_
    simp only [impl_nextRests.l0, rdOf_nat R i hi]
    refine Ev.pos (by omega) (Ev.pos (by omega) (Ev.pos (by omega) ?_))
    refine Ev.loop (fun j k => impl_nextRests.l1 k l (((((R.map ch).take i).flatMap fun r => (l.map ch).flatMap fun w => beh (l.map ch) w r) ++ (((l.map ch).take j).flatMap fun w => beh (l.map ch) w (ch R[i]))).map bx) R[i] R (R.length : Int) (i : Int) l (l.length : Int) (j : Int)) l.length _ (fun j hj hnext => ?_) ?_ |> fun h => by simpa using h
    · have hc := hin (ch R[i]) j
      have hc' := hin (ch R[i]) (j + 1)
      have hj' : j < (l.map ch).length := by simpa using hj
      rw [List.take_succ_eq_append_getElem hj', List.flatMap_append, List.flatMap_cons, List.flatMap_nil, List.append_nil, List.getElem_map, ← List.append_assoc, List.map_append] at hnext
      rw [List.take_succ_eq_append_getElem hj', List.flatMap_append, List.flatMap_cons, List.flatMap_nil, List.append_nil, List.getElem_map, List.length_append] at hc'
      refine Ev.succ ?_
      simp only [impl_nextRests.l1, rdOf_nat l j hj, w1 (show 0 ≤ (j : Int) by omega) (show (j : Int) < 9223372036854775807 by omega)]
      exact Ev.pos (by omega) (Ev.pos (by omega) (Ev.pos (by omega) (Ev.bind (impl_behind_ev l hl hne h8 l[j] R[i] (h8 _ (List.getElem_mem hj))) (Ev.pos (by simp only [List.length_map, List.length_append]; omega) hnext))))
    · refine Ev.succ ?_
      simp only [impl_nextRests.l1, w1 (show 0 ≤ (i : Int) by omega) (show (i : Int) < 9223372036854775807 by omega)]
      refine Ev.neg (by omega) ?_
      rw [List.take_of_length_le (l := l.map ch) (by simp)]
      exact hnext
  · have hb := hout R.length
    refine Ev.succ ?_
    simp only [impl_nextRests.l0]
    refine Ev.neg (by omega) ?_
    rw [List.take_of_length_le (by simp)] at hb ⊢
    refine Ev.known (fun _ => ordered_eq _ (by simp only [List.length_map]; omega)) (Ev.pure ?_)
    rw [map_ch_bx]

/-- words put one by one into what is in order -/
theorem chB_at (M : List (List UInt8)) (i : Nat) (h : i < (bas M).length) : ch (bas M)[i] = (ordL M)[i]'(by unfold bas at h; simpa using h) := by
  have e : (bas M)[i] = bx ((ordL M)[i]'(by unfold bas at h; simpa using h)) := by simp [bas]
  rw [e, ch_bx]
theorem mem_take_succ_ord (N M : List (List UInt8)) (i : Nat) (h : i < (ordL M).length) : bas (N ++ (ordL M).take i ++ [(ordL M)[i]]) = bas (N ++ (ordL M).take (i + 1)) := by
  rw [List.take_succ_eq_append_getElem h, List.append_assoc]
theorem bas_all (N M : List (List UInt8)) : bas (N ++ (ordL M).take (ordL M).length) = bas (N ++ M) := by
  rw [List.take_length]
  exact bas_congr (fun x => by rw [List.mem_append, List.mem_append, mem_ordL])
theorem spec_dlCover_ev (l : List ByteArray) (hl : l.length ≤ 12) (hne : ∀ w ∈ l, 1 ≤ w.size) (h8 : ∀ w ∈ l, w.size ≤ 8) : ∀ (n : Nat) (f : ByteArray), f.size = n → n ≤ 8 → 1 ≤ n → Ev (fun k => spec_dlCover.f k l f) (bas (cov (l.map ch) (ch f))) := by
  intro n
  induction n using Nat.strongRecOn with
  | _ n ih =>
    intro f hf hn8 hn1
    have hW : (l.map ch).length ≤ 12 := by simpa using hl
    have hbound : ∀ i, (((l.map ch).take i).flatMap (covT (l.map ch) (ch f))).length ≤ 5159780352 := fun i => by
      refine Nat.le_trans ?_ (show (cov (l.map ch) (ch f)).length ≤ 5159780352 from Nat.le_trans (cov_len _ hW _ _ rfl) (Nat.le_trans (Nat.pow_le_pow_right (by omega) (show (ch f).length + 1 ≤ 9 by rw [ch_length]; omega)) (by decide)))
      rw [cov_eq, ← List.take_append_drop i (l.map ch), List.flatMap_append, List.length_append, List.take_append_drop]
      omega
    refine Ev.succ ?_
    simp only [spec_dlCover.f]
    refine Ev.neg (by rw [toList_ch]; intro e; have := ch_length f; rw [e] at this; simp at this; omega) ?_
    have start : ([] : List ByteArray) = bas (((l.map ch).take 0).flatMap (covT (l.map ch) (ch f))) := by rw [List.take_zero, List.flatMap_nil, bas_nil]
    rw [start]
    refine Ev.loop (fun i k => spec_dlCover.l0 k l f (bas (((l.map ch).take i).flatMap (covT (l.map ch) (ch f)))) l (l.length : Int) (i : Int)) l.length _ (fun i hi hnext => ?_) ?_
    · have hb := hbound i
      have hb' := hbound (i + 1)
      have hi' : i < (l.map ch).length := by simpa using hi
      rw [List.take_succ_eq_append_getElem hi', List.flatMap_append, List.flatMap_cons, List.flatMap_nil, List.append_nil, List.getElem_map] at hnext
      rw [List.take_succ_eq_append_getElem hi', List.flatMap_append, List.flatMap_cons, List.flatMap_nil, List.append_nil, List.length_append, List.getElem_map] at hb'
      have hw1 := hne l[i] (List.getElem_mem hi)
      obtain ⟨N, hN⟩ : ∃ N, N = ((l.map ch).take i).flatMap (covT (l.map ch) (ch f)) := ⟨_, rfl⟩
      rw [← hN] at hb hb' hnext ⊢
      refine Ev.succ ?_
      simp only [spec_dlCover.l0, rdOf_nat l i hi, Int.toNat_natCast, w1 (show 0 ≤ (i : Int) by omega) (show (i : Int) < 9223372036854775807 by omega)]
      refine Ev.pos (by omega) (Ev.pos (by omega) (Ev.pos (by omega) (Ev.known (fun _ => wdBegins_eq _ _) (Ev.cases (fun hp => ?_) (fun hp => Ev.known (fun _ => wdBegins_eq _ _) (Ev.cases (fun hq => ?_) (fun hq => ?_)))))))
      · have hle := (List.isPrefixOf_iff_prefix.1 hp).length_le
        rw [ch_length, ch_length] at hle
        have e : covT (l.map ch) (ch f) (ch l[i]) = [(ch l[i]).drop f.size] := by unfold covT; rw [if_pos hp, ch_length]
        rw [e] at hnext
        have hput := wdPut_ev N (l[i].extract f.size l[i].size) (by omega)
        rw [ch_drop] at hput
        exact Ev.pos (by omega) (Ev.pos (by omega) (Ev.bind hput hnext))
      · have hle := (List.isPrefixOf_iff_prefix.1 hq).length_le
        rw [ch_length, ch_length] at hle
        have hlt : l[i].size < f.size := by
          rcases Nat.lt_or_ge l[i].size f.size with h | h
          · exact h
          · exfalso
            have e := (List.isPrefixOf_iff_prefix.1 hq).eq_of_length (by rw [ch_length, ch_length]; omega)
            exact hp (by rw [e]; exact List.isPrefixOf_iff_prefix.2 (List.prefix_refl _))
        have e : covT (l.map ch) (ch f) (ch l[i]) = cov (l.map ch) ((ch f).drop l[i].size) := by
          unfold covT
          rw [if_neg hp, if_pos ⟨fun e => by have := ch_length l[i]; rw [e] at this; simp at this; omega, hq⟩, ch_length]
        rw [e] at hnext hb'
        have hrec := ih (f.size - l[i].size) (by omega) (f.extract l[i].size f.size) (by simp) (by omega) (by omega)
        rw [ch_drop] at hrec
        obtain ⟨M, hM⟩ : ∃ M, M = cov (l.map ch) ((ch f).drop l[i].size) := ⟨_, rfl⟩
        rw [← hM] at hrec hnext hb'
        have hlen : (bas M).length = (ordL M).length := by unfold bas; simp
        have hole := ordL_len M
        refine Ev.pos (by omega) (Ev.pos (by omega) (Ev.bind hrec ?_))
        have s0 : bas N = bas (N ++ (ordL M).take 0) := by rw [List.take_zero, List.append_nil]
        rw [s0]
        refine Ev.loop (fun j k => spec_dlCover.l1 k l f (bas (N ++ (ordL M).take j)) l (l.length : Int) (i : Int) (bas M) ((bas M).length : Int) (j : Int)) (bas M).length _ (fun j hj hnext => ?_) ?_
        · have hj' : j < (ordL M).length := by omega
          refine Ev.succ ?_
          simp only [spec_dlCover.l1, rdOf_nat (bas M) j hj, w1 (show 0 ≤ (j : Int) by omega) (show (j : Int) < 9223372036854775807 by omega)]
          have hput := wdPut_ev (N ++ (ordL M).take j) (bas M)[j] (by rw [List.length_append, List.length_take]; omega)
          rw [chB_at M j hj, mem_take_succ_ord N M j hj'] at hput
          exact Ev.pos (by omega) (Ev.pos (by omega) (Ev.pos (by omega) (Ev.bind hput hnext)))
        · refine Ev.succ ?_
          simp only [spec_dlCover.l1, w1 (show 0 ≤ (i : Int) by omega) (show (i : Int) < 9223372036854775807 by omega)]
          refine Ev.neg (by omega) ?_
          rw [hlen, bas_all]
          exact hnext
      · have e : covT (l.map ch) (ch f) (ch l[i]) = [] := by
          unfold covT
          rw [if_neg hp, if_neg (fun h => hq h.2)]
        rw [e, List.append_nil] at hnext
        exact hnext
    · refine Ev.succ ?_
      simp only [spec_dlCover.l0]
      exact Ev.neg (by omega) (Ev.pure (by rw [List.take_of_length_le (by simp), cov_eq]))
theorem spec_dlBegin_ev (l : List ByteArray) (hl : l.length ≤ 12) (hne : ∀ w ∈ l, 1 ≤ w.size) (h8 : ∀ w ∈ l, w.size ≤ 8) (s t : ByteArray) (hs : s.size ≤ 8) : Ev (fun k => spec_dlBegin.f k l s t) (bas (beh (l.map ch) (ch s) (ch t))) := by
  unfold spec_dlBegin.f beh
  refine Ev.known (fun _ => wdBegins_eq _ _) (Ev.cases (fun hp => ?_) (fun hp => Ev.known (fun _ => wdBegins_eq _ _) (Ev.cases (fun hq => ?_) (fun hq => ?_))))
  · have hle := (List.isPrefixOf_iff_prefix.1 hp).length_le
    rw [ch_length, ch_length] at hle
    rw [if_pos hp]
    exact Ev.pos (by omega) (Ev.pos (by omega) (Ev.pure (by rw [bas_one, ch_length, ← ch_drop, bx_ch])))
  · have hle := (List.isPrefixOf_iff_prefix.1 hq).length_le
    rw [ch_length, ch_length] at hle
    have hlt : t.size < s.size := by
      rcases Nat.lt_or_ge t.size s.size with h | h
      · exact h
      · exfalso
        have e := (List.isPrefixOf_iff_prefix.1 hq).eq_of_length (by rw [ch_length, ch_length]; omega)
        exact hp (by rw [e]; exact List.isPrefixOf_iff_prefix.2 (List.prefix_refl _))
    rw [if_neg hp, if_pos hq]
    have hrec := spec_dlCover_ev l hl hne h8 (s.size - t.size) (s.extract t.size s.size) (by simp) (by omega) (by omega)
    rw [ch_drop] at hrec
    exact Ev.pos (by omega) (Ev.pos (by omega) (Ev.bind hrec (Ev.pure (by rw [ch_length]))))
  · rw [if_neg hp, if_neg hq, bas_nil]
    exact Ev.now _
theorem spec_dlNext_ev (l : List ByteArray) (hl : l.length ≤ 12) (hne : ∀ w ∈ l, 1 ≤ w.size) (h8 : ∀ w ∈ l, w.size ≤ 8) (R : List ByteArray) (hR : R.length ≤ 108) : Ev (fun k => spec_dlNext.f k l R) (bas (nxt (l.map ch) (R.map ch))) := by
  have hW : (l.map ch).length ≤ 12 := by simpa using hl
  have h8' : ∀ t ∈ l.map ch, t.length ≤ 8 := fun t ht => by obtain ⟨w, hw, rfl⟩ := List.mem_map.1 ht; rw [ch_length]; exact h8 w hw
  have hin : ∀ (r : List UInt8) (j : Nat), (((l.map ch).take j).flatMap fun w => beh (l.map ch) w r).length ≤ 61917364224 := fun r j => by
    refine Nat.le_trans (flatMap_len _ 5159780352 _ (fun w hw => beh_len _ hW w r (h8' w (List.mem_of_mem_take hw)))) ?_
    have : ((l.map ch).take j).length ≤ 12 := Nat.le_trans (List.length_take_le' _ _) hW
    omega
  have hout : ∀ i, (nxt (l.map ch) ((R.map ch).take i)).length ≤ 6687075336192 := fun i => nxt_len _ hW h8' _ (Nat.le_trans (List.length_take_le' _ _) (by simpa using hR))
  unfold spec_dlNext.f
  have start : ([] : List ByteArray) = bas (nxt (l.map ch) ((R.map ch).take 0)) := by unfold nxt; rw [List.take_zero, List.flatMap_nil, bas_nil]
  rw [start]
  refine Ev.loop (fun i k => spec_dlNext.l0 k l (bas (nxt (l.map ch) ((R.map ch).take i))) R (R.length : Int) (i : Int)) R.length _ (fun i hi hnext => ?_) ?_
  · have hb := hout i
    have hi' : i < (R.map ch).length := by simpa using hi
    rw [List.take_succ_eq_append_getElem hi'] at hnext
    unfold nxt at hnext hb ⊢
    rw [List.flatMap_append, List.flatMap_cons, List.flatMap_nil, List.append_nil, List.getElem_map] at hnext
    obtain ⟨N, hN⟩ : ∃ N, N = ((R.map ch).take i).flatMap fun r => (l.map ch).flatMap fun w => beh (l.map ch) w r := ⟨_, rfl⟩
    rw [← hN] at hb hnext ⊢
    refine Ev.succ ?_
    simp only [spec_dlNext.l0, rdOf_nat R i hi]
    refine Ev.pos (by omega) (Ev.pos (by omega) (Ev.pos (by omega) ?_))
    have s0 : bas N = bas (N ++ ((l.map ch).take 0).flatMap fun w => beh (l.map ch) w (ch R[i])) := by rw [List.take_zero, List.flatMap_nil, List.append_nil]
    rw [s0]
    refine Ev.loop (fun j k => spec_dlNext.l1 k l (bas (N ++ ((l.map ch).take j).flatMap fun w => beh (l.map ch) w (ch R[i]))) R[i] R (R.length : Int) (i : Int) l (l.length : Int) (j : Int)) l.length _ (fun j hj hnext => ?_) ?_
    · have hc := hin (ch R[i]) j
      have hc' := hin (ch R[i]) (j + 1)
      have hj' : j < (l.map ch).length := by simpa using hj
      rw [List.take_succ_eq_append_getElem hj', List.flatMap_append, List.flatMap_cons, List.flatMap_nil, List.append_nil, List.getElem_map, ← List.append_assoc] at hnext
      rw [List.take_succ_eq_append_getElem hj', List.flatMap_append, List.flatMap_cons, List.flatMap_nil, List.append_nil, List.getElem_map, List.length_append] at hc'
      have hw8 := h8 _ (List.getElem_mem hj)
      obtain ⟨N', hN'⟩ : ∃ N', N' = N ++ ((l.map ch).take j).flatMap fun w => beh (l.map ch) w (ch R[i]) := ⟨_, rfl⟩
      have hbN : N'.length ≤ 6748992700416 := by rw [hN', List.length_append]; omega
      rw [← hN'] at hnext ⊢
      refine Ev.succ ?_
      simp only [spec_dlNext.l1, rdOf_nat l j hj, Int.toNat_natCast, w1 (show 0 ≤ (j : Int) by omega) (show (j : Int) < 9223372036854775807 by omega)]
      unfold beh at hnext hc'
      refine Ev.pos (by omega) (Ev.pos (by omega) (Ev.pos (by omega) (Ev.known (fun _ => wdBegins_eq _ _) (Ev.cases (fun hp => ?_) (fun hp => Ev.known (fun _ => wdBegins_eq _ _) (Ev.cases (fun hq => ?_) (fun hq => ?_)))))))
      · have hle := (List.isPrefixOf_iff_prefix.1 hp).length_le
        rw [ch_length, ch_length] at hle
        rw [if_pos hp, ch_length] at hnext
        have hput := wdPut_ev N' (R[i].extract l[j].size R[i].size) (by omega)
        rw [ch_drop] at hput
        exact Ev.pos (by omega) (Ev.pos (by omega) (Ev.bind hput hnext))
      · have hle := (List.isPrefixOf_iff_prefix.1 hq).length_le
        rw [ch_length, ch_length] at hle
        have hlt : R[i].size < l[j].size := by
          rcases Nat.lt_or_ge R[i].size l[j].size with h | h
          · exact h
          · exfalso
            have e := (List.isPrefixOf_iff_prefix.1 hq).eq_of_length (by rw [ch_length, ch_length]; omega)
            exact hp (by rw [e]; exact List.isPrefixOf_iff_prefix.2 (List.prefix_refl _))
        rw [if_neg hp, if_pos hq, ch_length] at hnext hc'
        have hrec := spec_dlCover_ev l hl hne h8 (l[j].size - R[i].size) (l[j].extract R[i].size l[j].size) (by simp) (by omega) (by omega)
        rw [ch_drop] at hrec
        obtain ⟨M, hM⟩ : ∃ M, M = cov (l.map ch) ((ch l[j]).drop R[i].size) := ⟨_, rfl⟩
        rw [← hM] at hrec hnext hc'
        have hlen : (bas M).length = (ordL M).length := by unfold bas; simp
        have hole := ordL_len M
        refine Ev.pos (by omega) (Ev.pos (by omega) (Ev.bind hrec ?_))
        have s0 : bas N' = bas (N' ++ (ordL M).take 0) := by rw [List.take_zero, List.append_nil]
        rw [s0]
        refine Ev.loop (fun q k => spec_dlNext.l2 k l (bas (N' ++ (ordL M).take q)) R[i] R (R.length : Int) (i : Int) l (l.length : Int) (j : Int) (bas M) ((bas M).length : Int) (q : Int)) (bas M).length _ (fun q hq' hnext => ?_) ?_
        · have hq2 : q < (ordL M).length := by omega
          refine Ev.succ ?_
          simp only [spec_dlNext.l2, rdOf_nat (bas M) q hq', w1 (show 0 ≤ (q : Int) by omega) (show (q : Int) < 9223372036854775807 by omega)]
          have hput := wdPut_ev (N' ++ (ordL M).take q) (bas M)[q] (by rw [List.length_append, List.length_take]; omega)
          rw [chB_at M q hq', mem_take_succ_ord N' M q hq2] at hput
          exact Ev.pos (by omega) (Ev.pos (by omega) (Ev.pos (by omega) (Ev.bind hput hnext)))
        · refine Ev.succ ?_
          simp only [spec_dlNext.l2, w1 (show 0 ≤ (j : Int) by omega) (show (j : Int) < 9223372036854775807 by omega)]
          refine Ev.neg (by omega) ?_
          rw [hlen, bas_all]
          exact hnext
      · rw [if_neg hp, if_neg hq, List.append_nil] at hnext
        exact hnext
    · refine Ev.succ ?_
      simp only [spec_dlNext.l1, w1 (show 0 ≤ (i : Int) by omega) (show (i : Int) < 9223372036854775807 by omega)]
      refine Ev.neg (by omega) ?_
      rw [List.take_of_length_le (l := l.map ch) (by simp)]
      exact hnext
  · have hb := hout R.length
    refine Ev.succ ?_
    simp only [spec_dlNext.l0]
    exact Ev.neg (by omega) (Ev.pure (by rw [List.take_of_length_le (by simp)]))
/-- two different places of a list -/
def duos (n : Nat) : List (Nat × Nat) := (List.range n).flatMap fun i => (List.range n).flatMap fun j => if i = j then [] else [(i, j)]
theorem wlt (l : List ByteArray) (h8 : ∀ w ∈ l, w.size ≤ 8) : ∀ t ∈ l.map ch, t.length ≤ 8 := fun t ht => by obtain ⟨w, hw, rfl⟩ := List.mem_map.1 ht; rw [ch_length]; exact h8 w hw
theorem suf_self (l : List ByteArray) (h8 : ∀ w ∈ l, w.size ≤ 8) (w : ByteArray) (hw : w ∈ l) : ch w ∈ sufs (l.map ch) := by
  have := mem_sufs (wlt l h8) (List.mem_map.2 ⟨w, hw, rfl⟩) 0
  simpa using this
theorem restsOf_ev (l : List ByteArray) (hl : l.length ≤ 12) (hne : ∀ w ∈ l, 1 ≤ w.size) (h8 : ∀ w ∈ l, w.size ≤ 8) (i j : Nat) (hi : i < l.length) (hj : j < l.length) : Ev (fun k => impl_restsOf.f k l (i : Int) (j : Int)) (bas (beh (l.map ch) (ch l[i]) (ch l[j]))) := by
  unfold impl_restsOf.f
  rw [rdOf_nat l i hi, rdOf_nat l j hj]
  have hb := beh_len (l.map ch) (by simpa using hl) (ch l[i]) (ch l[j]) (by rw [ch_length]; exact h8 _ (List.getElem_mem hi))
  refine Ev.pos (by omega) (Ev.pos (by omega) (Ev.pos (by omega) (Ev.pos (by omega) (Ev.bind (impl_behind_ev l hl hne h8 l[i] l[j] (h8 _ (List.getElem_mem hi))) (Ev.known (fun _ => ordered_eq _ (by simp only [List.length_map]; omega)) (Ev.pure ?_))))))
  rw [map_ch_bx]

/-- all rests of two different words -/
def fst (W : List (List UInt8)) : List (List UInt8) := (duos W.length).flatMap fun p => beh W (W.getD p.1 []) (W.getD p.2 [])
/-- one row of places -/
def duoRow (n i j : Nat) : List (Nat × Nat) := (List.range j).flatMap fun j => if i = j then [] else [(i, j)]
def duoRows (n i : Nat) : List (Nat × Nat) := (List.range i).flatMap fun i => duoRow n i n
theorem duos_eq (n : Nat) : duos n = duoRows n n := rfl
theorem duoRow_succ (n i j : Nat) : duoRow n i (j + 1) = duoRow n i j ++ (if i = j then [] else [(i, j)]) := by
  unfold duoRow; rw [List.range_succ, List.flatMap_append]; simp
theorem duoRows_succ (n i : Nat) : duoRows n (i + 1) = duoRows n i ++ duoRow n i n := by
  unfold duoRows; rw [List.range_succ, List.flatMap_append]; simp
theorem duoRow_len (n i j : Nat) : (duoRow n i j).length ≤ j := by
  have := flatMap_len (fun j => if i = j then ([] : List (Nat × Nat)) else [(i, j)]) 1 (List.range j) (fun x _ => by split <;> simp)
  simpa [duoRow] using this
theorem duoRows_len (n i : Nat) : (duoRows n i).length ≤ i * n := by
  have := flatMap_len (fun i => duoRow n i n) n (List.range i) (fun x _ => duoRow_len n x n)
  simpa [duoRows] using this
/-- what the places give -/
def duoBeh (W : List (List UInt8)) (P : List (Nat × Nat)) : List (List UInt8) := P.flatMap fun p => beh W (W.getD p.1 []) (W.getD p.2 [])
theorem getD_map_ch (l : List ByteArray) (i : Nat) (h : i < l.length) : (l.map ch).getD i [] = ch l[i] := by
  rw [List.getD_eq_getElem?_getD, List.getElem?_map, List.getElem?_eq_getElem h]; rfl
theorem duoBeh_len (l : List ByteArray) (hl : l.length ≤ 12) (h8 : ∀ w ∈ l, w.size ≤ 8) (P : List (Nat × Nat)) (hP : P.length ≤ 144) : (duoBeh (l.map ch) P).length ≤ 743008370688 := by
  refine Nat.le_trans (flatMap_len _ 5159780352 P (fun p _ => beh_len _ (by simpa using hl) _ _ ?_)) (by omega)
  by_cases h : p.1 < l.length
  · rw [getD_map_ch l p.1 h, ch_length]; exact h8 _ (List.getElem_mem h)
  · rw [List.getD_eq_getElem?_getD, List.getElem?_eq_none (by simpa using h)]; simp
theorem fst_mem (l : List ByteArray) (h8 : ∀ w ∈ l, w.size ≤ 8) (P : List (Nat × Nat)) (hP : ∀ p ∈ P, p.2 < l.length) : ∀ x ∈ duoBeh (l.map ch) P, x ∈ sufs (l.map ch) := by
  intro x hx
  obtain ⟨p, hp, hx⟩ := List.mem_flatMap.1 hx
  refine beh_mem _ (wlt l h8) _ _ ?_ x hx
  rw [getD_map_ch l p.2 (hP p hp)]
  exact suf_self l h8 _ (List.getElem_mem _)
theorem duoRow_mem (n i j : Nat) (h : j ≤ n) : ∀ p ∈ duoRow n i j, p.1 = i ∧ p.2 < n := by
  intro p hp
  obtain ⟨q, hq, hp⟩ := List.mem_flatMap.1 hp
  have := List.mem_range.1 hq
  split at hp
  · cases hp
  · rw [List.mem_singleton] at hp; subst hp; exact ⟨rfl, by simp only; omega⟩
theorem duoRows_mem (n i : Nat) (h : i ≤ n) : ∀ p ∈ duoRows n i, p.1 < n ∧ p.2 < n := by
  intro p hp
  obtain ⟨q, hq, hp⟩ := List.mem_flatMap.1 hp
  have := List.mem_range.1 hq
  have := duoRow_mem n q n (Nat.le_refl _) p hp
  exact ⟨by omega, this.2⟩
theorem duoBeh_append (W : List (List UInt8)) (P Q : List (Nat × Nat)) : duoBeh W (P ++ Q) = duoBeh W P ++ duoBeh W Q := by unfold duoBeh; rw [List.flatMap_append]
theorem spec_dlFirst_ev (l : List ByteArray) (hl : l.length ≤ 12) (hne : ∀ w ∈ l, 1 ≤ w.size) (h8 : ∀ w ∈ l, w.size ≤ 8) : Ev (fun k => spec_dlFirst.f k l) (bas (duoBeh (l.map ch) (duoRows l.length l.length))) := by
  unfold spec_dlFirst.f
  have start : ([] : List ByteArray) = bas (duoBeh (l.map ch) (duoRows l.length 0)) := by simp [duoRows, duoBeh, bas_nil]
  rw [start]
  refine Ev.loop (fun i k => spec_dlFirst.l0 k l (bas (duoBeh (l.map ch) (duoRows l.length i))) l (l.length : Int) (i : Int)) l.length _ (fun i hi hnext => ?_) ?_
  · have hP : (duoRows l.length i).length + l.length ≤ 144 := by
      have := duoRows_len l.length i
      have : i * l.length ≤ 11 * l.length := Nat.mul_le_mul_right _ (by omega)
      omega
    rw [duoRows_succ, duoBeh_append] at hnext
    obtain ⟨N, hN⟩ : ∃ N, N = duoBeh (l.map ch) (duoRows l.length i) := ⟨_, rfl⟩
    have hNl : N.length ≤ 743008370688 := by rw [hN]; exact duoBeh_len l hl h8 _ (by omega)
    rw [← hN] at hnext ⊢
    refine Ev.succ ?_
    simp only [spec_dlFirst.l0, rdOf_nat l i hi]
    refine Ev.pos (by omega) (Ev.pos (by omega) (Ev.pos (by omega) ?_))
    have s0 : bas N = bas (N ++ duoBeh (l.map ch) (duoRow l.length i 0)) := by simp [duoRow, duoBeh]
    rw [s0]
    refine Ev.loop (fun j k => spec_dlFirst.l1 k l (bas (N ++ duoBeh (l.map ch) (duoRow l.length i j))) (i : Int) l[i] l (l.length : Int) (i : Int) l (l.length : Int) (j : Int)) l.length _ (fun j hj hnext => ?_) ?_
    · obtain ⟨N', hN'⟩ : ∃ N', N' = N ++ duoBeh (l.map ch) (duoRow l.length i j) := ⟨_, rfl⟩
      have hNl' : N'.length ≤ 1486016741376 := by
        have := duoBeh_len l hl h8 (duoRow l.length i j) (by have := duoRow_len l.length i j; omega)
        rw [hN', List.length_append]; omega
      rw [duoRow_succ, duoBeh_append, ← List.append_assoc, ← hN'] at hnext
      rw [← hN']
      refine Ev.succ ?_
      simp only [spec_dlFirst.l1, rdOf_nat l j hj, w1 (show 0 ≤ (j : Int) by omega) (show (j : Int) < 9223372036854775807 by omega)]
      by_cases hij : i = j
      · rw [if_pos hij] at hnext
        refine Ev.pos (by omega) (Ev.pos (by omega) (Ev.pos (by omega) (Ev.pos (by omega) ?_)))
        simpa [duoBeh] using hnext
      · rw [if_neg hij] at hnext
        have hb := spec_dlBegin_ev l hl hne h8 l[i] l[j] (h8 _ (List.getElem_mem hi))
        have e : duoBeh (l.map ch) [(i, j)] = beh (l.map ch) (ch l[i]) (ch l[j]) := by simp only [duoBeh, List.flatMap_cons, List.flatMap_nil, List.append_nil]; rw [getD_map_ch l i hi, getD_map_ch l j hj]
        rw [e] at hnext
        have hbl := beh_len (l.map ch) (by simpa using hl) (ch l[i]) (ch l[j]) (by rw [ch_length]; exact h8 _ (List.getElem_mem hi))
        obtain ⟨M, hM⟩ : ∃ M, M = beh (l.map ch) (ch l[i]) (ch l[j]) := ⟨_, rfl⟩
        rw [← hM] at hb hnext hbl
        have hlen : (bas M).length = (ordL M).length := by unfold bas; simp
        have hole := ordL_len M
        refine Ev.pos (by omega) (Ev.pos (by omega) (Ev.pos (by omega) (Ev.neg (by omega) (Ev.bind hb ?_))))
        have s0 : bas N' = bas (N' ++ (ordL M).take 0) := by rw [List.take_zero, List.append_nil]
        rw [s0]
        refine Ev.loop (fun q k => spec_dlFirst.l2 k l (bas (N' ++ (ordL M).take q)) (i : Int) l[i] l (l.length : Int) (i : Int) l (l.length : Int) (j : Int) (bas M) ((bas M).length : Int) (q : Int)) (bas M).length _ (fun q hq' hnext => ?_) ?_
        · have hq2 : q < (ordL M).length := by omega
          refine Ev.succ ?_
          simp only [spec_dlFirst.l2, rdOf_nat (bas M) q hq', w1 (show 0 ≤ (q : Int) by omega) (show (q : Int) < 9223372036854775807 by omega)]
          have hput := wdPut_ev (N' ++ (ordL M).take q) (bas M)[q] (by rw [List.length_append, List.length_take]; omega)
          rw [chB_at M q hq', mem_take_succ_ord N' M q hq2] at hput
          exact Ev.pos (by omega) (Ev.pos (by omega) (Ev.pos (by omega) (Ev.bind hput hnext)))
        · refine Ev.succ ?_
          simp only [spec_dlFirst.l2, w1 (show 0 ≤ (j : Int) by omega) (show (j : Int) < 9223372036854775807 by omega)]
          refine Ev.neg (by omega) ?_
          rw [hlen, bas_all]
          exact hnext
    · refine Ev.succ ?_
      simp only [spec_dlFirst.l1, w1 (show 0 ≤ (i : Int) by omega) (show (i : Int) < 9223372036854775807 by omega)]
      exact Ev.neg (by omega) hnext
  · refine Ev.succ ?_
    simp only [spec_dlFirst.l0]
    exact Ev.neg (by omega) (Ev.now _)
/-- the same, each part in order -/
def duoOrd (W : List (List UInt8)) (P : List (Nat × Nat)) : List (List UInt8) := P.flatMap fun p => ordL (beh W (W.getD p.1 []) (W.getD p.2 []))
theorem duoOrd_mem (W : List (List UInt8)) (P : List (Nat × Nat)) (x : List UInt8) : x ∈ duoOrd W P ↔ x ∈ duoBeh W P := by
  unfold duoOrd duoBeh
  rw [List.mem_flatMap, List.mem_flatMap]
  exact exists_congr fun p => and_congr_right fun _ => mem_ordL _ _
theorem duoOrd_append (W : List (List UInt8)) (P Q : List (Nat × Nat)) : duoOrd W (P ++ Q) = duoOrd W P ++ duoOrd W Q := by unfold duoOrd; rw [List.flatMap_append]
theorem duoOrd_len (l : List ByteArray) (hl : l.length ≤ 12) (h8 : ∀ w ∈ l, w.size ≤ 8) (P : List (Nat × Nat)) (hP : P.length ≤ 144) : (duoOrd (l.map ch) P).length ≤ 743008370688 := by
  refine Nat.le_trans (flatMap_len _ 5159780352 P (fun p _ => Nat.le_trans (ordL_len _) (beh_len _ (by simpa using hl) _ _ ?_))) (by omega)
  by_cases h : p.1 < l.length
  · rw [getD_map_ch l p.1 h, ch_length]; exact h8 _ (List.getElem_mem h)
  · rw [List.getD_eq_getElem?_getD, List.getElem?_eq_none (by simpa using h)]; simp
theorem impl_firstRests_ev (l : List ByteArray) (hl : l.length ≤ 12) (hne : ∀ w ∈ l, 1 ≤ w.size) (h8 : ∀ w ∈ l, w.size ≤ 8) : Ev (fun k => impl_firstRests.f k l) (bas (duoBeh (l.map ch) (duoRows l.length l.length))) := by
  unfold impl_firstRests.f
  have start : ([] : List ByteArray) = (duoOrd (l.map ch) (duoRows l.length 0)).map bx := by simp [duoRows, duoOrd]
  rw [start]
  refine Ev.loop (fun i k => impl_firstRests.l0 k l ((duoOrd (l.map ch) (duoRows l.length i)).map bx) (l.length : Int) (i : Int)) l.length _ (fun i hi hnext => ?_) ?_
  · have hP : (duoRows l.length i).length + l.length ≤ 144 := by
      have := duoRows_len l.length i
      have : i * l.length ≤ 11 * l.length := Nat.mul_le_mul_right _ (by omega)
      omega
    rw [duoRows_succ, duoOrd_append] at hnext
    obtain ⟨N, hN⟩ : ∃ N, N = duoOrd (l.map ch) (duoRows l.length i) := ⟨_, rfl⟩
    have hNl : N.length ≤ 743008370688 := by rw [hN]; exact duoOrd_len l hl h8 _ (by omega)
    rw [← hN] at hnext ⊢
    refine Ev.succ ?_
    simp only [impl_firstRests.l0]
    refine Ev.pos (by omega) ?_
    have s0 : N.map bx = (N ++ duoOrd (l.map ch) (duoRow l.length i 0)).map bx := by simp [duoRow, duoOrd]
    rw [s0]
    refine Ev.loop (fun j k => impl_firstRests.l1 k l ((N ++ duoOrd (l.map ch) (duoRow l.length i j)).map bx) (i : Int) (l.length : Int) (i : Int) (l.length : Int) (j : Int)) l.length _ (fun j hj hnext => ?_) ?_
    · obtain ⟨N', hN'⟩ : ∃ N', N' = N ++ duoOrd (l.map ch) (duoRow l.length i j) := ⟨_, rfl⟩
      have hNl' : N'.length ≤ 1486016741376 := by
        have := duoOrd_len l hl h8 (duoRow l.length i j) (by have := duoRow_len l.length i j; omega)
        rw [hN', List.length_append]; omega
      rw [duoRow_succ, duoOrd_append, ← List.append_assoc, ← hN'] at hnext
      rw [← hN']
      refine Ev.succ ?_
      simp only [impl_firstRests.l1, w1 (show 0 ≤ (j : Int) by omega) (show (j : Int) < 9223372036854775807 by omega)]
      by_cases hij : i = j
      · rw [if_pos hij] at hnext
        refine Ev.pos (by omega) (Ev.pos (by omega) ?_)
        simpa [duoOrd] using hnext
      · rw [if_neg hij] at hnext
        have hr := restsOf_ev l hl hne h8 i j hi hj
        have e : duoOrd (l.map ch) [(i, j)] = ordL (beh (l.map ch) (ch l[i]) (ch l[j])) := by simp only [duoOrd, List.flatMap_cons, List.flatMap_nil, List.append_nil]; rw [getD_map_ch l i hi, getD_map_ch l j hj]
        rw [e, List.map_append] at hnext
        have hbl := beh_len (l.map ch) (by simpa using hl) (ch l[i]) (ch l[j]) (by rw [ch_length]; exact h8 _ (List.getElem_mem hi))
        have hbb := bas_len (beh (l.map ch) (ch l[i]) (ch l[j]))
        exact Ev.pos (by omega) (Ev.neg (by omega) (Ev.bind hr (Ev.pos (by simp only [List.length_map]; omega) hnext)))
    · refine Ev.succ ?_
      simp only [impl_firstRests.l1, w1 (show 0 ≤ (i : Int) by omega) (show (i : Int) < 9223372036854775807 by omega)]
      exact Ev.neg (by omega) hnext
  · have hP : (duoRows l.length l.length).length ≤ 144 := by
      have := duoRows_len l.length l.length
      have : l.length * l.length ≤ 12 * 12 := Nat.mul_le_mul hl hl
      omega
    have hNl := duoOrd_len l hl h8 _ hP
    refine Ev.succ ?_
    simp only [impl_firstRests.l0]
    refine Ev.neg (by omega) (Ev.known (fun _ => ordered_eq _ (by simp only [List.length_map]; omega)) (Ev.pure ?_))
    rw [map_ch_bx]
    exact bas_congr (fun x => duoOrd_mem _ _ x)
/-- the rests after no words stand among the ends -/
theorem firsts_mem (l : List ByteArray) (h8 : ∀ w ∈ l, w.size ≤ 8) : ∀ x ∈ duoBeh (l.map ch) (duoRows l.length l.length), x ∈ sufs (l.map ch) :=
  fst_mem l h8 _ (fun p hp => (duoRows_mem _ _ (Nat.le_refl _) p hp).2)

theorem nodupLe {α : Type} [DecidableEq α] : ∀ (M N : List α), M.Nodup → M ⊆ N → M.length ≤ N.length
  | [], _, _, _ => Nat.zero_le _
  | x :: M, N, hn, hs => by
    have hx : x ∈ N := hs (by simp)
    have hn' := List.nodup_cons.1 hn
    have := nodupLe M (N.erase x) hn'.2 (fun y hy => (List.mem_erase_of_ne (by rintro rfl; exact hn'.1 hy)).2 (hs (by simp [hy])))
    have h1 := List.length_erase_of_mem hx
    have h2 := List.length_pos_of_mem hx
    simp only [List.length_cons]
    omega

section
variable {α : Type} (G : α → List α)
/-- from one to another one in so many steps -/
def Way : Nat → α → α → Prop
  | 0, x, y => x = y
  | k + 1, x, y => ∃ z, z ∈ G x ∧ Way k z y
theorem way_trans : ∀ (a b : Nat) (x y z : α), Way G a x y → Way G b y z → Way G (a + b) x z
  | 0, b, x, y, z, h1, h2 => by rw [Nat.zero_add]; cases h1; exact h2
  | a + 1, b, x, y, z, ⟨u, h1, h2⟩, h3 => by
    rw [Nat.add_right_comm]
    exact ⟨u, h1, way_trans a b u y z h2 h3⟩
theorem way_rep (c : Nat) (v : α) (h : Way G c v v) : ∀ k, Way G (c * k) v v
  | 0 => rfl
  | k + 1 => by rw [Nat.mul_succ]; exact way_trans G _ _ _ _ _ (way_rep c v h k) h
/-- a way, the last one first -/
def Chn : List α → Prop
  | [] => True
  | [_] => True
  | x :: y :: l => x ∈ G y ∧ Chn (y :: l)
theorem chn_tail {x : α} {l : List α} (h : Chn G (x :: l)) : Chn G l := by
  cases l with
  | nil => trivial
  | cons y l => exact h.2
theorem chn_right : ∀ (a b : List α), Chn G (a ++ b) → Chn G b
  | [], _, h => h
  | x :: a, b, h => chn_right a b (chn_tail G h)
theorem chn_left : ∀ (a b : List α), Chn G (a ++ b) → Chn G a
  | [], _, _ => trivial
  | [x], _, _ => trivial
  | x :: y :: a, b, h => ⟨h.1, chn_left (y :: a) b h.2⟩
theorem chn_way : ∀ (b : List α) (u v : α) (d : List α), Chn G (u :: (b ++ v :: d)) → Way G (b.length + 1) v u
  | [], u, v, d, h => ⟨u, h.1, rfl⟩
  | x :: b, u, v, d, h => by
    have h1 := chn_way b x v d h.2
    have h2 : Way G 1 x u := ⟨u, h.1, rfl⟩
    exact way_trans G _ _ _ _ _ h1 h2
/-- each one on a round comes back to itself in as many steps -/
theorem round_way (u : α) (b : List α) (h : Chn G (u :: (b ++ [u]))) (v : α) (hv : v ∈ u :: b) : Way G (b.length + 1) v v := by
  rcases List.mem_cons.1 hv with rfl | hv
  · exact chn_way G b v v [] h
  · obtain ⟨a, d, rfl⟩ := List.append_of_mem hv
    have h1 := chn_way G a u v (d ++ [u]) (by simpa using h)
    have h2 : Chn G (v :: (d ++ [u])) := chn_right G (u :: a) _ (by simpa using h)
    have h3 := chn_way G d v u [] h2
    have := way_trans G _ _ _ _ _ h1 h3
    rw [show (a ++ v :: d).length + 1 = a.length + 1 + (d.length + 1) by simp; omega]
    exact this
theorem twice : ∀ l : List α, ¬ l.Nodup → ∃ a u b d, l = a ++ u :: (b ++ u :: d)
  | [], h => absurd List.nodup_nil h
  | x :: l, h => by
    by_cases hx : x ∈ l
    · obtain ⟨b, d, rfl⟩ := List.append_of_mem hx
      exact ⟨[], x, b, d, rfl⟩
    · obtain ⟨a, u, b, d, rfl⟩ := twice l (fun hl => h (List.nodup_cons.2 ⟨hx, hl⟩))
      exact ⟨x :: a, u, b, d, rfl⟩
theorem min_nat (P : Nat → Prop) : ∀ k, P k → ∃ j, P j ∧ ∀ i, i < j → ¬ P i := by
  intro k
  induction k using Nat.strongRecOn with
  | _ k ih =>
    intro hk
    by_cases h : ∃ i, i < k ∧ P i
    · obtain ⟨i, hi, hp⟩ := h
      exact ih i hi hp
    · exact ⟨k, hk, fun i hi hp => h ⟨i, hi, hp⟩⟩
variable [DecidableEq α]
theorem without_len (X Z : List α) (hZ : Z.Nodup) (hs : Z ⊆ X) : (X.filter fun x => decide (x ∉ Z)).length + Z.length ≤ X.length := by
  have h1 := nodupLe Z (X.filter fun x => decide (x ∈ Z)) hZ (fun z hz => List.mem_filter.2 ⟨hs hz, decide_eq_true hz⟩)
  have h2 : ∀ X : List α, (X.filter fun x => decide (x ∉ Z)).length + (X.filter fun x => decide (x ∈ Z)).length = X.length := by
    intro X
    induction X with
    | nil => rfl
    | cons x X ih =>
      rw [List.filter_cons, List.filter_cons]
      by_cases c : x ∈ Z
      · simp only [c, not_true, decide_false, decide_true, if_true, Bool.false_eq_true, if_false, List.length_cons] at ih ⊢; omega
      · simp only [c, not_false_iff, decide_false, decide_true, if_true, Bool.false_eq_true, if_false, List.length_cons] at ih ⊢; omega
  have := h2 X
  omega
/-- lengths of rounds that each long way meets -/
theorem rounds_met : ∀ (n : Nat) (X : List α), X.length ≤ n → ∃ C : List Nat, C.Nodup ∧ (∀ c ∈ C, 1 ≤ c) ∧ C.sum ≤ X.length ∧ ∀ l, Chn G l → l ⊆ X → X.length < l.length → ∃ v ∈ l, ∃ c ∈ C, Way G c v v := by
  intro n
  induction n with
  | zero =>
    intro X hX
    refine ⟨[], by simp, by simp, by simp, fun l h1 h2 h3 => ?_⟩
    exfalso
    have : X = [] := List.length_eq_zero_iff.1 (by omega)
    subst this
    cases l with
    | nil => simp at h3
    | cons x l => have := h2 (List.mem_cons_self (a := x) (l := l)); cases this
  | succ n ih =>
    intro X hX
    by_cases h : ∃ k, ∃ u b, b.length = k ∧ Chn G (u :: (b ++ [u])) ∧ (u :: b) ⊆ X
    · obtain ⟨k, hk⟩ := h
      obtain ⟨j, ⟨u, b, hb, h1, h2⟩, hmin⟩ := min_nat (fun k => ∃ u b, b.length = k ∧ Chn G (u :: (b ++ [u])) ∧ (u :: b) ⊆ X) k hk
      have hnd : (u :: b).Nodup := by
        refine Decidable.byContradiction fun hn => ?_
        obtain ⟨a, w, b', d, e⟩ := twice (u :: b) hn
        have hl : a.length + b'.length + d.length + 1 = b.length := by
          have := congrArg List.length e
          simp at this; omega
        refine hmin b'.length (by omega) ⟨w, b', rfl, ?_, fun x hx => h2 ?_⟩
        · have h3 : Chn G (a ++ w :: (b' ++ w :: d)) := by rw [← e]; exact chn_left G (u :: b) [u] (by simpa using h1)
          have h4 := chn_right G a _ h3
          exact chn_left G (w :: (b' ++ [w])) d (by simpa using h4)
        · rw [e]
          rcases List.mem_cons.1 hx with rfl | hx
          · simp
          · simp [hx]
      have hlen := without_len X (u :: b) hnd h2
      rw [List.length_cons] at hlen
      obtain ⟨C, c1, c2, c3, c4⟩ := ih (X.filter fun x => decide (x ∉ u :: b)) (by omega)
      have key : ∀ C' : List Nat, b.length + 1 ∈ C' → (∀ c ∈ C, c ∈ C') → ∀ l, Chn G l → l ⊆ X → X.length < l.length → ∃ v ∈ l, ∃ c ∈ C', Way G c v v := by
        intro C' hC1 hC2 l l1 l2 l3
        by_cases hm : ∃ v, v ∈ l ∧ v ∈ u :: b
        · obtain ⟨v, hv, hv'⟩ := hm
          exact ⟨v, hv, b.length + 1, hC1, round_way G u b h1 v hv'⟩
        · obtain ⟨v, hv, c, hc, hw⟩ := c4 l l1 (fun x hx => List.mem_filter.2 ⟨l2 hx, decide_eq_true (fun hx' => hm ⟨x, hx, hx'⟩)⟩) (by omega)
          exact ⟨v, hv, c, hC2 c hc, hw⟩
      by_cases hc : b.length + 1 ∈ C
      · exact ⟨C, c1, c2, by omega, key C hc (fun c h => h)⟩
      · refine ⟨(b.length + 1) :: C, List.nodup_cons.2 ⟨hc, c1⟩, fun c h => ?_, by rw [List.sum_cons]; omega, key _ List.mem_cons_self (fun c h => List.mem_cons_of_mem _ h)⟩
        rcases List.mem_cons.1 h with rfl | h
        · omega
        · exact c2 c h
    · refine ⟨[], by simp, by simp, by simp, fun l h1 h2 h3 => ?_⟩
      exfalso
      have hn : ¬ l.Nodup := fun hn => by have := nodupLe l X hn h2; omega
      obtain ⟨a, u, b, d, rfl⟩ := twice l hn
      refine h ⟨b.length, u, b, rfl, ?_, fun x hx => h2 ?_⟩
      · have h4 := chn_right G a _ h1
        exact chn_left G (u :: (b ++ [u])) d (by simpa using h4)
      · rcases List.mem_cons.1 hx with rfl | hx
        · simp
        · simp [hx]
end
def prodL : List Nat → Nat
  | [] => 1
  | x :: l => x * prodL l
def lcmL : List Nat → Nat
  | [] => 1
  | x :: l => Nat.lcm x (lcmL l)
theorem lcmL_dvd : ∀ (C : List Nat) (c : Nat), c ∈ C → c ∣ lcmL C
  | x :: C, c, h => by
    rw [lcmL]
    rcases List.mem_cons.1 h with rfl | h
    · exact Nat.dvd_lcm_left _ _
    · exact Nat.dvd_trans (lcmL_dvd C c h) (Nat.dvd_lcm_right _ _)
theorem lcmL_pos : ∀ C : List Nat, (∀ c ∈ C, 1 ≤ c) → 1 ≤ lcmL C
  | [], _ => Nat.le_refl 1
  | x :: C, h => Nat.lcm_pos (h x (by simp)) (lcmL_pos C (fun c hc => h c (by simp [hc])))
theorem lcmL_le : ∀ C : List Nat, (∀ c ∈ C, 1 ≤ c) → lcmL C ≤ prodL C
  | [], _ => Nat.le_refl 1
  | x :: C, h => by
    have h1 := lcmL_le C (fun c hc => h c (by simp [hc]))
    have h2 := lcmL_pos C (fun c hc => h c (by simp [hc]))
    have h3 := h x (by simp)
    rw [lcmL, prodL]
    refine Nat.le_trans (Nat.le_of_dvd (Nat.mul_pos h3 h2) ?_) (Nat.mul_le_mul_left x h1)
    exact Nat.lcm_dvd (Nat.dvd_mul_right _ _) (Nat.dvd_mul_left _ _)
theorem seven : ∀ x : Nat, x * 7 ^ x * 8 ^ 7 ≤ 7 ^ 8 * 8 ^ x
  | 0 => by decide
  | 1 => by decide
  | 2 => by decide
  | 3 => by decide
  | 4 => by decide
  | 5 => by decide
  | 6 => by decide
  | 7 => by decide
  | x + 8 => by
    have ih := seven (x + 7)
    have h1 : (x + 8) * 7 ≤ 8 * (x + 7) := by omega
    have h2 := Nat.mul_le_mul_right (7 ^ (x + 7) * 8 ^ 7) h1
    have e1 : (x + 8) * 7 ^ (x + 8) * 8 ^ 7 = (x + 8) * 7 * (7 ^ (x + 7) * 8 ^ 7) := by
      rw [show x + 8 = (x + 7) + 1 from rfl, Nat.pow_succ]; simp only [Nat.mul_assoc, Nat.mul_comm, Nat.mul_left_comm]
    have e2 : 8 * (x + 7) * (7 ^ (x + 7) * 8 ^ 7) = 8 * ((x + 7) * 7 ^ (x + 7) * 8 ^ 7) := by simp only [Nat.mul_assoc]
    have e3 : 7 ^ 8 * 8 ^ (x + 8) = 8 * (7 ^ 8 * 8 ^ (x + 7)) := by
      rw [show 8 ^ (x + 8) = 8 ^ (x + 7) * 8 from Nat.pow_succ 8 (x + 7)]; simp only [Nat.mul_assoc, Nat.mul_comm, Nat.mul_left_comm]
    rw [e1, e3]
    exact Nat.le_trans h2 (by rw [e2]; exact Nat.mul_le_mul_left 8 ih)
theorem prod_seven : ∀ C : List Nat, prodL C * (7 ^ C.sum * 8 ^ (7 * C.length)) ≤ 7 ^ (8 * C.length) * 8 ^ C.sum
  | [] => by simp [prodL]
  | x :: C => by
    have ih := prod_seven C
    have h := Nat.mul_le_mul (seven x) ih
    have e1 : prodL (x :: C) * (7 ^ (x :: C).sum * 8 ^ (7 * (x :: C).length)) = x * 7 ^ x * 8 ^ 7 * (prodL C * (7 ^ C.sum * 8 ^ (7 * C.length))) := by
      rw [prodL, List.sum_cons, List.length_cons, Nat.mul_succ, Nat.pow_add, Nat.pow_add]; simp only [Nat.mul_assoc, Nat.mul_comm, Nat.mul_left_comm]
    have e2 : 7 ^ (8 * (x :: C).length) * 8 ^ (x :: C).sum = 7 ^ 8 * 8 ^ x * (7 ^ (8 * C.length) * 8 ^ C.sum) := by
      rw [List.sum_cons, List.length_cons, Nat.mul_succ, Nat.pow_add, Nat.pow_add]; simp only [Nat.mul_assoc, Nat.mul_comm, Nat.mul_left_comm]
    rw [e1, e2]; exact h
theorem max_in : ∀ (l : List Nat), l ≠ [] → ∃ x ∈ l, ∀ y ∈ l, y ≤ x
  | [], h => absurd rfl h
  | [x], _ => ⟨x, by simp, by simp⟩
  | x :: y :: l, _ => by
    obtain ⟨z, hz, h⟩ := max_in (y :: l) (by simp)
    by_cases c : x ≤ z
    · exact ⟨z, List.mem_cons_of_mem _ hz, fun q hq => by
        rcases List.mem_cons.1 hq with rfl | hq
        · exact c
        · exact h q hq⟩
    · exact ⟨x, by simp, fun q hq => by
        rcases List.mem_cons.1 hq with rfl | hq
        · exact Nat.le_refl _
        · have := h q hq; omega⟩
theorem sum_erase (M : Nat) : ∀ C : List Nat, M ∈ C → (C.erase M).sum + M = C.sum
  | x :: C, h => by
    by_cases e : x = M
    · subst e; rw [List.erase_cons_head, List.sum_cons]; omega
    · rw [List.erase_cons_tail (by simpa using e), List.sum_cons, List.sum_cons]
      have := sum_erase M C (by rcases List.mem_cons.1 h with h | h; exact absurd h.symm e; exact h)
      omega
/-- numbers that are all different have a great sum -/
theorem many_sum : ∀ (r : Nat) (C : List Nat), C.length = r → C.Nodup → (∀ c ∈ C, 1 ≤ c) → r * r + r ≤ 2 * C.sum
  | 0, C, h, _, _ => by omega
  | r + 1, C, h, hn, hp => by
    obtain ⟨M, hM, hmax⟩ := max_in C (by rintro rfl; simp at h)
    have h1 := nodupLe C (List.range' 1 M) hn (fun c hc => by rw [List.mem_range'_1]; have := hp c hc; have := hmax c hc; omega)
    rw [List.length_range'] at h1
    have h2 := List.length_erase_of_mem hM
    have ih := many_sum r (C.erase M) (by omega) (hn.sublist List.erase_sublist) (fun c hc => hp c (List.mem_of_mem_erase hc))
    have h3 := sum_erase M C hM
    have e : (r + 1) * (r + 1) = r * r + 2 * r + 1 := by rw [Nat.add_mul, Nat.mul_add]; omega
    omega
theorem small_prod : ∀ r : Fin 14, ∀ s : Fin 98, 7 ^ (8 * r.val) * 8 ^ s.val ≤ 300000000000 * (7 ^ s.val * 8 ^ (7 * r.val)) := by decide +kernel
theorem lcm_bound (C : List Nat) (hn : C.Nodup) (hp : ∀ c ∈ C, 1 ≤ c) (hs : C.sum ≤ 97) : lcmL C ≤ 300000000000 := by
  have h1 := many_sum C.length C rfl hn hp
  have h2 : C.length < 14 := by
    refine Nat.lt_of_not_le fun h => ?_
    have : 14 * 14 ≤ C.length * C.length := Nat.mul_le_mul h h
    omega
  have h3 := prod_seven C
  have h4 := small_prod ⟨C.length, h2⟩ ⟨C.sum, by omega⟩
  simp only at h4
  have h5 : 0 < 7 ^ C.sum * 8 ^ (7 * C.length) := Nat.mul_pos (Nat.pow_pos (by omega)) (Nat.pow_pos (by omega))
  have h6 := Nat.le_of_mul_le_mul_right (Nat.le_trans h3 h4) h5
  exact Nat.le_trans (lcmL_le C hp) h6
theorem small_prod84 : ∀ r : Fin 13, ∀ s : Fin 85, 7 ^ (8 * r.val) * 8 ^ s.val ≤ 20000000000 * (7 ^ s.val * 8 ^ (7 * r.val)) := by decide +kernel
theorem lcm_bound84 (C : List Nat) (hn : C.Nodup) (hp : ∀ c ∈ C, 1 ≤ c) (hs : C.sum ≤ 84) : lcmL C ≤ 20000000000 := by
  have h1 := many_sum C.length C rfl hn hp
  have h2 : C.length < 13 := by
    refine Nat.lt_of_not_le fun h => ?_
    have : 13 * 13 ≤ C.length * C.length := Nat.mul_le_mul h h
    omega
  have h3 := prod_seven C
  have h4 := small_prod84 ⟨C.length, h2⟩ ⟨C.sum, by omega⟩
  simp only at h4
  have h5 : 0 < 7 ^ C.sum * 8 ^ (7 * C.length) := Nat.mul_pos (Nat.pow_pos (by omega)) (Nat.pow_pos (by omega))
  have h6 := Nat.le_of_mul_le_mul_right (Nat.le_trans h3 h4) h5
  exact Nat.le_trans (lcmL_le C hp) h6
section
variable {α : Type} (G : α → List α) (S : Nat → α → Prop)
theorem chain_of (hS : ∀ i x, S (i + 1) x ↔ ∃ y, S i y ∧ x ∈ G y) : ∀ (i : Nat) (x : α), S i x → ∃ t, t.length = i ∧ Chn G (x :: t) ∧ ∀ v ∈ x :: t, ∃ a b, a + b = i ∧ S a v ∧ Way G b v x
  | 0, x, h => ⟨[], rfl, trivial, fun v hv => ⟨0, 0, rfl, by simp at hv; subst hv; exact h, by simp at hv; exact hv⟩⟩
  | i + 1, x, h => by
    obtain ⟨y, hy, hx⟩ := (hS i x).1 h
    obtain ⟨t, h1, h2, h3⟩ := chain_of hS i y hy
    refine ⟨y :: t, by simp [h1], ⟨hx, h2⟩, fun v hv => ?_⟩
    rcases List.mem_cons.1 hv with rfl | hv
    · exact ⟨i + 1, 0, rfl, h, rfl⟩
    · obtain ⟨a, b, e, h4, h5⟩ := h3 v hv
      exact ⟨a, b + 1, by omega, h4, way_trans G b 1 v y x h5 ⟨x, hx, rfl⟩⟩
theorem way_on (hS : ∀ i x, S (i + 1) x ↔ ∃ y, S i y ∧ x ∈ G y) : ∀ (k i : Nat) (x y : α), S i x → Way G k x y → S (i + k) y
  | 0, i, x, y, h, hw => by cases hw; exact h
  | k + 1, i, x, y, h, ⟨z, hz, hw⟩ => by
    have := way_on hS k (i + 1) z y ((hS i z).2 ⟨x, h, hz⟩) hw
    rw [show i + (k + 1) = i + 1 + k by omega]; exact this
theorem countP_lt {p q : α → Bool} : ∀ X : List α, (∀ x ∈ X, p x = true → q x = true) → (∃ x ∈ X, q x = true ∧ p x = false) → X.countP p < X.countP q
  | [], _, ⟨x, hx, _⟩ => by cases hx
  | y :: X, h, ⟨x, hx, h1, h2⟩ => by
    have hle := List.countP_mono_left (p := p) (q := q) (l := X) (fun z hz => h z (by simp [hz]))
    rw [List.countP_cons, List.countP_cons]
    by_cases e : x = y
    · subst e
      rw [if_pos h1, if_neg (by rw [h2]; simp)]
      omega
    · have hx' : x ∈ X := by
        rcases List.mem_cons.1 hx with h | h
        · exact absurd h e
        · exact h
      have ih := countP_lt X (fun z hz => h z (by simp [hz])) ⟨x, hx', h1, h2⟩
      have hy := h y (by simp)
      have : (if p y = true then 1 else 0) ≤ (if q y = true then 1 else 0) := by
        by_cases hp : p y = true
        · rw [if_pos hp, if_pos (hy hp)]; exact Nat.le_refl _
        · rw [if_neg hp]; exact Nat.zero_le _
      omega
variable [DecidableEq α] in
/-- what follows step by step out of few comes again soon -/
theorem orbitN (n B : Nat) (hB : ∀ C : List Nat, C.Nodup → (∀ c ∈ C, 1 ≤ c) → C.sum ≤ n → lcmL C ≤ B) (hS : ∀ i x, S (i + 1) x ↔ ∃ y, S i y ∧ x ∈ G y) (X : List α) (hX : X.length ≤ n) (hin : ∀ i x, S i x → x ∈ X) : ∃ i j, i < j ∧ j ≤ n + (n + 1) * B ∧ ∀ x, S i x ↔ S j x := by
  obtain ⟨C, c1, c2, c3, c4⟩ := rounds_met G X.length X (Nat.le_refl _)
  have hP := hB C c1 c2 (by omega)
  have hP1 := lcmL_pos C c2
  have hdvd := lcmL_dvd C
  generalize lcmL C = P at hP hP1 hdvd
  have up : ∀ i x, X.length ≤ i → S i x → S (i + P) x := fun i x hi h => by
    obtain ⟨t, h1, h2, h3⟩ := chain_of G S hS i x h
    have hsub : (x :: t) ⊆ X := fun v hv => by obtain ⟨a, b, -, h4, -⟩ := h3 v hv; exact hin a v h4
    obtain ⟨v, hv, c, hc, hw⟩ := c4 (x :: t) h2 hsub (by rw [List.length_cons]; omega)
    obtain ⟨a, b, e, h4, h5⟩ := h3 v hv
    obtain ⟨k, rfl⟩ := hdvd c hc
    have h6 := way_rep G c v hw k
    have h7 := way_on G S hS _ a v v h4 h6
    have h8 := way_on G S hS _ _ v x h7 h5
    rw [show i + c * k = a + c * k + b by omega]
    exact h8
  have stop : ∃ k, k ≤ X.length ∧ ∀ x, S (X.length + (k + 1) * P) x → S (X.length + k * P) x := by
    refine Classical.byContradiction fun hno => ?_
    have hgo : ∀ k, k ≤ X.length → ∃ x, S (X.length + (k + 1) * P) x ∧ ¬ S (X.length + k * P) x := fun k hk => by
      refine Classical.byContradiction fun h => hno ⟨k, hk, fun x hx => ?_⟩
      exact Classical.byContradiction fun h' => h ⟨x, hx, h'⟩
    have hcount : ∀ k, k ≤ X.length + 1 → k ≤ X.countP fun x => @decide (S (X.length + k * P) x) (Classical.propDecidable _) := by
      intro k
      induction k with
      | zero => intro _; exact Nat.zero_le _
      | succ k ih =>
        intro hk
        have h1 := ih (by omega)
        obtain ⟨x, hx, hx'⟩ := hgo k (by omega)
        have h2 := countP_lt (p := fun x => @decide (S (X.length + k * P) x) (Classical.propDecidable _)) (q := fun x => @decide (S (X.length + (k + 1) * P) x) (Classical.propDecidable _)) X (fun y _ hy => by
          have hy' := @of_decide_eq_true _ (Classical.propDecidable _) hy
          have := up _ y (Nat.le_add_right _ _) hy'
          rw [show X.length + k * P + P = X.length + (k + 1) * P by rw [Nat.succ_mul]; omega] at this
          exact @decide_eq_true _ (Classical.propDecidable _) this) ⟨x, hin _ x hx, @decide_eq_true _ (Classical.propDecidable _) hx, @decide_eq_false _ (Classical.propDecidable _) hx'⟩
        omega
    have h1 := hcount (X.length + 1) (Nat.le_refl _)
    have h2 := List.countP_le_length (p := fun x => @decide (S (X.length + (X.length + 1) * P) x) (Classical.propDecidable _)) (l := X)
    omega
  obtain ⟨k, hk, hst⟩ := stop
  refine ⟨X.length + k * P, X.length + (k + 1) * P, by rw [Nat.succ_mul]; omega, ?_, fun x => ⟨fun h => ?_, hst x⟩⟩
  · have : (k + 1) * P ≤ (n + 1) * B := Nat.mul_le_mul (by omega) hP
    omega
  · have := up _ x (Nat.le_add_right _ _) h
    rw [show X.length + k * P + P = X.length + (k + 1) * P by rw [Nat.succ_mul]; omega] at this
    exact this
variable [DecidableEq α] in
theorem orbit (hS : ∀ i x, S (i + 1) x ↔ ∃ y, S i y ∧ x ∈ G y) (X : List α) (hX : X.length ≤ 97) (hin : ∀ i x, S i x → x ∈ X) : ∃ i j, i < j ∧ j ≤ 30000000000000 ∧ ∀ x, S i x ↔ S j x := by
  obtain ⟨i, j, h1, h2, h3⟩ := orbitN G S 97 300000000000 lcm_bound hS X hX hin
  exact ⟨i, j, h1, by omega, h3⟩
variable [DecidableEq α] in
theorem orbit84 (hS : ∀ i x, S (i + 1) x ↔ ∃ y, S i y ∧ x ∈ G y) (X : List α) (hX : X.length ≤ 84) (hin : ∀ i x, S i x → x ∈ X) : ∃ i j, i < j ∧ j ≤ 2000000000000 ∧ ∀ x, S i x ↔ S j x := by
  obtain ⟨i, j, h1, h2, h3⟩ := orbitN G S 84 20000000000 lcm_bound84 hS X hX hin
  exact ⟨i, j, h1, by omega, h3⟩
end

/-- proper ends of words -/
def psufs (W : List (List UInt8)) : List (List UInt8) := W.flatMap fun t => (List.range 8).map fun a => t.drop (a + 1)
theorem psufs_len (W : List (List UInt8)) : (psufs W).length ≤ W.length * 8 := flatMap_len _ 8 W (fun t _ => by simp)
theorem mem_psufs {W : List (List UInt8)} (h8 : ∀ t ∈ W, t.length ≤ 8) {t : List UInt8} (ht : t ∈ W) (a : Nat) (ha : 1 ≤ a) : t.drop a ∈ psufs W := by
  refine List.mem_flatMap.2 ⟨t, ht, List.mem_map.2 ⟨min a 8 - 1, by simp; omega, ?_⟩⟩
  have := h8 t ht
  by_cases h : a ≤ 8
  · rw [show min a 8 - 1 + 1 = a by omega]
  · rw [List.drop_of_length_le (by omega), List.drop_of_length_le (by omega)]
theorem cov_pmem (W : List (List UInt8)) (h8 : ∀ t ∈ W, t.length ≤ 8) : ∀ (n : Nat) (s : List UInt8), s.length = n → s ≠ [] → ∀ x ∈ cov W s, x ∈ psufs W := by
  intro n
  induction n using Nat.strongRecOn with
  | _ n ih =>
    intro s hs hs0 x hx
    rw [cov_eq] at hx
    obtain ⟨t, ht, hx⟩ := List.mem_flatMap.1 hx
    have hsl : 0 < s.length := List.length_pos_iff.2 hs0
    unfold covT at hx
    split at hx
    · rw [List.mem_singleton] at hx; subst hx; exact mem_psufs h8 ht _ hsl
    · rename_i hno
      split at hx
      · rename_i h
        have h1 : 0 < t.length := List.length_pos_iff.2 h.1
        have h2 : t.length ≤ s.length := (List.isPrefixOf_iff_prefix.1 h.2).length_le
        have h3 : t.length ≠ s.length := fun e => hno (by rw [(List.isPrefixOf_iff_prefix.1 h.2).eq_of_length e]; exact List.isPrefixOf_iff_prefix.2 (List.prefix_refl _))
        exact ih (s.drop t.length).length (by simp only [List.length_drop]; omega) _ rfl (fun e => by have := congrArg List.length e; simp at this; omega) x hx
      · cases hx
theorem beh_pmem (W : List (List UInt8)) (h8 : ∀ t ∈ W, t.length ≤ 8) (hne : ∀ t ∈ W, 1 ≤ t.length) (w left : List UInt8) (hw : w ∈ W) (hl : left ∈ sufs W) : ∀ x ∈ beh W w left, x ∈ psufs W := by
  intro x hx
  have hw1 := hne w hw
  unfold beh at hx
  split at hx
  · rw [List.mem_singleton] at hx; subst hx
    obtain ⟨t, ht, h⟩ := List.mem_flatMap.1 hl
    obtain ⟨a, -, rfl⟩ := List.mem_map.1 h
    rw [List.drop_drop]
    exact mem_psufs h8 ht _ (by omega)
  · rename_i hno
    split at hx
    · rename_i h
      have h2 : left.length ≤ w.length := (List.isPrefixOf_iff_prefix.1 h).length_le
      have h3 : left.length ≠ w.length := fun e => hno (by rw [(List.isPrefixOf_iff_prefix.1 h).eq_of_length e]; exact List.isPrefixOf_iff_prefix.2 (List.prefix_refl _))
      exact cov_pmem W h8 _ _ rfl (fun e => by have := congrArg List.length e; simp at this; omega) x hx
    · cases hx
theorem psufs_sufs (W : List (List UInt8)) : ∀ x ∈ psufs W, x ∈ sufs W := fun x hx => by
  obtain ⟨t, ht, h⟩ := List.mem_flatMap.1 hx
  obtain ⟨a, ha, rfl⟩ := List.mem_map.1 h
  exact List.mem_flatMap.2 ⟨t, ht, List.mem_map.2 ⟨a + 1, by simp at ha ⊢; omega, rfl⟩⟩
/-- the rests, word by word -/
def rsq (W M0 : List (List UInt8)) : Nat → List (List UInt8)
  | 0 => M0
  | d + 1 => nxt W (ordL (rsq W M0 d))
theorem rsq_step (W M0 : List (List UInt8)) (i : Nat) (x : List UInt8) : x ∈ rsq W M0 (i + 1) ↔ ∃ y, y ∈ rsq W M0 i ∧ x ∈ W.flatMap fun w => beh W w y := by
  rw [rsq, nxt, List.mem_flatMap]
  exact ⟨fun ⟨y, h1, h2⟩ => ⟨y, (mem_ordL _ _).1 h1, h2⟩, fun ⟨y, h1, h2⟩ => ⟨y, (mem_ordL _ _).2 h1, h2⟩⟩
theorem rsq_in (W M0 : List (List UInt8)) (h8 : ∀ t ∈ W, t.length ≤ 8) (hne : ∀ t ∈ W, 1 ≤ t.length) (h0 : ∀ x ∈ M0, x ∈ psufs W) : ∀ (i : Nat), ∀ x ∈ rsq W M0 i, x ∈ psufs W
  | 0 => h0
  | i + 1 => fun x hx => by
    obtain ⟨y, h1, h2⟩ := (rsq_step W M0 i x).1 hx
    obtain ⟨w, hw, h3⟩ := List.mem_flatMap.1 h2
    exact beh_pmem W h8 hne w y hw (psufs_sufs W y (rsq_in W M0 h8 hne h0 i y h1)) x h3
theorem rsq_same (W M0 : List (List UInt8)) (i j : Nat) (h : ordL (rsq W M0 i) = ordL (rsq W M0 j)) : ∀ k, ordL (rsq W M0 (i + k)) = ordL (rsq W M0 (j + k))
  | 0 => h
  | k + 1 => by
    have := rsq_same W M0 i j h k
    rw [← Nat.add_assoc, ← Nat.add_assoc, rsq, rsq, this]
theorem ordL_none {M : List (List UInt8)} : ordL M = [] ↔ M = [] := by
  constructor
  · intro h
    cases M with
    | nil => rfl
    | cons x M =>
      have : x ∈ ordL (x :: M) := (mem_ordL _ x).2 (by simp)
      rw [h] at this; cases this
  · rintro rfl
    cases h : ordL [] with
    | nil => rfl
    | cons x M =>
      have : x ∈ ordL [] := by rw [h]; simp
      have := (mem_ordL _ x).1 this
      cases this
/-- if there are rests after so many words there are always some -/
theorem rsq_ever (W M0 : List (List UInt8)) (hW : W.length ≤ 12) (h8 : ∀ t ∈ W, t.length ≤ 8) (hne : ∀ t ∈ W, 1 ≤ t.length) (h0 : ∀ x ∈ M0, x ∈ psufs W) (h : rsq W M0 97 ≠ []) : ∀ d, rsq W M0 d ≠ [] := by
  have hlen := psufs_len W
  obtain ⟨x, hx⟩ := List.exists_mem_of_ne_nil _ h
  have hS := rsq_step W M0
  obtain ⟨t, h1, h2, h3⟩ := chain_of (fun y => W.flatMap fun w => beh W w y) (fun i x => x ∈ rsq W M0 i) hS 97 x hx
  have hsub : (x :: t) ⊆ psufs W := fun v hv => by obtain ⟨a, b, -, h4, -⟩ := h3 v hv; exact rsq_in W M0 h8 hne h0 a v h4
  have hn : ¬ (x :: t).Nodup := fun hn => by have := nodup_le' _ _ hn hsub; rw [List.length_cons] at this; omega
  obtain ⟨a, u, b, d, e⟩ := twice _ hn
  have hu : u ∈ x :: t := by rw [e]; simp
  obtain ⟨p, q, -, h4, -⟩ := h3 u hu
  have h5 : Chn (fun y => W.flatMap fun w => beh W w y) (u :: (b ++ u :: d)) := chn_right _ a _ (by rw [← e]; exact h2)
  have h6 := chn_way _ b u u d h5
  intro k hk
  have h7 := way_on _ (fun i x => x ∈ rsq W M0 i) hS _ p u u h4 (way_rep _ (b.length + 1) u h6 k)
  have stay : ∀ j, rsq W M0 (k + j) = [] := by
    intro j
    induction j with
    | zero => exact hk
    | succ j ih => rw [← Nat.add_assoc, rsq, ih, ordL_none.2 rfl]; rfl
  have h8' : p + (b.length + 1) * k = k + (p + b.length * k) := by rw [Nat.add_mul]; omega
  rw [h8', stay] at h7
  cases h7
theorem join_inj : ∀ (a b : List (List UInt8)), a ≠ [] → b ≠ [] → (∀ x ∈ a, (44 : UInt8) ∉ x) → (∀ x ∈ b, (44 : UInt8) ∉ x) → Lib.join a [44] = Lib.join b [44] → a = b := by
  have cut : ∀ (x y : List UInt8) (p q : List UInt8), (44 : UInt8) ∉ x → (44 : UInt8) ∉ y → x ++ 44 :: p = y ++ 44 :: q → x = y ∧ p = q := by
    intro x
    induction x with
    | nil =>
      intro y p q _ hy e
      cases y with
      | nil => exact ⟨rfl, (List.cons.inj e).2⟩
      | cons c y => exact absurd (by rw [← (List.cons.inj e).1]; simp) hy
    | cons c x ih =>
      intro y p q hx hy e
      cases y with
      | nil => exact absurd (by rw [(List.cons.inj e).1]; simp) hx
      | cons c' y =>
        obtain ⟨e1, e2⟩ := List.cons.inj e
        obtain ⟨e3, e4⟩ := ih y p q (fun h => hx (List.mem_cons_of_mem _ h)) (fun h => hy (List.mem_cons_of_mem _ h)) e2
        exact ⟨by rw [e1, e3], e4⟩
  have none_ : ∀ (x : List UInt8) (y p : List UInt8), (44 : UInt8) ∉ x → x ≠ y ++ 44 :: p := fun x y p hx e => hx (by rw [e]; simp)
  intro a
  induction a with
  | nil => intro b h; exact absurd rfl h
  | cons x a ih =>
    intro b _ hb ha hb' e
    cases b with
    | nil => exact absurd rfl hb
    | cons y b =>
      have hx := ha x (by simp)
      have hy := hb' y (by simp)
      cases a with
      | nil =>
        cases b with
        | nil => rw [Lib.join_one, Lib.join_one] at e; rw [e]
        | cons z b =>
          rw [Lib.join_one, Lib.join_cons] at e
          exact absurd (by simpa [Lib.joinTail] using e) (none_ x y _ hx)
      | cons z a =>
        cases b with
        | nil =>
          rw [Lib.join_one, Lib.join_cons] at e
          exact absurd (by simpa [Lib.joinTail] using e.symm) (none_ y x _ hy)
        | cons z' b =>
          have e1 : ∀ (x z : List UInt8) (a : List (List UInt8)), Lib.join (x :: z :: a) [44] = x ++ 44 :: Lib.join (z :: a) [44] := fun x z a => by
            rw [Lib.join_cons, Lib.join_cons]; simp [Lib.joinTail]
          rw [e1, e1] at e
          obtain ⟨e2, e3⟩ := cut x y _ _ hx hy e
          rw [e2, ih (z' :: b) (by simp) (by simp) (fun w hw => ha w (by simp [hw])) (fun w hw => hb' w (by simp [hw])) e3]
def keyR (M : List (List UInt8)) : ByteArray := joinB (bas M) ⟨#[44]⟩
theorem keyR_ch (M : List (List UInt8)) : ch (keyR M) = Lib.join (ordL M) [44] := by
  have e : (bas M).map (fun x => x.data.toList) = ordL M := ch_bas M
  show (Lib.join ((bas M).map fun x => x.data.toList) [44]).toArray.toList = _
  rw [e]
theorem lens_le : ∀ xs : List (List UInt8), (∀ x ∈ xs, x.length ≤ 8) → Lib.lens xs ≤ 8 * xs.length
  | [], _ => by simp [Lib.lens]
  | x :: xs, h => by
    have h1 := h x (by simp)
    have ih := lens_le xs (fun y hy => h y (by simp [hy]))
    simp only [Lib.lens, List.map_cons, List.sum_cons, List.length_cons] at ih ⊢
    omega
theorem keyR_ev (W M : List (List UInt8)) (hW : W.length ≤ 12) (h8 : ∀ t ∈ W, t.length ≤ 8) (hM : ∀ x ∈ M, x ∈ sufs W) : strings_Join.f (bas M) ⟨#[44]⟩ = some (keyR M) ∧ (keyR M).size ≤ 1000000 := by
  have h1 := ord_few W hW M hM
  have h2 : (bas M).length = (ordL M).length := by unfold bas; simp
  have h3 : (keyR M).size ≤ 2000 := by
    rw [← ch_length, keyR_ch]
    have hs : ∀ x ∈ ordL M, x.length ≤ 8 := fun x hx => sufs_small h8 (hM x ((mem_ordL M x).1 hx))
    generalize ordL M = L at h1 hs
    cases L with
    | nil => simp [Lib.join_nil]
    | cons x r =>
      rw [Lib.join_cons, List.length_append, Lib.joinTail_length]
      have := lens_le r (fun y hy => hs y (by simp [hy]))
      have := hs x (by simp)
      simp only [List.length_cons, List.length_nil] at h1 ⊢
      omega
  refine ⟨?_, by omega⟩
  unfold strings_Join.f
  exact if_pos ⟨by omega, by unfold keyR at h3; omega⟩
theorem duo_pmem (l : List ByteArray) (hne : ∀ w ∈ l, 1 ≤ w.size) (h8 : ∀ w ∈ l, w.size ≤ 8) : ∀ x ∈ duoBeh (l.map ch) (duoRows l.length l.length), x ∈ psufs (l.map ch) := by
  intro x hx
  obtain ⟨p, hp, hx⟩ := List.mem_flatMap.1 hx
  obtain ⟨p1, p2⟩ := duoRows_mem _ _ (Nat.le_refl _) p hp
  rw [getD_map_ch l p.1 p1, getD_map_ch l p.2 p2] at hx
  refine beh_pmem (l.map ch) (wlt l h8) (fun t ht => ?_) _ _ (List.mem_map.2 ⟨_, List.getElem_mem p1, rfl⟩) (suf_self l h8 _ (List.getElem_mem p2)) x hx
  obtain ⟨w, hw, rfl⟩ := List.mem_map.1 ht
  rw [ch_length]; exact hne w hw
theorem delay_same (l : List ByteArray) (hl : l.length ≤ 12) (hne : ∀ w ∈ l, 1 ≤ w.size) (h8 : ∀ w ∈ l, w.size ≤ 8) (hcom : ∀ w ∈ l, (44 : UInt8) ∉ ch w) : ∃ r, Ev (fun k => spec_dlOf.f k l) r ∧ Ev (fun k => impl_delayOf.f k l) r := by
  obtain ⟨W, hWe⟩ : ∃ W, W = l.map ch := ⟨_, rfl⟩
  have hW : W.length ≤ 12 := by rw [hWe, List.length_map]; exact hl
  have hW8 : ∀ t ∈ W, t.length ≤ 8 := hWe ▸ wlt l h8
  have hWne : ∀ t ∈ W, 1 ≤ t.length := fun t ht => by
    rw [hWe] at ht
    obtain ⟨w, hw, rfl⟩ := List.mem_map.1 ht
    rw [ch_length]; exact hne w hw
  have hWc : ∀ t ∈ W, (44 : UInt8) ∉ t := fun t ht => by
    rw [hWe] at ht
    obtain ⟨w, hw, rfl⟩ := List.mem_map.1 ht
    exact hcom w hw
  have s1 := spec_dlFirst_ev l hl hne h8
  have i1 := impl_firstRests_ev l hl hne h8
  have hp0 := duo_pmem l hne h8
  have snx : ∀ M, (∀ x ∈ M, x ∈ sufs W) → Ev (fun k => spec_dlNext.f k l (bas M)) (bas (nxt W (ordL M))) := fun M hM => by
    have hf := ord_few W hW M hM
    have hlen : (bas M).length = (ordL M).length := by unfold bas; simp
    have := spec_dlNext_ev l hl hne h8 (bas M) (by omega)
    rw [ch_bas, ← hWe] at this; exact this
  have inx : ∀ M, (∀ x ∈ M, x ∈ sufs W) → Ev (fun k => impl_nextRests.f k l (bas M)) (bas (nxt W (ordL M))) := fun M hM => by
    have hf := ord_few W hW M hM
    have hlen : (bas M).length = (ordL M).length := by unfold bas; simp
    have := impl_nextRests_ev l hl hne h8 (bas M) (by omega)
    rw [ch_bas, ← hWe] at this; exact this
  rw [← hWe] at s1 i1 hp0
  generalize duoBeh W (duoRows l.length l.length) = M0 at s1 i1 hp0
  have hin := rsq_in W M0 hW8 hWne hp0
  have hsu : ∀ i, ∀ x ∈ rsq W M0 i, x ∈ sufs W := fun i x hx => psufs_sufs W x (hin i x hx)
  have hlen0 : ∀ i, (bas (rsq W M0 i)).length = 0 ↔ rsq W M0 i = [] := fun i => by
    rw [show (bas (rsq W M0 i)).length = (ordL (rsq W M0 i)).length by unfold bas; simp, List.length_eq_zero_iff, ordL_none]
  have hkey := fun i => keyR_ev W (rsq W M0 i) hW hW8 (hsu i)
  have hcm : ∀ i, ∀ x ∈ ordL (rsq W M0 i), (44 : UInt8) ∉ x := fun i x hx hc => by
    obtain ⟨t, ht, h⟩ := List.mem_flatMap.1 (hin i x ((mem_ordL _ x).1 hx))
    obtain ⟨a, -, rfl⟩ := List.mem_map.1 h
    exact hWc t ht (List.mem_of_mem_drop hc)
  have hsame : ∀ i j, rsq W M0 i ≠ [] → rsq W M0 j ≠ [] → ch (keyR (rsq W M0 i)) = ch (keyR (rsq W M0 j)) → ordL (rsq W M0 i) = ordL (rsq W M0 j) := fun i j hi hj h => by
    rw [keyR_ch, keyR_ch] at h
    exact join_inj _ _ (fun e => hi (ordL_none.1 e)) (fun e => hj (ordL_none.1 e)) (hcm i) (hcm j) h
  have hmet : ∀ d s, inS ((List.range d).map fun i => keyR (rsq W M0 i)) s = true ↔ ∃ i, i < d ∧ ch s = ch (keyR (rsq W M0 i)) := fun d s => by
    unfold inS
    rw [List.any_eq_true]
    constructor
    · rintro ⟨y, hy, h⟩
      obtain ⟨i, hi, rfl⟩ := List.mem_map.1 hy
      exact ⟨i, List.mem_range.1 hi, by simpa using h⟩
    · rintro ⟨i, hi, h⟩
      exact ⟨_, List.mem_map.2 ⟨i, List.mem_range.2 hi, rfl⟩, by simpa using h⟩
  have istep : ∀ d, d ≤ 50000000000000 → rsq W M0 d ≠ [] → (∀ i, i < d → ch (keyR (rsq W M0 d)) ≠ ch (keyR (rsq W M0 i))) → ∀ r, Ev (fun k => impl_delayOf.l0 k l ((List.range (d + 1)).map fun i => keyR (rsq W M0 i)) (bas (rsq W M0 (d + 1))) ((d + 1 : Nat) : Int)) r → Ev (fun k => impl_delayOf.l0 k l ((List.range d).map fun i => keyR (rsq W M0 i)) (bas (rsq W M0 d)) (d : Int)) r := fun d hd h1 h2 r hr => by
    have hk := hkey d
    refine Ev.succ ?_
    simp only [impl_delayOf.l0, w1 (show 0 ≤ (d : Int) by omega) (show (d : Int) < 9223372036854775807 by omega)]
    rw [List.range_succ, List.map_append] at hr
    exact Ev.neg (fun e => h1 ((hlen0 d).1 e)) (Ev.known (fun _ => hk.1) (Ev.pos ⟨hk.2, by simp; omega⟩ (Ev.neg (fun e => by obtain ⟨i, hi, e'⟩ := (hmet d _).1 e; exact h2 i hi e') (Ev.bind (inx _ (hsu d)) hr))))
  unfold spec_dlOf.f impl_delayOf.f
  have b0 : (List.range 0).map (fun i => keyR (rsq W M0 i)) = [] := rfl
  by_cases hA : ∃ e, e ≤ 97 ∧ rsq W M0 e = []
  · obtain ⟨e1, he1, hz1⟩ := hA
    obtain ⟨e, hz, hmin⟩ := min_nat (fun e => rsq W M0 e = []) e1 hz1
    have he : e ≤ 97 := by
      refine Nat.le_of_not_lt fun h => hmin e1 (by omega) hz1
    have sp : ∀ c d, d + c = e → Ev (fun k => spec_dlOf.l0 k l (bas (rsq W M0 d)) (d : Int)) ((e : Int), true) := by
      intro c
      induction c with
      | zero =>
        intro d hd
        rw [show d = e by omega]
        refine Ev.succ ?_
        simp only [spec_dlOf.l0]
        exact Ev.pos (by omega) (Ev.pos (by have := (hlen0 e).2 hz; omega) (Ev.now _))
      | succ c ih =>
        intro d hd
        have h1 := hmin d (by omega)
        refine Ev.succ ?_
        simp only [spec_dlOf.l0, w1 (show 0 ≤ (d : Int) by omega) (show (d : Int) < 9223372036854775807 by omega)]
        exact Ev.pos (by omega) (Ev.neg (fun q => h1 ((hlen0 d).1 (by omega))) (Ev.bind (snx _ (hsu d)) (ih (d + 1) (by omega))))
    have im : ∀ c d, d + c = e → Ev (fun k => impl_delayOf.l0 k l ((List.range d).map fun i => keyR (rsq W M0 i)) (bas (rsq W M0 d)) (d : Int)) ((e : Int), true) := by
      intro c
      induction c with
      | zero =>
        intro d hd
        rw [show d = e by omega]
        refine Ev.succ ?_
        simp only [impl_delayOf.l0]
        exact Ev.pos ((hlen0 e).2 hz) (Ev.now _)
      | succ c ih =>
        intro d hd
        refine istep d (by omega) (hmin d (by omega)) (fun i hi hc => ?_) _ (ih (d + 1) (by omega))
        have h1 := hsame d i (hmin d (by omega)) (hmin i (by omega)) hc
        have h2 := rsq_same W M0 d i h1 (c + 1)
        rw [show d + (c + 1) = e by omega, ordL_none.2 hz] at h2
        exact hmin (i + (c + 1)) (by omega) (ordL_none.1 h2.symm)
    exact ⟨_, Ev.bind s1 (sp e 0 (by omega)), Ev.bind i1 (im e 0 (by omega))⟩
  · have hever := rsq_ever W M0 hW hW8 hWne hp0 (fun h => hA ⟨97, Nat.le_refl _, h⟩)
    have hlenX := psufs_len W
    obtain ⟨i0, j0, hij0, hj0, hs0⟩ := orbit (fun y => W.flatMap fun w => beh W w y) (fun i x => x ∈ rsq W M0 i) (rsq_step W M0) (psufs W) (by omega) hin
    obtain ⟨j, ⟨i, hij, hse⟩, hmin⟩ := min_nat (fun j => ∃ i, i < j ∧ ordL (rsq W M0 i) = ordL (rsq W M0 j)) j0 ⟨i0, hij0, ordL_congr hs0⟩
    have hj : j ≤ 30000000000000 := by
      refine Nat.le_of_not_lt fun h => hmin j0 (by omega) ⟨i0, hij0, ordL_congr hs0⟩
    have sp : ∀ c d, d + c = 98 → Ev (fun k => spec_dlOf.l0 k l (bas (rsq W M0 d)) (d : Int)) (0, false) := by
      intro c
      induction c with
      | zero =>
        intro d hd
        refine Ev.succ ?_
        simp only [spec_dlOf.l0]
        exact Ev.neg (by omega) (Ev.now _)
      | succ c ih =>
        intro d hd
        refine Ev.succ ?_
        simp only [spec_dlOf.l0, w1 (show 0 ≤ (d : Int) by omega) (show (d : Int) < 9223372036854775807 by omega)]
        exact Ev.pos (by omega) (Ev.neg (fun q => hever d ((hlen0 d).1 (by omega))) (Ev.bind (snx _ (hsu d)) (ih (d + 1) (by omega))))
    have im : ∀ c d, d + c = j → Ev (fun k => impl_delayOf.l0 k l ((List.range d).map fun i => keyR (rsq W M0 i)) (bas (rsq W M0 d)) (d : Int)) (0, false) := by
      intro c
      induction c with
      | zero =>
        intro d hd
        have hdj : d = j := by omega
        subst hdj
        have hk := hkey d
        refine Ev.succ ?_
        simp only [impl_delayOf.l0]
        refine Ev.neg (fun e => hever d ((hlen0 d).1 e)) (Ev.known (fun _ => hk.1) (Ev.pos ⟨hk.2, by simp; omega⟩ (Ev.pos ((hmet d _).2 ⟨i, hij, ?_⟩) (Ev.now _))))
        rw [keyR_ch, keyR_ch, hse]
      | succ c ih =>
        intro d hd
        exact istep d (by omega) (hever d) (fun i hi hc => hmin d (by omega) ⟨i, hi, (hsame d i (hever d) (hever i) hc).symm⟩) _ (ih (d + 1) (by omega))
    exact ⟨_, Ev.bind s1 (sp 98 0 (by omega)), Ev.bind i1 (im j 0 (by omega))⟩
theorem no_comma {s : ByteArray} (h : short s = true) : (44 : UInt8) ∉ ch s := fun hc => by
  unfold short at h
  simp only [Bool.and_eq_true] at h
  have := List.all_eq_true.1 h.2 44 hc
  revert this; decide

theorem bx_app (a b : List UInt8) : bx a ++ bx b = bx (a ++ b) := by
  apply ch_inj'
  simp [ch, bx, ByteArray.data_append]
theorem wdBack_l0 (s : ByteArray) (hs : s.size ≤ 1000) : ∀ i : Nat, i ≤ s.size → Ev (fun k => spec_wdBack.l0 k s (bx ((ch s).drop i).reverse) ((i : Int) - 1)) (bx (ch s).reverse)
  | 0, _ => by
    refine Ev.succ ?_
    simp only [spec_wdBack.l0]
    exact Ev.neg (by omega) (Ev.pure (by simp))
  | i + 1, h => by
    have hl := ch_length s
    have h1 : i < (ch s).length := by omega
    have ih := wdBack_l0 s hs i (by omega)
    have e0 : Aside0 (((i + 1 : Nat) : Int) - 1 = (i : Int)) := ⟨by omega⟩
    have e1 : Aside0 (wrap64 ((i : Int) + 1) = ((i + 1 : Nat) : Int)) := ⟨by rw [w64 (by omega) (by omega)]; omega⟩
    have e2 : Aside0 (wrap64 ((i : Int) - 1) = (i : Int) - 1) := ⟨w64 (by omega) (by omega)⟩
    have e3 : s.extract i (i + 1) = bx [(ch s)[i]] := by
      apply ch_inj'
      rw [ch_extract, ch_bx, List.drop_eq_getElem_cons h1, show i + 1 - i = 1 by omega]; rfl
    have e4 : bx ((ch s).drop (i + 1)).reverse ++ bx [(ch s)[i]] = bx ((ch s).drop i).reverse := by
      rw [bx_app, List.drop_eq_getElem_cons h1, List.reverse_cons]
    rw [e0.out]
    refine Ev.succ ?_
    simp only [spec_wdBack.l0, e1.out, e2.out, Int.toNat_natCast, e3, e4]
    exact Ev.pos (by omega) (Ev.pos (by omega) (Ev.pos (by omega) (Ev.pos (by omega) (Ev.pos (by rw [bx_size, bx_size]; simp; omega) ih))))
theorem wdBack_ev (s : ByteArray) (hs : s.size ≤ 1000) : Ev (fun k => spec_wdBack.f k s) (bx (ch s).reverse) := by
  have h := wdBack_l0 s hs s.size (Nat.le_refl _)
  rw [List.drop_of_length_le (by rw [ch_length]; exact Nat.le_refl _)] at h
  unfold spec_wdBack.f
  rw [w64 (by omega) (by omega)]
  exact h
/-- all words backwards -/
def revs (l : List ByteArray) : List (List UInt8) := l.map fun s => (ch s).reverse
theorem revs_snoc (a : List ByteArray) (s : ByteArray) : revs (a ++ [s]) = revs a ++ [(ch s).reverse] := by unfold revs; rw [List.map_append]; rfl
theorem wdReverse_ev (l : List ByteArray) (hl : l.length ≤ 12) (h8 : ∀ w ∈ l, w.size ≤ 8) : Ev (fun k => spec_wdReverse.f k l) (bas (revs l)) := by
  unfold spec_wdReverse.f
  have start : ([] : List ByteArray) = bas (revs (l.take 0)) := by simp [revs, bas_nil]
  rw [start]
  refine Ev.loop (fun i k => spec_wdReverse.l0 k (bas (revs (l.take i))) l (l.length : Int) (i : Int)) l.length _ (fun i hi hnext => ?_) ?_
  · have hw := h8 _ (List.getElem_mem hi)
    have hput := wdPut_ev (revs (l.take i)) (bx (ch l[i]).reverse) (by simp [revs]; omega)
    rw [ch_bx] at hput
    rw [List.take_succ_eq_append_getElem hi, revs_snoc] at hnext
    refine Ev.succ ?_
    simp only [spec_wdReverse.l0, rdOf_nat l i hi, w1 (show 0 ≤ (i : Int) by omega) (show (i : Int) < 9223372036854775807 by omega)]
    exact Ev.pos (by omega) (Ev.pos (by omega) (Ev.pos (by omega) (Ev.bind (wdBack_ev l[i] (by omega)) (Ev.bind hput hnext))))
  · refine Ev.succ ?_
    simp only [spec_wdReverse.l0]
    exact Ev.neg (by omega) (Ev.pure (by rw [List.take_of_length_le (Nat.le_refl _)]))
theorem mappedBack_ev (l : List ByteArray) (hl : l.length ≤ 12) (hne : ∀ w ∈ l, 1 ≤ w.size) (h8 : ∀ w ∈ l, w.size ≤ 8) : Ev (fun k => impl_mapped_at_impl_back.f k l) (bas (revs l)) := by
  unfold impl_mapped_at_impl_back.f
  have start : ([] : List ByteArray) = (revs (l.take 0)).map bx := by simp [revs]
  rw [start]
  refine Ev.loop (fun i k => impl_mapped_at_impl_back.l0 k ((revs (l.take i)).map bx) l (l.length : Int) (i : Int)) l.length _ (fun i hi hnext => ?_) ?_
  · have hw := h8 _ (List.getElem_mem hi)
    have hw1 := hne _ (List.getElem_mem hi)
    have hbk : impl_back.f l[i] = some (bx (ch l[i]).reverse) := by unfold impl_back.f; rw [if_pos ⟨hw1, by omega⟩]; rfl
    rw [List.take_succ_eq_append_getElem hi, show (revs (l.take i ++ [l[i]])).map bx = (revs (l.take i)).map bx ++ [bx (ch l[i]).reverse] by rw [revs_snoc, List.map_append]; rfl] at hnext
    refine Ev.succ ?_
    simp only [impl_mapped_at_impl_back.l0, rdOf_nat l i hi, w1 (show 0 ≤ (i : Int) by omega) (show (i : Int) < 9223372036854775807 by omega)]
    exact Ev.pos (by omega) (Ev.pos (by omega) (Ev.pos (by omega) (Ev.known (fun _ => hbk) (Ev.pos (by simp [revs]; omega) hnext))))
  · refine Ev.succ ?_
    simp only [impl_mapped_at_impl_back.l0]
    rw [List.take_of_length_le (Nat.le_refl _)]
    refine Ev.neg (by omega) (Ev.known (fun _ => ordered_eq _ (by simp [revs]; omega)) (Ev.pure ?_))
    rw [map_ch_bx]

theorem db_same (l : List ByteArray) (hl : l.length ≤ 1048576) : ∃ r, Ev (fun k => spec_DelayBack.f k l) r ∧ Ev (fun k => impl_DelayBack.f k l) r := by
  obtain ⟨b, h1, h2, hb⟩ := isSet_same l hl
  unfold spec_DelayBack.f impl_DelayBack.f
  cases b with
  | false => exact ⟨(0, false), Ev.bind h1 (Ev.neg (by simp) (Ev.now _)), Ev.bind h2 (Ev.neg (by simp) (Ev.now _))⟩
  | true =>
    have hset := hb rfl
    have hne := fun w hw => (hset.size w hw).1
    have h8 := fun w hw => (hset.size w hw).2
    have g1 := wdReverse_ev l hset.few h8
    have g2 := mappedBack_ev l hset.few hne h8
    have hw : ∀ w ∈ bas (revs l), ∃ s ∈ l, ch w = (ch s).reverse := fun w hw => by
      obtain ⟨x, hx, rfl⟩ := List.mem_map.1 hw
      obtain ⟨s, hs, rfl⟩ := List.mem_map.1 ((mem_ordL _ x).1 hx)
      exact ⟨s, hs, ch_bx _⟩
    have hz : ∀ w ∈ bas (revs l), 1 ≤ w.size ∧ w.size ≤ 8 ∧ (44 : UInt8) ∉ ch w := fun w hw' => by
      obtain ⟨s, hs, e⟩ := hw w hw'
      have e2 := congrArg List.length e
      rw [ch_length, List.length_reverse, ch_length] at e2
      have := hset.size s hs
      refine ⟨by omega, by omega, ?_⟩
      rw [e, List.mem_reverse]
      exact no_comma (hset.short s hs)
    have hlen : (bas (revs l)).length ≤ 12 := by
      have h1 := bas_len (revs l)
      have h2 : (revs l).length = l.length := by simp [revs]
      have := hset.few
      omega
    obtain ⟨r, r1, r2⟩ := delay_same (bas (revs l)) hlen (fun w hw => (hz w hw).1) (fun w hw => (hz w hw).2.1) (fun w hw => (hz w hw).2.2)
    exact ⟨_, Ev.bind h1 (Ev.pos rfl (Ev.bind g1 (Ev.bind r1 (Ev.now _)))), Ev.bind h2 (Ev.pos rfl (Ev.bind g2 (Ev.bind r2 (Ev.now _))))⟩
theorem FnExactDelayBack : laws_FnExactDelayBack.Pure := by
  intro l hl hs
  refine Ev.rounds ?_
  unfold laws_FnExactDelayBack.f
  obtain ⟨z, hz, hzz⟩ := szS_ev l hl hs
  refine Ev.bind hz (Ev.cases (fun _ => Ev.now _) (fun hzn => ?_))
  obtain ⟨hl', -⟩ := hzz (by omega)
  obtain ⟨r, h1, h2⟩ := db_same l hl'
  refine Ev.bind (toS_ev l hl') (Ev.bind h1 (Ev.bind (toS_ev l hl') (Ev.bind h2 (Ev.pos rfl ?_))))
  refine Ev.succ ?_
  simp only [laws_FnExactDelayBack.j0]
  exact Ev.neg (by simp) (Ev.bind (toS_ev l hl') (Ev.bind (eqS_ev l hl') (Ev.pos rfl (Ev.now _))))
end Go.Proofs.YtpldfbkknkhlaaaDoor.Pure
