/- InnerWeight of the program and of the reference answer alike for all arguments, and leave them as they were: no condition. -/
import Derived.Test.YtaglbacldonflaaDoorXFnExactInnerWeightxp
namespace Go.Proofs.YtaglbacldonflaaDoor.Pure
set_option linter.unusedSimpArgs false
set_option linter.unusedVariables false
open Go.RowKit Go.Proofs.YtaglbacldonflaaDoor.Hand Go.Proofs.YtaglbacldonflaaDoor.XFnExactInnerWeight Go.Proofs.YtaglbacldonflaaDoorW.PrintWords Go.Proofs.YtaglbacldonflaaDoorW.PrintLast Go.Proofs.YtaglbacldonflaaDoorW.PrintMore

theorem w1 {i : Int} (h0 : 0 ≤ i) (h : i < 9223372036854775807) : wrap64 (i + 1) = i + 1 := by unfold wrap64; omega
theorem w64 {i : Int} (h0 : -9223372036854775808 ≤ i) (h : i < 9223372036854775808) : wrap64 i = i := by unfold wrap64; omega
theorem rd_nat (l : List Int) (i : Nat) (h : i < l.length) : rd l (i : Int) = l[i] := by
  unfold rd; simp [List.getD_eq_getElem?_getD, h]
theorem Ev.pos {α : Type} {c : Prop} [Decidable c] {g g' : Nat → Option α} {r : α} (h : c) (k : Ev g r) : Ev (fun n => if c then g n else g' n) r :=
  Ev.congr (fun n => if_pos h) k
theorem Ev.neg {α : Type} {c : Prop} [Decidable c] {g g' : Nat → Option α} {r : α} (h : ¬ c) (k : Ev g' r) : Ev (fun n => if c then g n else g' n) r :=
  Ev.congr (fun n => if_neg h) k
theorem Ev.cases {α : Type} {c : Prop} [Decidable c] {g g' : Nat → Option α} {r : α} (h : c → Ev g r) (k : ¬ c → Ev g' r) : Ev (fun n => if c then g n else g' n) r := by
  by_cases e : c
  · exact Ev.pos e (h e)
  · exact Ev.neg e (k e)
/-- a call whose answer is known at every number of rounds -/
theorem Ev.known {α β : Type} {g : Nat → Option α} {f : Nat → α → Option β} {a : α} {r : β} (h : ∀ n, g n = some a) (k : Ev (fun n => f n a) r) : Ev (fun n => (g n).bind (f n)) r :=
  Ev.bind ⟨0, fun n _ => h n⟩ k
/-- one bind of two, joined with what follows -/
theorem Ev.pure {α : Type} {r q : α} (h : r = q) : Ev (fun _ => some r) q := h ▸ Ev.now r
theorem Ev.succ {α : Type} {g : Nat → Option α} {r : α} (h : Ev (fun k => g (k + 1)) r) : Ev g r := Ev.step (f := fun k => g (k + 1)) (fun _ => rfl) h

theorem rdOf_nat (l : List ByteArray) (i : Nat) (h : i < l.length) : rdOf ByteArray.empty l (i : Int) = l[i] := by
  unfold rdOf; simp [List.getD_eq_getElem?_getD, h]

theorem maxLen_le : maxLen ≤ 9223372036854775807 := by unfold maxLen; omega
theorem szS_l0 (l : List ByteArray) (hl : l.length ≤ 9223372036854775807) (hs : ∀ s ∈ l, s.size ≤ 9223372036854775807) : ∀ (d i : Nat) (b : Int), i + d = l.length → 0 ≤ b → b ≤ 1048576 → ∃ r, Ev (fun k => laws_szStringS.l0 k l b (i : Int)) r ∧ (0 ≤ r → r ≤ 1048576 ∧ ∀ s ∈ l.drop i, s.size ≤ 1048576)
  | 0, i, b, hd, h0, hb => by
    refine ⟨b, Ev.succ ?_, fun _ => ⟨hb, fun s h => ?_⟩⟩
    · simp only [laws_szStringS.l0]; exact Ev.neg (by omega) (Ev.now _)
    · rw [List.drop_of_length_le (by omega)] at h; cases h
  | d + 1, i, b, hd, h0, hb => by
    have h1 : i < l.length := by omega
    have h2 := hs _ (List.getElem_mem h1)
    have e : Aside0 (wrap64 (b - (l[i].size : Int)) = b - (l[i].size : Int)) := ⟨w64 (by omega) (by omega)⟩
    by_cases hc : b - (l[i].size : Int) < 0
    · refine ⟨-1, Ev.succ ?_, fun h => by omega⟩
      simp only [laws_szStringS.l0, rdOf_nat l i h1, e.out]
      exact Ev.pos (by omega) (Ev.pos (by omega) (Ev.pos hc (Ev.now _)))
    · obtain ⟨r, hr, hh⟩ := szS_l0 l hl hs d (i + 1) (b - (l[i].size : Int)) (by omega) (by omega) (by omega)
      refine ⟨r, Ev.succ ?_, fun h => ⟨(hh h).1, fun s hm => ?_⟩⟩
      · simp only [laws_szStringS.l0, rdOf_nat l i h1, e.out, w1 (show 0 ≤ (i : Int) by omega) (show (i : Int) < 9223372036854775807 by omega)]
        exact Ev.pos (by omega) (Ev.pos (by omega) (Ev.neg hc hr))
      · rw [List.drop_eq_getElem_cons h1] at hm
        rcases List.mem_cons.1 hm with rfl | hm
        · omega
        · exact (hh h).2 s hm
theorem szS_ev (l : List ByteArray) (hl : l.length ≤ maxLen) (hs : ∀ s ∈ l, s.size ≤ maxLen) : ∃ r, Ev (fun k => laws_szStringS.f k l 1048576) r ∧ (0 ≤ r → l.length ≤ 1048576 ∧ r ≤ 1048576 ∧ ∀ s ∈ l, s.size ≤ 1048576) := by
  have hm := maxLen_le
  have e : Aside0 (wrap64 (1048576 - (l.length : Int)) = 1048576 - (l.length : Int)) := ⟨w64 (by omega) (by omega)⟩
  unfold laws_szStringS.f
  rw [e.out]
  by_cases hc : 1048576 - (l.length : Int) < 0
  · exact ⟨-1, Ev.pos hc (Ev.now _), fun h => by omega⟩
  · obtain ⟨r, hr, hh⟩ := szS_l0 l (by omega) (fun s h => Nat.le_trans (hs s h) hm) l.length 0 (1048576 - (l.length : Int)) (by omega) (by omega) (by omega)
    exact ⟨r, Ev.neg hc hr, fun h => ⟨by omega, (hh h).1, by simpa using (hh h).2⟩⟩
theorem toS_l0 (l : List ByteArray) (hl : l.length ≤ 1048576) : ∀ (d i : Nat) (xs : List ByteArray), i + d = l.length → xs.length = l.length → xs.take i = l.take i → Ev (fun k => laws_toStringS.l0 k l xs (i : Int)) l
  | 0, i, xs, hd, hx, ht => by
    refine Ev.step (f := fun _ => some xs) (fun k => ?_) (Ev.pure ?_)
    · simp only [laws_toStringS.l0]; rw [if_neg (by omega)]
    · rw [List.take_of_length_le (by omega), List.take_of_length_le (by omega)] at ht; exact ht
  | d + 1, i, xs, hd, hx, ht => by
    refine Ev.step (f := fun k => laws_toStringS.l0 k l (xs.set i (rdOf ByteArray.empty l i)) ((i + 1 : Nat) : Int)) (fun k => ?_) (toS_l0 l hl d (i + 1) _ (by omega) (by simp [hx]) ?_)
    · simp only [laws_toStringS.l0]; rw [if_pos (by omega), if_pos (by omega), if_pos (by omega), w1 (by omega) (by omega)]; simp
    · have h1 : i < l.length := by omega
      have h2 : i < (xs.set i (rdOf ByteArray.empty l i)).length := by simp; omega
      have e := rdOf_nat l i h1
      rw [List.take_succ_eq_append_getElem h2, List.take_succ_eq_append_getElem h1, List.take_set, List.set_eq_of_length_le (by simp; omega), ht]
      simp [e]
theorem toS_ev (l : List ByteArray) (hl : l.length ≤ 1048576) : Ev (fun k => laws_toStringS.f k l) l := by
  unfold laws_toStringS.f
  refine Ev.pos (by omega) (Ev.pos (by omega) ?_)
  have h := toS_l0 l hl l.length 0 (List.replicate l.length ⟨#[]⟩) (by omega) (by simp) (by simp)
  simpa using h
theorem eqS_l0 (l : List ByteArray) (hl : l.length ≤ 1048576) : ∀ (d i : Nat), i + d = l.length → Ev (fun k => laws_eqStringS.l0 k l l (i : Int)) true
  | 0, i, hd => Ev.step (f := fun _ => some true) (fun k => by simp only [laws_eqStringS.l0]; rw [if_neg (by omega)]) (Ev.now _)
  | d + 1, i, hd => by
    refine Ev.step (f := fun k => laws_eqStringS.l0 k l l ((i + 1 : Nat) : Int)) (fun k => ?_) (eqS_l0 l hl d (i + 1) (by omega))
    simp only [laws_eqStringS.l0]; rw [if_pos (by omega), if_pos (by omega), if_pos (by omega), if_pos trivial, w1 (by omega) (by omega)]; simp
theorem eqS_ev (l : List ByteArray) (hl : l.length ≤ 1048576) : Ev (fun k => laws_eqStringS.f k l l) true := by
  unfold laws_eqStringS.f
  exact Ev.pos rfl (by simpa using eqS_l0 l hl l.length 0 (by omega))


theorem toIntS_l0 (l : List Int) (hl : l.length ≤ 1048576) : ∀ (d i : Nat) (xs : List Int), i + d = l.length → xs.length = l.length → xs.take i = l.take i → Ev (fun k => laws_toIntS.l0 k l xs (i : Int)) l
  | 0, i, xs, hd, hx, ht => by
    refine Ev.step (f := fun _ => some xs) (fun k => ?_) (Ev.pure ?_)
    · simp only [laws_toIntS.l0]; rw [if_neg (by omega)]
    · rw [List.take_of_length_le (by omega), List.take_of_length_le (by omega)] at ht; exact ht
  | d + 1, i, xs, hd, hx, ht => by
    refine Ev.step (f := fun k => laws_toIntS.l0 k l (xs.set i (rd l i)) ((i + 1 : Nat) : Int)) (fun k => ?_) (toIntS_l0 l hl d (i + 1) _ (by omega) (by simp [hx]) ?_)
    · simp only [laws_toIntS.l0]; rw [if_pos (by omega), if_pos (by omega), if_pos (by omega), w1 (by omega) (by omega)]; simp
    · have h1 : i < l.length := by omega
      have h2 : i < (xs.set i (rd l i)).length := by simp; omega
      have e := rd_nat l i h1
      rw [List.take_succ_eq_append_getElem h2, List.take_succ_eq_append_getElem h1, List.take_set, List.set_eq_of_length_le (by simp; omega), ht]
      simp [e]
theorem toIntS_ev (l : List Int) (hl : l.length ≤ 1048576) : Ev (fun k => laws_toIntS.f k l) l := by
  unfold laws_toIntS.f
  refine Ev.pos (by omega) (Ev.pos (by omega) ?_)
  have h := toIntS_l0 l hl l.length 0 (List.replicate l.length 0) (by omega) (by simp) (by simp)
  simpa using h
theorem eqIntS_l0 (l : List Int) (hl : l.length ≤ 1048576) : ∀ (d i : Nat), i + d = l.length → Ev (fun k => laws_eqIntS.l0 k l l (i : Int)) true
  | 0, i, hd => Ev.step (f := fun _ => some true) (fun k => by simp only [laws_eqIntS.l0]; rw [if_neg (by omega)]) (Ev.now _)
  | d + 1, i, hd => by
    refine Ev.step (f := fun k => laws_eqIntS.l0 k l l ((i + 1 : Nat) : Int)) (fun k => ?_) (eqIntS_l0 l hl d (i + 1) (by omega))
    simp only [laws_eqIntS.l0]; rw [if_pos (by omega), if_pos (by omega), if_pos (by omega), if_pos trivial, w1 (by omega) (by omega)]; simp
theorem eqIntS_ev (l : List Int) (hl : l.length ≤ 1048576) : Ev (fun k => laws_eqIntS.f k l l) true := by
  unfold laws_eqIntS.f
  exact Ev.pos rfl (by simpa using eqIntS_l0 l hl l.length 0 (by omega))


theorem spec_in (a b c : Int) : spec_l1In.f a b c = some (decide (b ≤ a ∧ a ≤ c)) := by
  unfold spec_l1In.f
  by_cases h : a ≥ b
  · rw [if_pos h]; simp [h]
  · rw [if_neg h]; simp; omega

theorem spec_all_l0 (a b : Int) (l : List Int) (hl : l.length ≤ 1048576) : ∀ (d i : Nat), i + d = l.length → Ev (fun k => spec_l1All.l0 k a b l (l.length : Int) (i : Int)) ((l.drop i).all fun x => decide (a ≤ x ∧ x ≤ b))
  | 0, i, hd => Ev.step (f := fun _ => some true) (fun k => by simp only [spec_l1All.l0]; rw [if_neg (by omega)]) (Ev.pure (by rw [List.drop_of_length_le (by omega)]; rfl))
  | d + 1, i, hd => by
    have h1 : i < l.length := by omega
    have ih := spec_all_l0 a b l hl d (i + 1) (by omega)
    rw [List.drop_eq_getElem_cons h1, List.all_cons]
    refine Ev.step (f := fun k => if (decide (a ≤ l[i] ∧ l[i] ≤ b)) = true then spec_l1All.l0 k a b l (l.length : Int) ((i + 1 : Nat) : Int) else some false) (fun k => ?_) ?_
    · simp only [spec_l1All.l0, spec_in]; rw [if_pos (by omega), if_pos (by omega), if_pos (by omega), w1 (by omega) (by omega), rd_nat l i h1]; simp
    · refine Ev.cases (fun h => ?_) (fun h => ?_)
      · rw [h, Bool.true_and]; exact ih
      · rw [Bool.eq_false_iff.mpr h, Bool.false_and]; exact Ev.now _
theorem spec_all (l : List Int) (a b : Int) (hl : l.length ≤ 1048576) : Ev (fun k => spec_l1All.f k l a b) (l.all fun x => decide (a ≤ x ∧ x ≤ b)) := by
  have h := spec_all_l0 a b l hl l.length 0 (by omega)
  simpa [spec_l1All.f] using h

theorem impl_in_eq (a b c : Int) : impl_in.f a b c = some (decide (b ≤ a ∧ a ≤ c)) := by
  unfold impl_in.f
  by_cases h : b ≤ a
  · rw [if_pos h]; simp [h]
  · rw [if_neg h]; simp [h]

theorem bt_nat (s : ByteArray) (i : Nat) (h : i < s.data.toList.length) : bt s (i : Int) = ((s.data.toList[i]).toNat : Int) := by
  have h' : i < s.size := by have e : s.size = s.data.toList.length := Array.length_toList.symm; omega
  unfold bt
  rw [dif_pos (show (i : Int).toNat < s.size by simpa using h')]
  simp [ByteArray.getElem_eq_getElem_data]
theorem size_data (s : ByteArray) : s.size = s.data.toList.length := Array.length_toList.symm
theorem letter_test (c : UInt8) : ((c.toNat : Int) < 97 ∨ ((c.toNat : Int) - 97) % 256 ≥ 3) ↔ isLetter c = false := by
  have := c.toNat_lt
  unfold isLetter
  rw [decide_eq_false_iff_not]
  omega
theorem wdIs_l0 (s : ByteArray) (hs : s.size < 4611686018427387904) : ∀ (d i : Nat), i + d = s.data.toList.length → Ev (fun k => spec_wdIs.l0 k s (i : Int)) ((s.data.toList.drop i).all isLetter)
  | 0, i, hd => by
    refine Ev.succ ?_
    simp only [spec_wdIs.l0]
    exact Ev.neg (by rw [size_data]; omega) (Ev.pure (by rw [List.drop_of_length_le (by omega)]; rfl))
  | d + 1, i, hd => by
    have h1 : i < s.data.toList.length := by omega
    have ih := wdIs_l0 s hs d (i + 1) (by omega)
    have ht := letter_test s.data.toList[i]
    have hsz := size_data s
    rw [List.drop_eq_getElem_cons h1, List.all_cons]
    refine Ev.succ ?_
    simp only [spec_wdIs.l0, bt_nat s i h1, w1 (show 0 ≤ (i : Int) by omega) (show (i : Int) < 9223372036854775807 by omega)]
    refine Ev.pos (by omega) (Ev.pos (by omega) (Ev.cases (fun h => ?_) (fun h => Ev.cases (fun h' => ?_) (fun h' => ?_))))
    · rw [ht.1 (Or.inl h)]; exact Ev.now _
    · rw [ht.1 (Or.inr h')]; exact Ev.now _
    · have : isLetter s.data.toList[i] = true := by
        cases hl : isLetter s.data.toList[i]
        · exact absurd (ht.2 hl) (by omega)
        · rfl
      rw [this, Bool.true_and]; exact ih
theorem wdIs_ev (s : ByteArray) (hs : s.size < 4611686018427387904) : Ev (fun k => spec_wdIs.f k s) (s.data.toList.all isLetter) := by
  have h := wdIs_l0 s hs s.data.toList.length 0 (by omega)
  simpa [spec_wdIs.f] using h

/-- a word of a set -/
def short (s : ByteArray) : Bool := decide (1 ≤ s.size ∧ s.size ≤ 8) && s.data.toList.all isLetter
theorem wdShort_ev (s : ByteArray) : Ev (fun k => spec_wdShort.f k s) (short s) := by
  unfold spec_wdShort.f short
  refine Ev.known (fun _ => spec_in _ _ _) (Ev.cases (fun h => ?_) (fun h => ?_))
  · have h' := of_decide_eq_true h
    rw [decide_eq_true (show 1 ≤ s.size ∧ s.size ≤ 8 by omega), Bool.true_and]
    exact Ev.bind (wdIs_ev s (by omega)) (Ev.now _)
  · rw [decide_eq_false (show ¬ (1 ≤ s.size ∧ s.size ≤ 8) by intro hh; exact h (decide_eq_true (by omega))), Bool.false_and]
    exact Ev.now _
theorem isShort_eq (s : ByteArray) : impl_isShort.f s = some (short s) := by
  unfold impl_isShort.f impl_isWord.f short
  by_cases h : 1 ≤ s.size ∧ s.size ≤ 8
  · rw [decide_eq_true h, decide_eq_true (show s.size ≤ 60 by omega)]
    cases s.data.toList.all isLetter
    · rfl
    · simp [impl_in_eq]; omega
  · rw [decide_eq_false h]
    cases (decide (s.size ≤ 60) && s.data.toList.all isLetter)
    · rfl
    · simp [impl_in_eq]; omega
theorem bytesLess_cmp : ∀ (x y : List UInt8), Op.bytesLess x y = decide (Lib.compareBytes x y < 0)
  | [], [] => by simp [Op.bytesLess, Lib.compareBytes]
  | _ :: _, [] => by simp [Op.bytesLess, Lib.compareBytes]
  | [], _ :: _ => by simp [Op.bytesLess, Lib.compareBytes]
  | a :: x, b :: y => by
    rw [Op.bytesLess, bytesLess_cmp x y, Lib.compareBytes]
    by_cases h1 : a < b
    · simp [h1]
    · by_cases h2 : b < a
      · have : (a == b) = false := by
          rw [beq_eq_false_iff_ne]; rintro rfl; exact h1 h2
        simp [h1, h2, this]
      · have : a = b := by
          have h1' : ¬ a.toNat < b.toNat := h1
          have h2' : ¬ b.toNat < a.toNat := h2
          exact UInt8.toNat_inj.1 (by omega)
        subst this; simp [h1]
theorem bytesLess_irrefl : ∀ (x : List UInt8), Op.bytesLess x x = false
  | [] => rfl
  | a :: x => by rw [Op.bytesLess, bytesLess_irrefl x]; simp
theorem bytesLess_trans : ∀ (x y z : List UInt8), Op.bytesLess x y = true → Op.bytesLess y z = true → Op.bytesLess x z = true
  | _, [], _ => by simp [Op.bytesLess]
  | _, _ :: _, [] => by simp [Op.bytesLess]
  | [], _ :: _, _ :: _ => by simp [Op.bytesLess]
  | a :: x, b :: y, c :: z => by
    have ih := bytesLess_trans x y z
    simp only [Op.bytesLess, Bool.or_eq_true, decide_eq_true_eq, Bool.and_eq_true, beq_iff_eq]
    intro h1 h2
    rcases h1 with h1 | ⟨rfl, h1⟩
    · rcases h2 with h2 | ⟨rfl, h2⟩
      · exact Or.inl (UInt8.lt_trans h1 h2)
      · exact Or.inl h1
    · rcases h2 with h2 | ⟨rfl, h2⟩
      · exact Or.inl h2
      · exact Or.inr ⟨rfl, ih h1 h2⟩
/-- the order of words: by length, then by letters -/
def wless (a b : ByteArray) : Bool := decide (a.size < b.size) || (decide (a.size = b.size) && Op.bytesLess a.data.toList b.data.toList)
theorem wless_irrefl (a : ByteArray) : wless a a = false := by unfold wless; rw [bytesLess_irrefl]; simp
theorem wless_trans (a b c : ByteArray) (h1 : wless a b = true) (h2 : wless b c = true) : wless a c = true := by
  unfold wless at *
  simp only [Bool.or_eq_true, decide_eq_true_eq, Bool.and_eq_true] at *
  rcases h1 with h1 | ⟨h1, g1⟩ <;> rcases h2 with h2 | ⟨h2, g2⟩
  · left; omega
  · left; omega
  · left; omega
  · exact Or.inr ⟨by omega, bytesLess_trans _ _ _ g1 g2⟩
theorem wdLess_eq (a b : ByteArray) : spec_wdLess.f a b = some (wless a b) := by
  unfold spec_wdLess.f wless
  by_cases h : a.size < b.size
  · rw [if_pos (by omega)]; simp [h]
  · rw [if_neg (by omega)]
    by_cases h' : a.size = b.size
    · rw [if_pos (by omega)]; simp [h', ByteArray.toList_eq]
    · rw [if_neg (by omega)]; simp [h, h']
theorem or2 (a b : Int) : Ev (fun k => cmp_Or_int.f k [a, b]) (if a = 0 then b else a) := by
  refine ⟨3, fun k hk => ?_⟩
  obtain ⟨k, rfl⟩ : ∃ m, k = m + 3 := ⟨k - 3, by omega⟩
  by_cases ha : a = 0 <;> by_cases hb : b = 0 <;> simp [cmp_Or_int.f, cmp_Or_int.l0, rd, wrap64, ha, hb]
theorem compareWords_ev (a b : ByteArray) : ∃ c, Ev (fun k => impl_compareWords.f k a b) c ∧ wless a b = decide (c < 0) := by
  have hn : ∀ x : Int, cmp_isNaN_int.f x = some false := fun x => by simp [cmp_isNaN_int.f]
  have hc : cmp_Compare_int.f (a.size : Int) (b.size : Int) = some (if a.size < b.size then -1 else if b.size < a.size then 1 else 0) := by
    unfold cmp_Compare_int.f
    simp only [hn, Option.bind_some]
    rw [if_neg (by simp), if_neg (by simp)]
    by_cases h1 : a.size < b.size
    · rw [if_pos (by omega), if_pos h1]
    · rw [if_neg (by omega), if_neg h1]
      by_cases h2 : b.size < a.size
      · rw [if_pos (by omega), if_pos h2]
      · rw [if_neg (by omega), if_neg h2]
  refine ⟨_, Ev.known (fun _ => hc) (Ev.known (fun _ => rfl) (Ev.bind (or2 _ _) (Ev.now _))), ?_⟩
  unfold wless
  rw [bytesLess_cmp]
  by_cases h1 : a.size < b.size
  · simp [h1]
  · by_cases h2 : b.size < a.size
    · rw [if_neg h1, if_pos h2]; simp [h1, show ¬ a.size = b.size by omega]
    · rw [if_neg h1, if_neg h2]; simp [h1, show a.size = b.size by omega]
/-- a set: words of the right size, one by one in order -/
def SetUpto (l : List ByteArray) (i : Nat) : Prop := ∀ (j : Nat) (h : j < l.length), i ≤ j → short l[j] = true ∧ (0 < j → wless l[j - 1] l[j] = true)
theorem set_l0 (l : List ByteArray) (hl : l.length ≤ 1048576) : ∀ (d i : Nat), i + d = l.length → ∃ b, Ev (fun k => spec_wdSet.l0 k l l (l.length : Int) (i : Int)) b ∧ Ev (fun k => impl_isSet.l0 k l l (l.length : Int) (i : Int)) (b && decide (l.length ≤ 12)) ∧ (b = true → SetUpto l i)
  | 0, i, hd => by
    refine ⟨true, Ev.succ ?_, Ev.succ ?_, fun _ j h hj => by omega⟩
    · simp only [spec_wdSet.l0]; exact Ev.neg (by omega) (Ev.now _)
    · simp only [impl_isSet.l0]; refine Ev.neg (by omega) (Ev.pure ?_); rw [Bool.true_and]; exact decide_eq_decide.2 (by omega)
  | d + 1, i, hd => by
    have h1 : i < l.length := by omega
    obtain ⟨b, e1, e2, hb⟩ := set_l0 l hl d (i + 1) (by omega)
    have s1 := wdShort_ev l[i]
    have s2 := isShort_eq l[i]
    cases hs : short l[i]
    · rw [hs] at s1 s2
      refine ⟨false, Ev.succ ?_, Ev.succ ?_, fun h => by cases h⟩
      · simp only [spec_wdSet.l0, rdOf_nat l i h1]
        exact Ev.pos (by omega) (Ev.pos (by omega) (Ev.pos (by omega) (Ev.bind s1 (Ev.neg (by simp) (Ev.now _)))))
      · simp only [impl_isSet.l0, rdOf_nat l i h1]
        exact Ev.pos (by omega) (Ev.pos (by omega) (Ev.pos (by omega) (Ev.known (fun _ => s2) (Ev.neg (by simp) (Ev.now _)))))
    · rw [hs] at s1 s2
      by_cases h0 : i = 0
      · refine ⟨b, Ev.succ ?_, Ev.succ ?_, fun h j hj hij => ?_⟩
        · simp only [spec_wdSet.l0, rdOf_nat l i h1, w1 (show 0 ≤ (i : Int) by omega) (show (i : Int) < 9223372036854775807 by omega)]
          exact Ev.pos (by omega) (Ev.pos (by omega) (Ev.pos (by omega) (Ev.bind s1 (Ev.pos rfl (Ev.neg (by omega) e1)))))
        · simp only [impl_isSet.l0, rdOf_nat l i h1, w1 (show 0 ≤ (i : Int) by omega) (show (i : Int) < 9223372036854775807 by omega)]
          exact Ev.pos (by omega) (Ev.pos (by omega) (Ev.pos (by omega) (Ev.known (fun _ => s2) (Ev.pos rfl (Ev.neg (by omega) e2)))))
        · by_cases he : i = j
          · subst he; exact ⟨hs, fun h => by omega⟩
          · exact hb h j hj (by omega)
      · obtain ⟨c, hc, hw⟩ := compareWords_ev l[i - 1] l[i]
        have e3 : Aside0 (wrap64 ((i : Int) - 1) = ((i - 1 : Nat) : Int)) := ⟨by rw [w64 (by omega) (by omega)]; omega⟩
        have l1 := wdLess_eq l[i - 1] l[i]
        refine ⟨wless l[i - 1] l[i] && b, Ev.succ ?_, Ev.succ ?_, fun h j hj hij => ?_⟩
        · simp only [spec_wdSet.l0, rdOf_nat l i h1, e3.out, rdOf_nat l (i - 1) (by omega), w1 (show 0 ≤ (i : Int) by omega) (show (i : Int) < 9223372036854775807 by omega)]
          refine Ev.pos (by omega) (Ev.pos (by omega) (Ev.pos (by omega) (Ev.bind s1 (Ev.pos rfl (Ev.pos (by omega) (Ev.pos (by omega) (Ev.pos (by omega) (Ev.known (fun _ => l1) (Ev.cases (fun h => ?_) (fun h => ?_))))))))))
          · rw [h, Bool.true_and]; exact e1
          · rw [Bool.eq_false_iff.mpr h, Bool.false_and]; exact Ev.now _
        · simp only [impl_isSet.l0, rdOf_nat l i h1, e3.out, rdOf_nat l (i - 1) (by omega), w1 (show 0 ≤ (i : Int) by omega) (show (i : Int) < 9223372036854775807 by omega)]
          refine Ev.pos (by omega) (Ev.pos (by omega) (Ev.pos (by omega) (Ev.known (fun _ => s2) (Ev.pos rfl (Ev.pos (by omega) (Ev.pos (by omega) (Ev.pos (by omega) (Ev.bind hc (Ev.cases (fun h => ?_) (fun h => ?_))))))))))
          · rw [hw, decide_eq_false (by omega)]; exact Ev.now _
          · rw [hw, decide_eq_true (by omega)]; exact e2
        · simp only [Bool.and_eq_true] at h
          by_cases he : i = j
          · subst he; exact ⟨hs, fun _ => h.1⟩
          · exact hb h.2 j hj (by omega)
/-- what a set is -/
structure IsSet (l : List ByteArray) : Prop where
  few : l.length ≤ 12
  each : SetUpto l 0
theorem isSet_same (l : List ByteArray) (hl : l.length ≤ 1048576) : ∃ b, Ev (fun k => spec_wdSet.f k l) b ∧ Ev (fun k => impl_isSet.f k l) b ∧ (b = true → IsSet l) := by
  obtain ⟨b, h1, h2, hb⟩ := set_l0 l hl l.length 0 (by omega)
  unfold spec_wdSet.f impl_isSet.f
  by_cases h12 : l.length ≤ 12
  · rw [decide_eq_true h12, Bool.and_true] at h2
    exact ⟨b, Ev.neg (by omega) h1, h2, fun h => ⟨h12, hb h⟩⟩
  · rw [decide_eq_false h12, Bool.and_false] at h2
    exact ⟨false, Ev.pos (by omega) (Ev.now _), h2, fun h => by cases h⟩
theorem IsSet.lt {l : List ByteArray} (h : IsSet l) : ∀ (j i : Nat) (hj : j < l.length) (hi : i < j), wless l[i] l[j] = true
  | 0, i, hj, hi => by omega
  | j + 1, i, hj, hi => by
    have h1 := (h.each (j + 1) hj (by omega)).2 (by omega)
    by_cases e : i = j
    · subst e; exact h1
    · exact wless_trans _ _ _ (h.lt j i (by omega) (by omega)) h1
theorem IsSet.short {l : List ByteArray} (h : IsSet l) (w : ByteArray) (hw : w ∈ l) : Pure.short w = true := by
  obtain ⟨i, hi, rfl⟩ := List.getElem_of_mem hw
  exact (h.each i hi (by omega)).1
theorem IsSet.size {l : List ByteArray} (h : IsSet l) (w : ByteArray) (hw : w ∈ l) : 1 ≤ w.size ∧ w.size ≤ 8 := by
  have := h.short w hw
  unfold Pure.short at this
  simp only [Bool.and_eq_true, decide_eq_true_eq] at this
  exact this.1

theorem min3 (a b c : Int) : Ev (fun k => slices_Min_int_int.f k [a, b, c]) (mn (mn a b) c) := by
  refine ⟨3, fun k hk => ?_⟩
  obtain ⟨k, rfl⟩ : ∃ m, k = m + 3 := ⟨k - 3, by omega⟩
  simp [slices_Min_int_int.f, slices_Min_int_int.l0, rd, wrap64]
theorem max3 (a b c : Int) : Ev (fun k => slices_Max_int_int.f k [a, b, c]) (mx (mx a b) c) := by
  refine ⟨3, fun k hk => ?_⟩
  obtain ⟨k, rfl⟩ : ∃ m, k = m + 3 := ⟨k - 3, by omega⟩
  simp [slices_Max_int_int.f, slices_Max_int_int.l0, rd, wrap64]
theorem sum3 (a b c : Int) : Ev (fun k => impl_sumWeights.f k [a, b, c]) (wrap64 (wrap64 (wrap64 (0 + a) + b) + c)) := by
  refine ⟨4, fun k hk => ?_⟩
  obtain ⟨k, rfl⟩ : ∃ m, k = m + 4 := ⟨k - 4, by omega⟩
  have e1 : wrap64 (0 + 1) = 1 := by unfold wrap64; omega
  have e2 : wrap64 (1 + 1) = 2 := by unfold wrap64; omega
  have e3 : wrap64 (2 + 1) = 3 := by unfold wrap64; omega
  simp only [impl_sumWeights.f, impl_sumWeights.l0, List.length_cons, List.length_nil, e1, e2, e3]
  simp [rd]


/-- weights of letters, as natural numbers -/
def Wts (l : List Int) (a b c : Nat) : Prop := l = [(a : Int), (b : Int), (c : Int)] ∧ 1 ≤ a + b + c ∧ a + b + c ≤ 10
theorem letterWeights_same (l : List Int) (hl : l.length ≤ 1048576) : ∃ t, Ev (fun k => spec_leWeights.f k l) t ∧ Ev (fun k => impl_areLetterWeights.f k l) t ∧ (t = true → ∃ a b c, Wts l a b c) := by
  unfold spec_leWeights.f impl_areLetterWeights.f
  by_cases h3 : l.length = 3
  · match l, h3 with
    | [a, b, c], h3 =>
      have hs := spec_all [a, b, c] 0 10 (by simp)
      by_cases hb : (0 ≤ a ∧ a ≤ 10) ∧ (0 ≤ b ∧ b ≤ 10) ∧ (0 ≤ c ∧ c ≤ 10)
      · have hs' : ([a, b, c].all fun x => decide (0 ≤ x ∧ x ≤ 10)) = true := by simp; omega
        rw [hs'] at hs
        have e1 : wrap64 (wrap64 (rd [a, b, c] 0 + rd [a, b, c] 1) + rd [a, b, c] 2) = a + b + c := by
          simp only [rd, Int.toNat_zero, List.getD_cons_zero, Int.toNat_one, List.getD_cons_succ, show (2 : Int).toNat = 2 from rfl]
          rw [w64 (i := a + b) (by omega) (by omega), w64 (by omega) (by omega)]
        have e2 : wrap64 (wrap64 (wrap64 (0 + a) + b) + c) = a + b + c := by
          rw [w64 (i := 0 + a) (by omega) (by omega), w64 (i := 0 + a + b) (by omega) (by omega), w64 (by omega) (by omega), Int.zero_add]
        have E1 := Aside0.mk e1
        have E2 := Aside0.mk e2
        clear e1 e2
        refine ⟨decide (1 ≤ a + b + c ∧ a + b + c ≤ 10), Ev.pos (by simp) (Ev.bind hs (Ev.pos rfl (Ev.pos (by simp) (Ev.pos (by simp) (Ev.pos (by simp) ?_))))), Ev.pos (by simp) (Ev.bind (min3 a b c) (Ev.pos ?_ (Ev.bind (max3 a b c) (Ev.pos ?_ (Ev.bind (sum3 a b c) ?_))))), fun h => ⟨a.toNat, b.toNat, c.toNat, ?_⟩⟩
        · exact Ev.known (fun _ => spec_in _ _ _) (Ev.pure (by rw [E1.out]))
        · unfold mn; split <;> split <;> omega
        · unfold mx; split <;> split <;> omega
        · exact Ev.known (fun _ => impl_in_eq _ _ _) (Ev.pure (by rw [E2.out]))
        · have h' := of_decide_eq_true h
          refine ⟨?_, by omega, by omega⟩
          rw [show ((a.toNat : Nat) : Int) = a by omega, show ((b.toNat : Nat) : Int) = b by omega, show ((c.toNat : Nat) : Int) = c by omega]
      · have hs' : ([a, b, c].all fun x => decide (0 ≤ x ∧ x ≤ 10)) = false := by
          rw [Bool.eq_false_iff]; intro h; simp at h; omega
        rw [hs'] at hs
        refine ⟨false, Ev.pos (by simp) (Ev.bind hs (Ev.neg (by simp) (Ev.now _))), Ev.pos (by simp) (Ev.bind (min3 a b c) (Ev.cases (fun hm => Ev.bind (max3 a b c) (Ev.neg ?_ (Ev.now _))) (fun _ => Ev.now _))), fun h => by cases h⟩
        revert hm; unfold mn mx; split <;> split <;> split <;> split <;> omega
  · exact ⟨false, Ev.neg (by omega) (Ev.now _), Ev.neg (by omega) (Ev.now _), fun h => by cases h⟩

theorem power_l0 (b m : Nat) (hb : 1 ≤ b) (hp : b ^ m < 4611686018427387904) (hm : m ≤ 1048576) : ∀ (d i : Nat), i + d = m → Ev (fun k => impl_power.l0 k (b : Int) ((b ^ i : Nat) : Int) (m : Int) (i : Int)) ((b ^ m : Nat) : Int)
  | 0, i, hd => by
    refine Ev.succ ?_
    simp only [impl_power.l0]
    exact Ev.neg (by omega) (Ev.pure (by rw [show i = m by omega]))
  | d + 1, i, hd => by
    have ih := power_l0 b m hb hp hm d (i + 1) (by omega)
    have h1 : b ^ (i + 1) ≤ b ^ m := Nat.pow_le_pow_right hb (by omega)
    have e : Aside0 (wrap64 (((b ^ i : Nat) : Int) * (b : Int)) = ((b ^ (i + 1) : Nat) : Int)) := ⟨by
      rw [← Int.natCast_mul, show b ^ i * b = b ^ (i + 1) from rfl]; exact w64 (by omega) (by omega)⟩
    refine Ev.succ ?_
    simp only [impl_power.l0, e.out, w1 (show 0 ≤ (i : Int) by omega) (show (i : Int) < 9223372036854775807 by omega)]
    exact Ev.pos (by omega) ih
theorem power_ev (b m : Nat) (hb : 1 ≤ b) (hp : b ^ m < 4611686018427387904) (hm : m ≤ 1048576) : Ev (fun k => impl_power.f k (b : Int) (m : Int)) ((b ^ m : Nat) : Int) := by
  have h := power_l0 b m hb hp hm m 0 (by omega)
  simpa [impl_power.f] using h

theorem krPower_l0 (b m : Nat) (hb : 1 ≤ b) (hp : b ^ m < 4611686018427387904) (hm : m ≤ 1048576) : ∀ (d i : Nat), i + d = m → Ev (fun k => spec_krPower.l0 k (b : Int) (d : Int) ((b ^ i : Nat) : Int)) ((b ^ m : Nat) : Int)
  | 0, i, hd => by
    refine Ev.succ ?_
    simp only [spec_krPower.l0]
    exact Ev.neg (by omega) (Ev.pure (by rw [show i = m by omega]))
  | d + 1, i, hd => by
    have ih := krPower_l0 b m hb hp hm d (i + 1) (by omega)
    have h1 : b ^ (i + 1) ≤ b ^ m := Nat.pow_le_pow_right hb (by omega)
    have e : Aside0 (wrap64 (((b ^ i : Nat) : Int) * (b : Int)) = ((b ^ (i + 1) : Nat) : Int)) := ⟨by
      rw [← Int.natCast_mul, show b ^ i * b = b ^ (i + 1) from rfl]; exact w64 (by omega) (by omega)⟩
    have e2 : Aside0 (wrap64 (((d + 1 : Nat) : Int) - 1) = (d : Int)) := ⟨by rw [w64 (by omega) (by omega)]; omega⟩
    refine Ev.succ ?_
    simp only [spec_krPower.l0, e.out, e2.out]
    exact Ev.pos (by omega) ih
theorem krPower_ev (b m : Nat) (hb : 1 ≤ b) (hp : b ^ m < 4611686018427387904) (hm : m ≤ 1048576) : Ev (fun k => spec_krPower.f k (b : Int) (m : Int)) ((b ^ m : Nat) : Int) := by
  have h := krPower_l0 b m hb hp hm m 0 (by omega)
  simpa [spec_krPower.f] using h

theorem krGcd_ev : ∀ (b a : Nat), a < 4611686018427387904 → Ev (fun k => spec_krGcd.l0 k (a : Int) (b : Int)) ((Nat.gcd a b : Nat) : Int) := by
  intro b
  induction b using Nat.strongRecOn with
  | _ b ih =>
    intro a ha
    refine Ev.succ ?_
    simp only [spec_krGcd.l0]
    by_cases h : b = 0
    · subst h
      exact Ev.pos rfl (Ev.pure (by rw [Nat.gcd_zero_right]))
    · have h1 := ih (a % b) (Nat.mod_lt _ (by omega))
      refine Ev.neg (by omega) ?_
      by_cases hb : b < 4611686018427387904
      · have h2 := h1 b hb
        rw [← Int.ofNat_tmod, show Nat.gcd a b = Nat.gcd b (a % b) from by rw [Nat.gcd_comm a b, Nat.gcd_rec b a, Nat.gcd_comm]]
        exact h2
      · have e : a % b = a := Nat.mod_eq_of_lt (by omega)
        rw [← Int.ofNat_tmod, e]
        refine Ev.succ ?_
        simp only [spec_krGcd.l0]
        by_cases h0 : a = 0
        · subst h0
          exact Ev.pos rfl (Ev.pure (by rw [Nat.gcd_zero_left]))
        · have h3 := ih a (by omega)
          refine Ev.neg (by omega) ?_
          have h4 := ih (b % a) (Nat.lt_of_lt_of_le (Nat.mod_lt _ (by omega)) (by omega)) a ha
          rw [← Int.ofNat_tmod, Nat.gcd_comm a b, Nat.gcd_comm b a, Nat.gcd_rec a b, Nat.gcd_comm]
          exact h4
/-- a ratio in lowest terms -/
def lowest (a b : Nat) : Int × Int := (((a / Nat.gcd a b : Nat) : Int), ((b / Nat.gcd a b : Nat) : Int))
theorem krRatio_ev (a b : Nat) (ha : a < 4611686018427387904) (hb : b < 4611686018427387904) (hb0 : 0 < b) : Ev (fun k => spec_krRatio.f k (a : Int) (b : Int)) (lowest a b) := by
  have hg : 0 < Nat.gcd a b := Nat.gcd_pos_of_pos_right _ hb0
  have h1 : a / Nat.gcd a b ≤ a := Nat.div_le_self _ _
  have h2 : b / Nat.gcd a b ≤ b := Nat.div_le_self _ _
  unfold spec_krRatio.f spec_krGcd.f
  refine Ev.bind (krGcd_ev b a ha) (Ev.neg (by omega) (Ev.pure ?_))
  unfold lowest
  rw [← Int.ofNat_tdiv, ← Int.ofNat_tdiv]
  generalize a / Nat.gcd a b = x at *
  generalize b / Nat.gcd a b = y at *
  rw [w64 (by omega) (by omega), w64 (by omega) (by omega)]
theorem lowest_mul (a b c : Nat) (hc : 0 < c) : lowest (a * c) (b * c) = lowest a b := by
  unfold lowest
  rw [Nat.gcd_mul_right, Nat.mul_div_mul_right _ _ hc, Nat.mul_div_mul_right _ _ hc]

theorem ratio_l0 (a b : Nat) (ha : a < 4611686018427387904) (hb : b < 4611686018427387904) : ∀ (y x : Nat), 0 < Nat.gcd x y → Nat.gcd x y = Nat.gcd a b → Ev (fun k => impl_ratio.l0 k (a : Int) (b : Int) (x : Int) (y : Int)) (lowest a b) := by
  intro y
  induction y using Nat.strongRecOn with
  | _ y ih =>
    intro x hg he
    refine Ev.succ ?_
    simp only [impl_ratio.l0]
    by_cases h : y = 0
    · subst h
      rw [Nat.gcd_zero_right] at hg he
      refine Ev.pos rfl (Ev.neg (by omega) (Ev.pure ?_))
      subst he
      have h1 : a / Nat.gcd a b ≤ a := Nat.div_le_self _ _
      have h2 : b / Nat.gcd a b ≤ b := Nat.div_le_self _ _
      unfold lowest
      rw [← Int.ofNat_tdiv, ← Int.ofNat_tdiv]
      generalize a / Nat.gcd a b = x at *
      generalize b / Nat.gcd a b = y at *
      rw [w64 (by omega) (by omega), w64 (by omega) (by omega)]
    · have e : Nat.gcd y (x % y) = Nat.gcd x y := by rw [Nat.gcd_comm x y, Nat.gcd_rec y x, Nat.gcd_comm]
      rw [← Int.ofNat_tmod]
      exact Ev.neg (by omega) (ih (x % y) (Nat.mod_lt _ (by omega)) y (by rw [e]; exact hg) (by rw [e]; exact he))
theorem ratio_ev (a b : Nat) (ha : a < 4611686018427387904) (hb : b < 4611686018427387904) (hb0 : 0 < b) : Ev (fun k => impl_ratio.f k (a : Int) (b : Int)) (lowest a b) := by
  unfold impl_ratio.f
  exact ratio_l0 a b ha hb b a (Nat.gcd_pos_of_pos_right _ hb0) rfl

/-- the weight of a letter -/
def wt (a b c : Nat) (x : UInt8) : Nat := if x.toNat = 97 then a else if x.toNat = 98 then b else c
/-- the weights of a word's letters, multiplied -/
def wprod (a b c : Nat) (l : List UInt8) : Nat := (l.map (wt a b c)).prod
theorem wprod_le (a b c : Nat) : ∀ (l : List UInt8), wprod a b c l ≤ (a + b + c) ^ l.length
  | [] => by simp [wprod]
  | x :: l => by
    have ih := wprod_le a b c l
    have h : wt a b c x ≤ a + b + c := by
      unfold wt
      repeat' split
      all_goals omega
    simp only [wprod, List.map_cons, List.prod_cons, List.length_cons, Nat.pow_succ] at ih ⊢
    rw [Nat.mul_comm]
    exact Nat.mul_le_mul ih h
theorem wprod_take (a b c : Nat) (l : List UInt8) (i : Nat) (h : i < l.length) : wprod a b c (l.take (i + 1)) = wprod a b c (l.take i) * wt a b c l[i] := by
  unfold wprod
  rw [List.take_succ_eq_append_getElem h, List.map_append, List.prod_append]
  simp
theorem letter_cases (x : UInt8) (h : isLetter x = true) : x.toNat = 97 ∨ x.toNat = 98 ∨ x.toNat = 99 := by
  unfold isLetter at h
  have := of_decide_eq_true h
  omega
theorem wt_rd (a b c : Nat) (x : UInt8) (h : isLetter x = true) : 0 ≤ ((x.toNat : Int) - 97) % 256 ∧ ((x.toNat : Int) - 97) % 256 < 3 ∧ rd [(a : Int), (b : Int), (c : Int)] (((x.toNat : Int) - 97) % 256) = (wt a b c x : Int) := by
  rcases letter_cases x h with e | e | e <;> rw [e] <;> simp [rd, wt, e]

theorem leProduct_l0 (s : ByteArray) (a b c : Nat) (hs : s.size ≤ 8) (hp : (a + b + c) ^ 8 < 4611686018427387904) (h1 : 1 ≤ a + b + c) (hl : s.data.toList.all isLetter = true) : ∀ (d i : Nat), i + d = s.data.toList.length → Ev (fun k => spec_leProduct.l0 k s [(a : Int), (b : Int), (c : Int)] ((wprod a b c (s.data.toList.take i) : Nat) : Int) (i : Int)) ((wprod a b c s.data.toList : Nat) : Int)
  | 0, i, hd => by
    refine Ev.succ ?_
    simp only [spec_leProduct.l0]
    exact Ev.neg (by rw [size_data]; omega) (Ev.pure (by rw [List.take_of_length_le (by omega)]))
  | d + 1, i, hd => by
    have hi : i < s.data.toList.length := by omega
    have ih := leProduct_l0 s a b c hs hp h1 hl d (i + 1) (by omega)
    have hw := wt_rd a b c s.data.toList[i] (List.all_eq_true.1 hl _ (List.getElem_mem hi))
    have hsz := size_data s
    have hle := wprod_le a b c (s.data.toList.take (i + 1))
    have hpw : (a + b + c) ^ (s.data.toList.take (i + 1)).length ≤ (a + b + c) ^ 8 := Nat.pow_le_pow_right h1 (by simp; omega)
    have e : Aside0 (wrap64 (((wprod a b c (s.data.toList.take i) : Nat) : Int) * (wt a b c s.data.toList[i] : Int)) = ((wprod a b c (s.data.toList.take (i + 1)) : Nat) : Int)) := ⟨by
      rw [← Int.natCast_mul, ← wprod_take]; exact w64 (by omega) (by omega)⟩
    refine Ev.succ ?_
    simp only [spec_leProduct.l0, bt_nat s i hi, w1 (show 0 ≤ (i : Int) by omega) (show (i : Int) < 9223372036854775807 by omega), hw.2.2, e.out]
    exact Ev.pos (by omega) (Ev.pos (by omega) (Ev.pos hw.1 (Ev.pos (by simpa using hw.2.1) ih)))
theorem heavy_l0 (s : ByteArray) (a b c m : Nat) (hs : s.size ≤ 8) (hm : m = (a + b + c) ^ (8 - s.size)) (hp : (a + b + c) ^ 8 < 4611686018427387904) (h1 : 1 ≤ a + b + c) (hl : s.data.toList.all isLetter = true) : ∀ (d i : Nat), i + d = s.data.toList.length → Ev (fun k => impl_heavy.l0 k s [(a : Int), (b : Int), (c : Int)] ((m * wprod a b c (s.data.toList.take i) : Nat) : Int) (s.size : Int) (i : Int)) ((m * wprod a b c s.data.toList : Nat) : Int)
  | 0, i, hd => by
    refine Ev.succ ?_
    simp only [impl_heavy.l0]
    exact Ev.neg (by rw [size_data]; omega) (Ev.pure (by rw [List.take_of_length_le (by omega)]))
  | d + 1, i, hd => by
    have hi : i < s.data.toList.length := by omega
    have ih := heavy_l0 s a b c m hs hm hp h1 hl d (i + 1) (by omega)
    have hw := wt_rd a b c s.data.toList[i] (List.all_eq_true.1 hl _ (List.getElem_mem hi))
    have hsz := size_data s
    have hle := wprod_le a b c (s.data.toList.take (i + 1))
    have hpw : (a + b + c) ^ (8 - s.size) * (a + b + c) ^ (s.data.toList.take (i + 1)).length ≤ (a + b + c) ^ 8 := by
      rw [← Nat.pow_add]; exact Nat.pow_le_pow_right h1 (by simp; omega)
    have hle2 : m * wprod a b c (s.data.toList.take (i + 1)) < 4611686018427387904 := by
      rw [hm]
      exact Nat.lt_of_le_of_lt (Nat.le_trans (Nat.mul_le_mul_left _ hle) hpw) hp
    have e : Aside0 (wrap64 (((m * wprod a b c (s.data.toList.take i) : Nat) : Int) * (wt a b c s.data.toList[i] : Int)) = ((m * wprod a b c (s.data.toList.take (i + 1)) : Nat) : Int)) := ⟨by
      rw [← Int.natCast_mul, Nat.mul_assoc, ← wprod_take]; exact w64 (by omega) (by omega)⟩
    refine Ev.succ ?_
    simp only [impl_heavy.l0, bt_nat s i hi, w1 (show 0 ≤ (i : Int) by omega) (show (i : Int) < 9223372036854775807 by omega), hw.2.2, e.out]
    exact Ev.pos (by omega) (Ev.pos (by omega) (Ev.pos (by omega) (Ev.pos hw.1 (Ev.pos (by simpa using hw.2.1) ih))))
theorem pow8 (t : Nat) (h : t ≤ 10) : t ^ 8 < 4611686018427387904 := Nat.lt_of_le_of_lt (Nat.pow_le_pow_left h 8) (by decide)
theorem sum3' (a b c : Nat) (h : a + b + c ≤ 10) : Ev (fun k => impl_sumWeights.f k [(a : Int), (b : Int), (c : Int)]) ((a + b + c : Nat) : Int) := by
  have h' := sum3 (a : Int) (b : Int) (c : Int)
  have e : Aside0 (wrap64 (wrap64 (wrap64 (0 + (a : Int)) + (b : Int)) + (c : Int)) = ((a + b + c : Nat) : Int)) := ⟨by
    rw [w64 (i := 0 + (a : Int)) (by omega) (by omega), w64 (i := 0 + (a : Int) + (b : Int)) (by omega) (by omega), w64 (by omega) (by omega)]; omega⟩
  rw [e.out] at h'; exact h'
theorem heavy_ev (s : ByteArray) (a b c : Nat) (hs : s.size ≤ 8) (hb : 1 ≤ a + b + c ∧ a + b + c ≤ 10) (hl : s.data.toList.all isLetter = true) : Ev (fun k => impl_heavy.f k s [(a : Int), (b : Int), (c : Int)]) (((a + b + c) ^ (8 - s.size) * wprod a b c s.data.toList : Nat) : Int) := by
  have hp := pow8 _ hb.2
  have h8 : (a + b + c) ^ (8 - s.size) ≤ (a + b + c) ^ 8 := Nat.pow_le_pow_right hb.1 (by omega)
  have h := heavy_l0 s a b c _ hs rfl hp hb.1 hl s.data.toList.length 0 (by omega)
  have e : Aside0 (wrap64 (8 - (s.size : Int)) = ((8 - s.size : Nat) : Int)) := ⟨by rw [w64 (by omega) (by omega)]; omega⟩
  unfold impl_heavy.f
  refine Ev.bind (sum3' a b c hb.2) ?_
  rw [e.out]
  refine Ev.bind (power_ev (a + b + c) (8 - s.size) hb.1 (by omega) (by omega)) ?_
  simpa [wprod] using h
theorem leTotal_eq (a b c : Nat) (hb2 : a + b + c ≤ 10) : spec_leTotal.f [(a : Int), (b : Int), (c : Int)] = some ((a + b + c : Nat) : Int) := by
  have e : Aside0 (wrap64 (wrap64 ((a : Int) + (b : Int)) + (c : Int)) = ((a + b + c : Nat) : Int)) := ⟨by rw [w64 (i := (a : Int) + (b : Int)) (by omega) (by omega), w64 (by omega) (by omega)]; omega⟩
  simp [spec_leTotal.f, rd, e.out]

/-- a text's letters -/
abbrev ch (s : ByteArray) : List UInt8 := s.data.toList
theorem ch_length (s : ByteArray) : (ch s).length = s.size := Array.length_toList
theorem ch_extract (s : ByteArray) (a b : Nat) : ch (s.extract a b) = ((ch s).drop a).take (b - a) := by
  simp [ch, ByteArray.data_extract, Array.toList_extract, List.extract_eq_take_drop]
theorem ch_drop (s : ByteArray) (a : Nat) : ch (s.extract a s.size) = (ch s).drop a := by
  rw [ch_extract, List.take_of_length_le]; simp only [List.length_drop, ch_length]; omega
theorem begins_test (a w : ByteArray) (h : w.size ≤ a.size) : ((a.extract 0 w.size).toList == w.toList) = (ch w).isPrefixOf (ch a) := by
  rw [ByteArray.toList_eq, ByteArray.toList_eq]
  change (ch (a.extract 0 w.size) == ch w) = _
  rw [ch_extract, List.drop_zero, Nat.sub_zero, ← ch_length w, Bool.eq_iff_iff, beq_iff_eq, List.isPrefixOf_iff_prefix, List.prefix_iff_eq_take]
  exact eq_comm
theorem prefix_long (a w : ByteArray) (h : ¬ w.size ≤ a.size) : (ch w).isPrefixOf (ch a) = false := by
  rw [Bool.eq_false_iff]
  intro hp
  have := (List.isPrefixOf_iff_prefix.1 hp).length_le
  rw [ch_length, ch_length] at this
  exact h this
theorem toList_ch (s : ByteArray) : s.toList = ch s := ByteArray.toList_eq s
theorem chNe (l : List ByteArray) (hne : ∀ w ∈ l, 1 ≤ w.size) : ∀ t ∈ l.map ch, t ≠ [] := fun t ht => by
  obtain ⟨w, hw, rfl⟩ := List.mem_map.1 ht
  intro e; have := hne w hw; have := ch_length w; rw [e] at this; simp at this; omega

/-- a loop from the first place to the last one, with what is so at each place -/
theorem Ev.loop {R : Type} (g : Nat → Nat → Option R) (n : Nat) (r : R) (hstep : ∀ i, i < n → Ev (g (i + 1)) r → Ev (g i) r) (hend : Ev (g n) r) : Ev (g 0) r := by
  have h : ∀ d i, i + d = n → Ev (g i) r := by
    intro d
    induction d with
    | zero => intro i hi; rw [show i = n by omega]; exact hend
    | succ d ih => intro i hi; exact hstep i (by omega) (ih (i + 1) (by omega))
  exact h n 0 (by omega)

/-- a text out of its letters -/
def bx (x : List UInt8) : ByteArray := ⟨x.toArray⟩
theorem ch_bx (x : List UInt8) : ch (bx x) = x := by simp [ch, bx]
theorem bx_ch (s : ByteArray) : bx (ch s) = s := by simp [ch, bx]
theorem ch_inj' {a b : ByteArray} (h : ch a = ch b) : a = b := ByteArray.ext (Array.toList_inj.1 h)
theorem map_ch_bx (l : List (List UInt8)) : (l.map bx).map ch = l := by simp [Function.comp_def, ch_bx]
theorem map_bx_ch (l : List ByteArray) : (l.map ch).map bx = l := by simp [Function.comp_def, bx_ch]
theorem bx_size (x : List UInt8) : (bx x).size = x.length := by rw [← ch_length, ch_bx]
/-- words in order, each once, as texts -/
def bas (M : List (List UInt8)) : List ByteArray := (ordL M).map bx
theorem ordL_congr {M N : List (List UInt8)} (h : ∀ x, x ∈ M ↔ x ∈ N) : ordL M = ordL N := rises_unique _ _ (ordL_rises M) (ordL_rises N) (fun x => by rw [mem_ordL, mem_ordL]; exact h x)
theorem bas_congr {M N : List (List UInt8)} (h : ∀ x, x ∈ M ↔ x ∈ N) : bas M = bas N := by unfold bas; rw [ordL_congr h]
theorem ch_bas (M : List (List UInt8)) : (bas M).map ch = ordL M := map_ch_bx _
theorem bas_of (r : List ByteArray) (M : List (List UInt8)) (hr : (r.map ch).Pairwise fun x y => wcmp x y < 0) (hm : ∀ x, x ∈ r.map ch ↔ x ∈ M) : r = bas M := by
  unfold bas
  rw [← rises_unique (r.map ch) (ordL M) hr (ordL_rises M) (fun x => by rw [hm, mem_ordL]), map_bx_ch]
theorem ordL_len (M : List (List UInt8)) : (ordL M).length ≤ M.length := by
  unfold ordL Lib.compact Lib.compactUpTo
  rw [List.length_map]
  refine Nat.le_trans (List.length_filter_le _ _) ?_
  rw [List.length_range, (sortW_perm M).length_eq]
  exact Nat.le_refl _
theorem bas_len (M : List (List UInt8)) : (bas M).length ≤ M.length := by unfold bas; rw [List.length_map]; exact ordL_len M
theorem ordL_ordL (M : List (List UInt8)) : ordL (ordL M) = ordL M := ordL_congr (fun x => mem_ordL M x)
theorem bas_nil : bas [] = [] := (bas_of [] [] (by simp) (by simp)).symm
theorem bas_one (x : List UInt8) : bas [x] = [bx x] := by
  symm
  exact bas_of _ _ (by simp) (by intro y; simp [ch_bx])
theorem ordL_nodup (M : List (List UInt8)) : (ordL M).Nodup := (ordL_rises M).imp fun {a b} h e => by rw [e, wcmp_self] at h; omega
theorem wless_wcmp (a b : ByteArray) : wless a b = decide (wcmp (ch a) (ch b) < 0) := by
  unfold wless wcmp
  rw [ch_length, ch_length, bytesLess_cmp]
  by_cases h1 : a.size < b.size
  · simp [h1]
  · by_cases h2 : b.size < a.size
    · simp [h1, h2, show ¬ a.size = b.size by omega]
    · simp [h1, show a.size = b.size by omega]
theorem ordered_eq (l : List ByteArray) (h : l.length ≤ 8796093021952) : impl_ordered.f l = some (bas (l.map ch)) := by
  unfold impl_ordered.f
  rw [if_pos h]; rfl

theorem wdPut_l0 (L : List ByteArray) (s : ByteArray) (hL : L.length ≤ 8796093000000) (hr : (L.map ch).Pairwise fun x y => wcmp x y < 0) : ∀ (d i : Nat), i + d = L.length → (∀ j (h : j < L.length), j < i → wcmp (ch L[j]) (ch s) < 0) → ∃ r, Ev (fun k => spec_wdPut.l0 k L s (i : Int)) r ∧ (r.map ch).Pairwise (fun x y => wcmp x y < 0) ∧ ∀ x, x ∈ r.map ch ↔ x ∈ L.map ch ++ [ch s] := by
  have fin : ∀ i, i ≤ L.length → (∀ j (h : j < L.length), j < i → wcmp (ch L[j]) (ch s) < 0) → (∀ j (h : j < L.length), i ≤ j → wcmp (ch s) (ch L[j]) < 0) → ((L.take i ++ [s] ++ L.drop i).map ch).Pairwise (fun x y => wcmp x y < 0) ∧ ∀ x, x ∈ (L.take i ++ [s] ++ L.drop i).map ch ↔ x ∈ L.map ch ++ [ch s] := by
    intro i hi h1 h2
    refine ⟨?_, fun x => ?_⟩
    · rw [List.map_append, List.map_append, List.map_cons, List.map_nil, List.pairwise_append, List.pairwise_append]
      refine ⟨⟨?_, by simp, ?_⟩, ?_, ?_⟩
      · rw [List.map_take]; exact hr.sublist (List.take_sublist _ _)
      · intro a ha b hb
        rw [List.mem_singleton] at hb
        subst hb
        obtain ⟨y, hy, rfl⟩ := List.mem_map.1 ha
        obtain ⟨j, hj, rfl⟩ := List.getElem_of_mem hy
        rw [List.length_take] at hj
        rw [List.getElem_take]
        exact h1 j (by omega) (by omega)
      · rw [List.map_drop]; exact hr.sublist (List.drop_sublist _ _)
      · intro a ha b hb
        obtain ⟨y, hy, rfl⟩ := List.mem_map.1 hb
        obtain ⟨j, hj, rfl⟩ := List.getElem_of_mem hy
        rw [List.length_drop] at hj
        rw [List.getElem_drop]
        have hb' := h2 (i + j) (by omega) (by omega)
        rcases List.mem_append.1 ha with ha | ha
        · obtain ⟨y, hy, rfl⟩ := List.mem_map.1 ha
          obtain ⟨j', hj', rfl⟩ := List.getElem_of_mem hy
          rw [List.length_take] at hj'
          rw [List.getElem_take]
          exact wcmp_trans _ _ _ (h1 j' (by omega) (by omega)) hb'
        · rw [List.mem_singleton] at ha
          subst ha
          exact hb'
    · have := List.take_append_drop i L
      constructor
      · intro hx
        obtain ⟨y, hy, rfl⟩ := List.mem_map.1 hx
        rcases List.mem_append.1 hy with hy | hy
        · rcases List.mem_append.1 hy with hy | hy
          · exact List.mem_append_left _ (List.mem_map.2 ⟨y, List.mem_of_mem_take hy, rfl⟩)
          · rw [List.mem_singleton] at hy; subst hy; exact List.mem_append_right _ (by simp)
        · exact List.mem_append_left _ (List.mem_map.2 ⟨y, List.mem_of_mem_drop hy, rfl⟩)
      · intro hx
        rcases List.mem_append.1 hx with hx | hx
        · obtain ⟨y, hy, rfl⟩ := List.mem_map.1 hx
          refine List.mem_map.2 ⟨y, ?_, rfl⟩
          rw [← this] at hy
          rcases List.mem_append.1 hy with hy | hy
          · exact List.mem_append_left _ (List.mem_append_left _ hy)
          · exact List.mem_append_right _ hy
        · rw [List.mem_singleton] at hx; subst hx
          exact List.mem_map.2 ⟨s, List.mem_append_left _ (List.mem_append_right _ (by simp)), rfl⟩
  intro d
  induction d with
  | zero =>
    intro i hd h1
    obtain ⟨p, q⟩ := fin i (by omega) h1 (fun j hj h => by omega)
    refine ⟨_, Ev.succ ?_, p, q⟩
    simp only [spec_wdPut.l0, Int.toNat_natCast, Option.bind_some]
    exact Ev.neg (by omega) (Ev.pos (by omega) (Ev.pos (by omega) (Ev.pos (by simp; omega) (Ev.pos (by simp; omega) (Ev.pos (by simp; omega) (Ev.pure (by simp)))))))
  | succ d ih =>
    intro i hd h1
    have hi : i < L.length := by omega
    have hw := wless_wcmp L[i] s
    by_cases hl : wcmp (ch L[i]) (ch s) < 0
    · obtain ⟨r, r1, r2, r3⟩ := ih (i + 1) (by omega) (fun j hj h => by
        by_cases e : j = i
        · subst e; exact hl
        · exact h1 j hj (by omega))
      refine ⟨r, Ev.succ ?_, r2, r3⟩
      simp only [spec_wdPut.l0, rdOf_nat L i hi, w1 (show 0 ≤ (i : Int) by omega) (show (i : Int) < 9223372036854775807 by omega)]
      exact Ev.pos (by omega) (Ev.pos (by omega) (Ev.known (fun _ => wdLess_eq _ _) (Ev.pos (by rw [hw]; simpa using hl) r1)))
    · by_cases he : ch L[i] = ch s
      · refine ⟨L, Ev.succ ?_, hr, fun x => ?_⟩
        · simp only [spec_wdPut.l0, rdOf_nat L i hi, toList_ch]
          exact Ev.pos (by omega) (Ev.pos (by omega) (Ev.known (fun _ => wdLess_eq _ _) (Ev.neg (by rw [hw]; simpa using hl) (Ev.pos he (Ev.now _)))))
        · rw [List.mem_append, List.mem_singleton]
          constructor
          · exact Or.inl
          · rintro (h | rfl)
            · exact h
            · exact List.mem_map.2 ⟨L[i], List.getElem_mem hi, he⟩
      · have hgt : wcmp (ch s) (ch L[i]) < 0 := by
          have := wcmp_anti (ch L[i]) (ch s)
          have h0 : wcmp (ch L[i]) (ch s) ≠ 0 := fun h => he (wcmp_zero _ _ h)
          omega
        obtain ⟨p, q⟩ := fin i (by omega) h1 (fun j hj h => by
          by_cases e : j = i
          · subst e; exact hgt
          · have := List.pairwise_iff_getElem.1 hr i j (by simpa using hi) (by simpa using hj) (by omega)
            rw [List.getElem_map, List.getElem_map] at this
            exact wcmp_trans _ _ _ hgt this)
        refine ⟨_, Ev.succ ?_, p, q⟩
        simp only [spec_wdPut.l0, rdOf_nat L i hi, toList_ch, Int.toNat_natCast, Option.bind_some]
        exact Ev.pos (by omega) (Ev.pos (by omega) (Ev.known (fun _ => wdLess_eq _ _) (Ev.neg (by rw [hw]; simpa using hl) (Ev.neg he (Ev.pos (by omega) (Ev.pos (by simp; omega) (Ev.pos (by simp; omega) (Ev.pos (by simp; omega) (Ev.pure (by simp))))))))))
theorem wdPut_ev (M : List (List UInt8)) (s : ByteArray) (hM : M.length ≤ 8796093000000) : Ev (fun k => spec_wdPut.f k (bas M) s) (bas (M ++ [ch s])) := by
  have hl := bas_len M
  obtain ⟨r, r1, r2, r3⟩ := wdPut_l0 (bas M) s (by omega) (by rw [ch_bas]; exact ordL_rises M) (bas M).length 0 (by omega) (fun j _ h => by omega)
  rw [← bas_of r (M ++ [ch s]) r2 (fun x => by rw [r3, ch_bas, List.mem_append, List.mem_append, mem_ordL])]
  exact r1

theorem flatMapLen {α β : Type} (f : α → List β) (c : Nat) : ∀ l : List α, (∀ x ∈ l, (f x).length ≤ c) → (l.flatMap f).length ≤ l.length * c
  | [], _ => by simp
  | x :: l, h => by
    have h1 := h x (by simp)
    have h2 := flatMapLen f c l (fun y hy => h y (by simp [hy]))
    rw [List.flatMap_cons, List.length_append, List.length_cons, Nat.succ_mul]
    omega

/-- all inner words: what stands ahead of a place in a word -/
def inn (W : List (List UInt8)) : List (List UInt8) := W.flatMap fun t => (List.range t.length).map fun n => t.take n
theorem inn_len (W : List (List UInt8)) (h8 : ∀ t ∈ W, t.length ≤ 8) : (inn W).length ≤ W.length * 8 := flatMapLen _ 8 W (fun t ht => by simpa using h8 t ht)
theorem inn_succ (W : List (List UInt8)) (i : Nat) (h : i < W.length) : inn (W.take (i + 1)) = inn (W.take i) ++ (List.range W[i].length).map fun n => W[i].take n := by
  unfold inn; rw [List.take_succ_eq_append_getElem h, List.flatMap_append]; simp
theorem spec_pfInner_ev (l : List ByteArray) (hl : l.length ≤ 12) (h8 : ∀ w ∈ l, w.size ≤ 8) : Ev (fun k => spec_pfInner.f k l) (bas (inn (l.map ch))) := by
  have h8' : ∀ t ∈ l.map ch, t.length ≤ 8 := fun t ht => by obtain ⟨w, hw, rfl⟩ := List.mem_map.1 ht; rw [ch_length]; exact h8 w hw
  have hb : ∀ i, (inn ((l.map ch).take i)).length ≤ 96 := fun i => by
    have h1 := inn_len ((l.map ch).take i) (fun t ht => h8' t (List.mem_of_mem_take ht))
    have h2 : ((l.map ch).take i).length ≤ 12 := Nat.le_trans (List.length_take_le' _ _) (by simpa using hl)
    omega
  unfold spec_pfInner.f
  have start : ([] : List ByteArray) = bas (inn ((l.map ch).take 0)) := by simp [inn, bas_nil]
  rw [start]
  refine Ev.loop (fun i k => spec_pfInner.l0 k (bas (inn ((l.map ch).take i))) l (l.length : Int) (i : Int)) l.length _ (fun i hi hnext => ?_) ?_
  · have hi' : i < (l.map ch).length := by simpa using hi
    have hbi := hb i
    have hw8 := h8 _ (List.getElem_mem hi)
    rw [inn_succ _ i hi', List.getElem_map] at hnext
    obtain ⟨N, hN⟩ : ∃ N, N = inn ((l.map ch).take i) := ⟨_, rfl⟩
    rw [← hN] at hnext hbi ⊢
    refine Ev.succ ?_
    simp only [spec_pfInner.l0, rdOf_nat l i hi]
    refine Ev.pos (by omega) (Ev.pos (by omega) (Ev.pos (by omega) ?_))
    have s0 : bas N = bas (N ++ (List.range 0).map fun n => (ch l[i]).take n) := by simp
    rw [s0]
    refine Ev.loop (fun j k => spec_pfInner.l1 k (bas (N ++ (List.range j).map fun n => (ch l[i]).take n)) l[i] (j : Int) l (l.length : Int) (i : Int)) l[i].size _ (fun j hj hnext => ?_) ?_
    · rw [List.range_succ, List.map_append, ← List.append_assoc, List.map_cons, List.map_nil] at hnext
      have hput := wdPut_ev (N ++ (List.range j).map fun n => (ch l[i]).take n) (l[i].extract 0 j) (by simp; omega)
      rw [show ch (l[i].extract 0 j) = (ch l[i]).take j by rw [ch_extract]; simp] at hput
      refine Ev.succ ?_
      simp only [spec_pfInner.l1, Int.toNat_natCast, w1 (show 0 ≤ (j : Int) by omega) (show (j : Int) < 9223372036854775807 by omega)]
      exact Ev.pos (by omega) (Ev.pos (by omega) (Ev.pos (by omega) (Ev.bind hput hnext)))
    · refine Ev.succ ?_
      simp only [spec_pfInner.l1, w1 (show 0 ≤ (i : Int) by omega) (show (i : Int) < 9223372036854775807 by omega)]
      refine Ev.neg (by omega) ?_
      rw [ch_length] at hnext
      exact hnext
  · refine Ev.succ ?_
    simp only [spec_pfInner.l0]
    exact Ev.neg (by omega) (Ev.pure (by rw [List.take_of_length_le (by simp)]))
theorem impl_innerWords_ev (l : List ByteArray) (hl : l.length ≤ 12) (h8 : ∀ w ∈ l, w.size ≤ 8) : Ev (fun k => impl_innerWords.f k l) (bas (inn (l.map ch))) := by
  have h8' : ∀ t ∈ l.map ch, t.length ≤ 8 := fun t ht => by obtain ⟨w, hw, rfl⟩ := List.mem_map.1 ht; rw [ch_length]; exact h8 w hw
  have hb : ∀ i, (inn ((l.map ch).take i)).length ≤ 96 := fun i => by
    have h1 := inn_len ((l.map ch).take i) (fun t ht => h8' t (List.mem_of_mem_take ht))
    have h2 : ((l.map ch).take i).length ≤ 12 := Nat.le_trans (List.length_take_le' _ _) (by simpa using hl)
    omega
  unfold impl_innerWords.f
  have start : ([] : List ByteArray) = (inn ((l.map ch).take 0)).map bx := by simp [inn]
  rw [start]
  refine Ev.loop (fun i k => impl_innerWords.l0 k ((inn ((l.map ch).take i)).map bx) l (l.length : Int) (i : Int)) l.length _ (fun i hi hnext => ?_) ?_
  · have hi' : i < (l.map ch).length := by simpa using hi
    have hbi := hb i
    have hw8 := h8 _ (List.getElem_mem hi)
    rw [inn_succ _ i hi', List.getElem_map] at hnext
    obtain ⟨N, hN⟩ : ∃ N, N = inn ((l.map ch).take i) := ⟨_, rfl⟩
    rw [← hN] at hnext hbi ⊢
    refine Ev.succ ?_
    simp only [impl_innerWords.l0, rdOf_nat l i hi]
    refine Ev.pos (by omega) (Ev.pos (by omega) (Ev.pos (by omega) ?_))
    have s0 : N.map bx = (N ++ (List.range 0).map fun n => (ch l[i]).take n).map bx := by simp
    rw [s0]
    refine Ev.loop (fun j k => impl_innerWords.l1 k ((N ++ (List.range j).map fun n => (ch l[i]).take n).map bx) l[i] l (l.length : Int) (i : Int) (l[i].size : Int) (j : Int)) l[i].size _ (fun j hj hnext => ?_) ?_
    · have e : bx ((ch l[i]).take j) = l[i].extract 0 j := by rw [← bx_ch (l[i].extract 0 j), ch_extract]; simp
      have e0 : (N ++ (List.range (j + 1)).map fun n => (ch l[i]).take n).map bx = (N ++ (List.range j).map fun n => (ch l[i]).take n).map bx ++ [l[i].extract 0 j] := by
        rw [← e]; simp [List.range_succ]
      rw [e0] at hnext
      refine Ev.succ ?_
      simp only [impl_innerWords.l1, Int.toNat_natCast, w1 (show 0 ≤ (j : Int) by omega) (show (j : Int) < 9223372036854775807 by omega)]
      exact Ev.pos (by omega) (Ev.pos (by omega) (Ev.pos (by omega) (Ev.pos (by simp; omega) hnext)))
    · refine Ev.succ ?_
      simp only [impl_innerWords.l1, w1 (show 0 ≤ (i : Int) by omega) (show (i : Int) < 9223372036854775807 by omega)]
      refine Ev.neg (by omega) ?_
      rw [ch_length] at hnext
      exact hnext
  · have hbl := hb l.length
    refine Ev.succ ?_
    simp only [impl_innerWords.l0]
    rw [List.take_of_length_le (by simp)] at hbl ⊢
    refine Ev.neg (by omega) (Ev.known (fun _ => ordered_eq _ (by simp only [List.length_map]; omega)) (Ev.pure ?_))
    rw [map_ch_bx]
theorem inn_short (l : List ByteArray) (hsh : ∀ s ∈ l, short s = true) : ∀ x ∈ inn (l.map ch), x.length ≤ 8 ∧ x.all isLetter = true := by
  intro x hx
  obtain ⟨t, ht, hx⟩ := List.mem_flatMap.1 hx
  obtain ⟨s, hs, rfl⟩ := List.mem_map.1 ht
  obtain ⟨n, -, rfl⟩ := List.mem_map.1 hx
  have h := hsh s hs
  unfold short at h
  simp only [Bool.and_eq_true, decide_eq_true_eq] at h
  refine ⟨?_, ?_⟩
  · have := ch_length s; simp; omega
  · rw [List.all_eq_true]
    intro c hc
    exact List.all_eq_true.1 h.2 c (List.mem_of_mem_take hc)

/-- a word's weight, by words of the greatest length -/
def hv (a b c : Nat) (s : ByteArray) : Nat := (a + b + c) ^ (8 - s.size) * wprod a b c s.data.toList
theorem pow8n (t : Nat) (h : t ≤ 10) : t ^ 8 ≤ 100000000 := Nat.le_trans (Nat.pow_le_pow_left h 8) (by decide)
theorem hv_le (a b c : Nat) (hb : 1 ≤ a + b + c ∧ a + b + c ≤ 10) (s : ByteArray) (hs : s.size ≤ 8) : hv a b c s ≤ 100000000 := by
  have h1 := wprod_le a b c s.data.toList
  rw [← size_data] at h1
  have h2 : (a + b + c) ^ (8 - s.size) * (a + b + c) ^ s.size = (a + b + c) ^ 8 := by rw [← Nat.pow_add]; congr 1; omega
  have h3 := pow8n _ hb.2
  rw [← h2] at h3
  exact Nat.le_trans (Nat.mul_le_mul_left _ h1) h3
/-- all of them, each as often as is told -/
def hsum (a b c : Nat) (tm : ByteArray → Nat) (l : List ByteArray) : Nat := (l.map fun s => hv a b c s * tm s).sum
theorem hsum_take (a b c : Nat) (tm : ByteArray → Nat) (l : List ByteArray) (i : Nat) (h : i < l.length) : hsum a b c tm (l.take (i + 1)) = hsum a b c tm (l.take i) + hv a b c l[i] * tm l[i] := by
  unfold hsum
  rw [List.take_succ_eq_append_getElem h, List.map_append, List.sum_append]; simp
theorem hsum_le (a b c : Nat) (hb : 1 ≤ a + b + c ∧ a + b + c ≤ 10) (tm : ByteArray → Nat) : ∀ (l : List ByteArray), (∀ s ∈ l, s.size ≤ 8 ∧ tm s ≤ 8) → hsum a b c tm l ≤ l.length * 800000000
  | [], _ => by simp [hsum]
  | s :: l, h => by
    have ih := hsum_le a b c hb tm l (fun x hx => h x (by simp [hx]))
    have h1 := hv_le a b c hb s (h s (by simp)).1
    have h2 : hv a b c s * tm s ≤ 100000000 * 8 := Nat.mul_le_mul h1 (h s (by simp)).2
    unfold hsum at ih ⊢
    rw [List.map_cons, List.sum_cons, List.length_cons]; omega
theorem wrap_nat (n : Nat) (h : n ≤ 100000000000) : wrap64 (n : Int) = (n : Int) := w64 (by omega) (by omega)
theorem leProduct_ev (s : ByteArray) (a b c : Nat) (hs : s.size ≤ 8) (hb : 1 ≤ a + b + c ∧ a + b + c ≤ 10) (hl : s.data.toList.all isLetter = true) : Ev (fun k => spec_leProduct.f k s [(a : Int), (b : Int), (c : Int)]) ((wprod a b c s.data.toList : Nat) : Int) := by
  have h := leProduct_l0 s a b c hs (pow8 _ hb.2) hb.1 hl s.data.toList.length 0 (by omega)
  simpa [spec_leProduct.f, wprod] using h
/-- a word that may be weighed, an empty one too -/
def shortG (s : ByteArray) : Bool := decide (s.size ≤ 8) && s.data.toList.all isLetter
theorem shortG_of (s : ByteArray) (h : shortG s = true) : (True ∧ s.size ≤ 8) ∧ s.data.toList.all isLetter = true := by
  unfold shortG at h
  simpa [Bool.and_eq_true, decide_eq_true_eq] using h
theorem leSum_l0 (a b c : Nat) (hb : 1 ≤ a + b + c ∧ a + b + c ≤ 10) (tm : ByteArray → Nat) (l : List ByteArray) (hsh : ∀ s ∈ l, shortG s = true) (h12 : l.length ≤ 110) (htm : ∀ s ∈ l, tm s ≤ 8) :
    ∀ (d i : Nat), i + d = l.length → Ev (fun k => spec_leSum.l0 k (l.map fun s => (tm s : Int)) [(a : Int), (b : Int), (c : Int)] ((hsum a b c tm (l.take i) : Nat) : Int) l (l.length : Int) (i : Int)) (lowest (hsum a b c tm l) ((a + b + c) ^ 8))
  | 0, i, hd => by
    have hle := hsum_le a b c hb tm l (fun s hs => ⟨(shortG_of s (hsh s hs)).1.2, htm s hs⟩)
    have h8 := pow8 _ hb.2
    refine Ev.succ ?_
    simp only [spec_leSum.l0]
    rw [List.take_of_length_le (by omega)]
    exact Ev.neg (by omega) (Ev.known (fun _ => leTotal_eq a b c hb.2) (Ev.bind (krPower_ev (a + b + c) 8 hb.1 (by omega) (by omega)) (Ev.bind (krRatio_ev _ _ (by omega) (by omega) (Nat.pow_pos (by omega))) (Ev.now _))))
  | d + 1, i, hd => by
    have h1 : i < l.length := by omega
    have h1' : i < (l.map fun s => (tm s : Int)).length := by simp; omega
    have ih := leSum_l0 a b c hb tm l hsh h12 htm d (i + 1) (by omega)
    have hs := shortG_of _ (hsh _ (List.getElem_mem h1))
    have ht := htm _ (List.getElem_mem h1)
    have hle := hsum_le a b c hb tm (l.take (i + 1)) (fun s hs => ⟨(shortG_of s (hsh s (List.mem_of_mem_take hs))).1.2, htm s (List.mem_of_mem_take hs)⟩)
    have hh := hv_le a b c hb l[i] hs.1.2
    have hpow : (a + b + c) ^ (8 - l[i].size) ≤ 100000000 := Nat.le_trans (Nat.pow_le_pow_right hb.1 (by omega)) (pow8n _ hb.2)
    have hpos : 1 ≤ (a + b + c) ^ (8 - l[i].size) := Nat.one_le_pow _ _ hb.1
    have hw : wprod a b c l[i].data.toList ≤ 100000000 := by
      refine Nat.le_trans ?_ hh
      unfold hv
      exact Nat.le_mul_of_pos_left _ hpos
    have h2 : tm l[i] * wprod a b c l[i].data.toList ≤ 8 * 100000000 := Nat.mul_le_mul ht hw
    have h3 : tm l[i] * hv a b c l[i] ≤ 8 * 100000000 := Nat.mul_le_mul ht hh
    have e1 : Aside0 (wrap64 (8 - (l[i].size : Int)) = ((8 - l[i].size : Nat) : Int)) := ⟨by rw [w64 (by omega) (by omega)]; omega⟩
    have e2 : Aside0 (wrap64 (((hsum a b c tm (l.take i) : Nat) : Int) + wrap64 (wrap64 ((tm l[i] : Int) * ((wprod a b c l[i].data.toList : Nat) : Int)) * (((a + b + c) ^ (8 - l[i].size) : Nat) : Int))) = ((hsum a b c tm (l.take (i + 1)) : Nat) : Int)) := ⟨by
      have e3 : tm l[i] * wprod a b c l[i].data.toList * (a + b + c) ^ (8 - l[i].size) = hv a b c l[i] * tm l[i] := by
        unfold hv; rw [Nat.mul_assoc, Nat.mul_comm, Nat.mul_comm (wprod a b c l[i].data.toList)]
      rw [← Int.natCast_mul, wrap_nat _ (by omega), ← Int.natCast_mul, e3, wrap_nat _ (by rw [Nat.mul_comm]; omega), ← Int.natCast_add, ← hsum_take a b c tm l i h1]
      refine wrap_nat _ (Nat.le_trans hle ?_)
      rw [List.length_take]; omega⟩
    refine Ev.succ ?_
    simp only [spec_leSum.l0, rdOf_nat l i h1, rd_nat _ i h1', List.getElem_map, e1.out, w1 (show 0 ≤ (i : Int) by omega) (show (i : Int) < 9223372036854775807 by omega)]
    refine Ev.pos (by omega) (Ev.pos (by omega) (Ev.pos (by omega) (Ev.pos (by omega) (Ev.bind (leProduct_ev _ a b c hs.1.2 hb hs.2) (Ev.known (fun _ => leTotal_eq a b c hb.2) (Ev.bind (krPower_ev (a + b + c) (8 - l[i].size) hb.1 (by omega) (by omega)) ?_))))))
    rw [e2.out]
    exact ih
theorem leSum_ev (a b c : Nat) (hb : 1 ≤ a + b + c ∧ a + b + c ≤ 10) (tm : ByteArray → Nat) (l : List ByteArray) (hsh : ∀ s ∈ l, shortG s = true) (h12 : l.length ≤ 110) (htm : ∀ s ∈ l, tm s ≤ 8) :
    Ev (fun k => spec_leSum.f k l (l.map fun s => (tm s : Int)) [(a : Int), (b : Int), (c : Int)]) (lowest (hsum a b c tm l) ((a + b + c) ^ 8)) := by
  have h := leSum_l0 a b c hb tm l hsh h12 htm l.length 0 (by omega)
  simpa [spec_leSum.f, hsum] using h
theorem weigh_l0 (a b c : Nat) (hb : 1 ≤ a + b + c ∧ a + b + c ≤ 10) (tm : ByteArray → Nat) (hT : ∀ s, impl_once.f s = some (tm s : Int)) (l : List ByteArray) (hsh : ∀ s ∈ l, shortG s = true) (h12 : l.length ≤ 110) (htm : ∀ s ∈ l, tm s ≤ 8) :
    ∀ (d i : Nat), i + d = l.length → Ev (fun k => impl_weigh_at_impl_once.l0 k [(a : Int), (b : Int), (c : Int)] ((hsum a b c tm (l.take i) : Nat) : Int) l (l.length : Int) (i : Int)) (lowest (hsum a b c tm l) ((a + b + c) ^ 8))
  | 0, i, hd => by
    have hle := hsum_le a b c hb tm l (fun s hs => ⟨(shortG_of s (hsh s hs)).1.2, htm s hs⟩)
    have h8 := pow8 _ hb.2
    refine Ev.succ ?_
    simp only [impl_weigh_at_impl_once.l0]
    rw [List.take_of_length_le (by omega)]
    exact Ev.neg (by omega) (Ev.bind (sum3' a b c hb.2) (Ev.bind (power_ev (a + b + c) 8 hb.1 (by omega) (by omega)) (Ev.bind (ratio_ev _ _ (by omega) (by omega) (Nat.pow_pos (by omega))) (Ev.now _))))
  | d + 1, i, hd => by
    have h1 : i < l.length := by omega
    have ih := weigh_l0 a b c hb tm hT l hsh h12 htm d (i + 1) (by omega)
    have hs := shortG_of _ (hsh _ (List.getElem_mem h1))
    have ht := htm _ (List.getElem_mem h1)
    have hle := hsum_le a b c hb tm (l.take (i + 1)) (fun s hs => ⟨(shortG_of s (hsh s (List.mem_of_mem_take hs))).1.2, htm s (List.mem_of_mem_take hs)⟩)
    have hh := hv_le a b c hb l[i] hs.1.2
    have h3 : hv a b c l[i] * tm l[i] ≤ 100000000 * 8 := Nat.mul_le_mul hh ht
    have e2 : Aside0 (wrap64 (((hsum a b c tm (l.take i) : Nat) : Int) + wrap64 (((hv a b c l[i] : Nat) : Int) * (tm l[i] : Int))) = ((hsum a b c tm (l.take (i + 1)) : Nat) : Int)) := ⟨by
      rw [← Int.natCast_mul, wrap_nat _ (by omega), ← Int.natCast_add, ← hsum_take a b c tm l i h1]
      refine wrap_nat _ (Nat.le_trans hle ?_)
      rw [List.length_take]; omega⟩
    refine Ev.succ ?_
    simp only [impl_weigh_at_impl_once.l0, rdOf_nat l i h1, w1 (show 0 ≤ (i : Int) by omega) (show (i : Int) < 9223372036854775807 by omega)]
    refine Ev.pos (by omega) (Ev.pos (by omega) (Ev.pos (by omega) (Ev.bind (show Ev _ ((hv a b c l[i] : Nat) : Int) from heavy_ev _ a b c hs.1.2 hb hs.2) (Ev.known (fun _ => hT _) ?_))))
    rw [e2.out]
    exact ih
theorem weigh_ev (a b c : Nat) (hb : 1 ≤ a + b + c ∧ a + b + c ≤ 10) (tm : ByteArray → Nat) (hT : ∀ s, impl_once.f s = some (tm s : Int)) (l : List ByteArray) (hsh : ∀ s ∈ l, shortG s = true) (h12 : l.length ≤ 110) (htm : ∀ s ∈ l, tm s ≤ 8) :
    Ev (fun k => impl_weigh_at_impl_once.f k l [(a : Int), (b : Int), (c : Int)]) (lowest (hsum a b c tm l) ((a + b + c) ^ 8)) := by
  have h := weigh_l0 a b c hb tm hT l hsh h12 htm l.length 0 (by omega)
  simpa [impl_weigh_at_impl_once.f, hsum] using h

theorem leOnes_l0 : ∀ (d : Nat) (acc : List Int), d + acc.length ≤ 1048576 → Ev (fun k => spec_leOnes.l0 k (d : Int) acc) (acc ++ List.replicate d 1)
  | 0, acc, h => by
    refine Ev.succ ?_
    simp only [spec_leOnes.l0]
    exact Ev.neg (by omega) (Ev.pure (by simp))
  | d + 1, acc, h => by
    have ih := leOnes_l0 d (acc ++ [1]) (by simp; omega)
    have e : Aside0 (wrap64 (((d + 1 : Nat) : Int) - 1) = (d : Int)) := ⟨by rw [w64 (by omega) (by omega)]; omega⟩
    refine Ev.succ ?_
    simp only [spec_leOnes.l0, e.out]
    refine Ev.pos (by omega) (Ev.pos (by omega) ?_)
    rw [List.replicate_succ, show acc ++ 1 :: List.replicate d 1 = (acc ++ [1]) ++ List.replicate d 1 by simp]
    exact ih
theorem leOnes_ev (n : Nat) (h : n ≤ 1048576) : Ev (fun k => spec_leOnes.f k (n : Int)) (List.replicate n 1) := by
  simpa [spec_leOnes.f] using leOnes_l0 n [] (by simpa using h)
theorem ones_map (l : List ByteArray) : List.replicate l.length (1 : Int) = l.map fun s => (((fun _ => 1 : ByteArray → Nat) s : Nat) : Int) := by
  induction l with
  | nil => rfl
  | cons s l ih => rw [List.length_cons, List.replicate_succ, ih]; rfl

theorem same (l : List ByteArray) (w : List Int) (hl : l.length ≤ 1048576) (hw : w.length ≤ 1048576) : ∃ r, Ev (fun k => spec_InnerWeight.f k l w) r ∧ Ev (fun k => impl_InnerWeight.f k l w) r := by
  obtain ⟨b, h1, h2, hb⟩ := isSet_same l hl
  obtain ⟨t, l1, l2, hwt⟩ := letterWeights_same w hw
  have fe : ∀ (x : Bool), x = true → Ev (fun k => spec_InnerWeight.j0 k l w x) (0, 0, false) := fun x hx => Ev.succ (by simp only [spec_InnerWeight.j0]; exact Ev.pos hx (Ev.now _))
  have fi : ∀ (x : Bool), x = true → Ev (fun k => impl_InnerWeight.j0 k l w x) (0, 0, false) := fun x hx => Ev.succ (by simp only [impl_InnerWeight.j0]; exact Ev.pos hx (Ev.now _))
  unfold spec_InnerWeight.f impl_InnerWeight.f
  cases b with
  | false => exact ⟨(0, 0, false), Ev.bind h1 (Ev.neg (by simp) (fe _ rfl)), Ev.bind h2 (Ev.neg (by simp) (fi _ rfl))⟩
  | true =>
    cases t with
    | false => exact ⟨(0, 0, false), Ev.bind h1 (Ev.pos rfl (Ev.bind l1 (fe _ rfl))), Ev.bind h2 (Ev.pos rfl (Ev.bind l2 (fi _ rfl)))⟩
    | true =>
      have hset := hb rfl
      obtain ⟨a, b, c, rfl, hb1, hb2⟩ := hwt rfl
      have h8 := fun w hw => (hset.size w hw).2
      have hin := inn_short l hset.short
      have h8' : ∀ t ∈ l.map ch, t.length ≤ 8 := fun t ht => by obtain ⟨w, hw, rfl⟩ := List.mem_map.1 ht; rw [ch_length]; exact h8 w hw
      have hlen : (bas (inn (l.map ch))).length ≤ 96 := by
        have h1 := bas_len (inn (l.map ch))
        have h2 := inn_len (l.map ch) h8'
        have h3 := hset.few
        rw [List.length_map] at h2
        omega
      have hsh : ∀ s ∈ bas (inn (l.map ch)), shortG s = true := fun s hs => by
        obtain ⟨x, hx, rfl⟩ := List.mem_map.1 hs
        have := hin x ((mem_ordL _ x).1 hx)
        unfold shortG
        rw [bx_size, decide_eq_true this.1, Bool.true_and]
        exact this.2
      have h1' := spec_pfInner_ev l hset.few h8
      have h2' := impl_innerWords_ev l hset.few h8
      generalize bas (inn (l.map ch)) = L at hlen hsh h1' h2'
      have hs := leSum_ev a b c ⟨hb1, hb2⟩ (fun _ => 1) L hsh (by omega) (fun _ _ => by omega)
      have hi := weigh_ev a b c ⟨hb1, hb2⟩ (fun _ => 1) (fun _ => rfl) L hsh (by omega) (fun _ _ => by omega)
      generalize lowest (hsum a b c (fun _ => 1) L) ((a + b + c) ^ 8) = X at hs hi
      refine ⟨(X.1, X.2, true), Ev.bind h1 (Ev.pos rfl (Ev.bind l1 (Ev.succ ?_))), Ev.bind h2 (Ev.pos rfl (Ev.bind l2 (Ev.succ ?_)))⟩
      · simp only [spec_InnerWeight.j0]
        refine Ev.neg (by simp) (Ev.bind h1' (Ev.bind (leOnes_ev L.length (by omega)) (Ev.bind (a := X) ?_ (Ev.now _))))
        rw [ones_map]; exact hs
      · simp only [impl_InnerWeight.j0]
        exact Ev.neg (by simp) (Ev.bind h2' (Ev.bind hi (Ev.now _)))
theorem FnExactInnerWeight : laws_FnExactInnerWeight.Pure := by
  intro l w hl hs _ _ _
  refine Ev.rounds ?_
  unfold laws_FnExactInnerWeight.f
  obtain ⟨z, hz, hzz⟩ := szS_ev l hl hs
  refine Ev.cases (fun _ => Ev.now _) (fun hw => Ev.bind hz (Ev.cases (fun _ => Ev.now _) (fun hzn => ?_)))
  obtain ⟨hl', -⟩ := hzz (by omega)
  have hw' : w.length ≤ 1048576 := by omega
  obtain ⟨r, h1, h2⟩ := same l w hl' hw'
  have he : laws_eqRatio.f r.1 r.2.1 r.1 r.2.1 = some true := by simp [laws_eqRatio.f]
  refine Ev.bind (toS_ev l hl') (Ev.bind (toIntS_ev w hw') (Ev.bind h1 (Ev.bind (toS_ev l hl') (Ev.bind (toIntS_ev w hw') (Ev.bind h2 (Ev.known (fun _ => he) (Ev.pos rfl ?_)))))))
  refine Ev.succ ?_
  simp only [laws_FnExactInnerWeight.j0]
  refine Ev.neg (by simp) ?_
  exact Ev.bind (toS_ev l hl') (Ev.bind (eqS_ev l hl') (Ev.pos rfl (Ev.bind (toIntS_ev w hw') (Ev.bind (eqIntS_ev w hw') (Ev.pos rfl (Ev.now _))))))
end Go.Proofs.YtaglbacldonflaaDoor.Pure
