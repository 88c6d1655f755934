/- AreTurns of the program and of the reference answer alike for all arguments: no condition. -/
import Derived.Test.YtdhdboeflncmiaaDoorXFnExactAreTurnsx2
namespace Go.Proofs.YtdhdboeflncmiaaDoor.Pure
set_option linter.unusedSimpArgs false
set_option linter.unusedVariables false
open Go.RowKit Go.Proofs.YtdhdboeflncmiaaDoor.Hand Go.Proofs.YtdhdboeflncmiaaDoor.XFnExactAreTurns Go.Proofs.YtdhdboeflncmiaaDoorW.PrintWords Go.Proofs.YtdhdboeflncmiaaDoorW.PrintLast Go.Proofs.YtdhdboeflncmiaaDoorW.PrintMore

theorem w1 {i : Int} (h0 : 0 ≤ i) (h : i < 9223372036854775807) : wrap64 (i + 1) = i + 1 := by unfold wrap64; omega
theorem w64 {i : Int} (h0 : -9223372036854775808 ≤ i) (h : i < 9223372036854775808) : wrap64 i = i := by unfold wrap64; omega
theorem rd_nat (l : List Int) (i : Nat) (h : i < l.length) : rd l (i : Int) = l[i] := by
  unfold rd; simp [List.getD_eq_getElem?_getD, h]
theorem Ev.pos {α : Type} {c : Prop} [Decidable c] {g g' : Nat → Option α} {r : α} (h : c) (k : Ev g r) : Ev (fun n => if c then g n else g' n) r :=
  Ev.congr (fun n => if_pos h) k
theorem Ev.neg {α : Type} {c : Prop} [Decidable c] {g g' : Nat → Option α} {r : α} (h : ¬ c) (k : Ev g' r) : Ev (fun n => if c then g n else g' n) r :=
  Ev.congr (fun n => if_neg h) k
theorem Ev.cases {α : Type} {c : Prop} [Decidable c] {g g' : Nat → Option α} {r : α} (h : c → Ev g r) (k : ¬ c → Ev g' r) : Ev (fun n => if c then g n else g' n) r := by
  by_cases e : c
  · exact Ev.pos e (h e)
  · exact Ev.neg e (k e)
/-- a call whose answer is known at every number of rounds -/
theorem Ev.known {α β : Type} {g : Nat → Option α} {f : Nat → α → Option β} {a : α} {r : β} (h : ∀ n, g n = some a) (k : Ev (fun n => f n a) r) : Ev (fun n => (g n).bind (f n)) r :=
  Ev.bind ⟨0, fun n _ => h n⟩ k
/-- one bind of two, joined with what follows -/
theorem Ev.pure {α : Type} {r q : α} (h : r = q) : Ev (fun _ => some r) q := h ▸ Ev.now r
theorem Ev.succ {α : Type} {g : Nat → Option α} {r : α} (h : Ev (fun k => g (k + 1)) r) : Ev g r := Ev.step (f := fun k => g (k + 1)) (fun _ => rfl) h

theorem rdOf_nat (l : List ByteArray) (i : Nat) (h : i < l.length) : rdOf ByteArray.empty l (i : Int) = l[i] := by
  unfold rdOf; simp [List.getD_eq_getElem?_getD, h]

theorem bt_nat (s : ByteArray) (i : Nat) (h : i < s.data.toList.length) : bt s (i : Int) = ((s.data.toList[i]).toNat : Int) := by
  have h' : i < s.size := by have e : s.size = s.data.toList.length := Array.length_toList.symm; omega
  unfold bt
  rw [dif_pos (show (i : Int).toNat < s.size by simpa using h')]
  simp [ByteArray.getElem_eq_getElem_data]
theorem size_data (s : ByteArray) : s.size = s.data.toList.length := Array.length_toList.symm
theorem letter_test (c : UInt8) : ((c.toNat : Int) < 97 ∨ ((c.toNat : Int) - 97) % 256 ≥ 3) ↔ isLetter c = false := by
  have := c.toNat_lt
  unfold isLetter
  rw [decide_eq_false_iff_not]
  omega
theorem wdIs_l0 (s : ByteArray) (hs : s.size < 4611686018427387904) : ∀ (d i : Nat), i + d = s.data.toList.length → Ev (fun k => spec_wdIs.l0 k s (i : Int)) ((s.data.toList.drop i).all isLetter)
  | 0, i, hd => by
    refine Ev.succ ?_
    simp only [spec_wdIs.l0]
    exact Ev.neg (by rw [size_data]; omega) (Ev.pure (by rw [List.drop_of_length_le (by omega)]; rfl))
  | d + 1, i, hd => by
    have h1 : i < s.data.toList.length := by omega
    have ih := wdIs_l0 s hs d (i + 1) (by omega)
    have ht := letter_test s.data.toList[i]
    have hsz := size_data s
    rw [List.drop_eq_getElem_cons h1, List.all_cons]
    refine Ev.succ ?_
    simp only [spec_wdIs.l0, bt_nat s i h1, w1 (show 0 ≤ (i : Int) by omega) (show (i : Int) < 9223372036854775807 by omega)]
    refine Ev.pos (by omega) (Ev.pos (by omega) (Ev.cases (fun h => ?_) (fun h => Ev.cases (fun h' => ?_) (fun h' => ?_))))
    · rw [ht.1 (Or.inl h)]; exact Ev.now _
    · rw [ht.1 (Or.inr h')]; exact Ev.now _
    · have : isLetter s.data.toList[i] = true := by
        cases hl : isLetter s.data.toList[i]
        · exact absurd (ht.2 hl) (by omega)
        · rfl
      rw [this, Bool.true_and]; exact ih
theorem wdIs_ev (s : ByteArray) (hs : s.size < 4611686018427387904) : Ev (fun k => spec_wdIs.f k s) (s.data.toList.all isLetter) := by
  have h := wdIs_l0 s hs s.data.toList.length 0 (by omega)
  simpa [spec_wdIs.f] using h

theorem wdGood_ev (s : ByteArray) : Ev (fun k => spec_wdGood.f k s) (decide (s.size ≤ 60) && s.data.toList.all isLetter) := by
  unfold spec_wdGood.f
  refine Ev.cases (fun h => ?_) (fun h => ?_)
  · rw [decide_eq_true (show s.size ≤ 60 by omega), Bool.true_and]
    exact Ev.bind (wdIs_ev s (by omega)) (Ev.now _)
  · rw [decide_eq_false (show ¬ s.size ≤ 60 by omega), Bool.false_and]
    exact Ev.now _

theorem bytesLess_cmp : ∀ (x y : List UInt8), Op.bytesLess x y = decide (Lib.compareBytes x y < 0)
  | [], [] => by simp [Op.bytesLess, Lib.compareBytes]
  | _ :: _, [] => by simp [Op.bytesLess, Lib.compareBytes]
  | [], _ :: _ => by simp [Op.bytesLess, Lib.compareBytes]
  | a :: x, b :: y => by
    rw [Op.bytesLess, bytesLess_cmp x y, Lib.compareBytes]
    by_cases h1 : a < b
    · simp [h1]
    · by_cases h2 : b < a
      · have : (a == b) = false := by
          rw [beq_eq_false_iff_ne]; rintro rfl; exact h1 h2
        simp [h1, h2, this]
      · have : a = b := by
          have h1' : ¬ a.toNat < b.toNat := h1
          have h2' : ¬ b.toNat < a.toNat := h2
          exact UInt8.toNat_inj.1 (by omega)
        subst this; simp [h1]
theorem bytesLess_irrefl : ∀ (x : List UInt8), Op.bytesLess x x = false
  | [] => rfl
  | a :: x => by rw [Op.bytesLess, bytesLess_irrefl x]; simp
theorem bytesLess_trans : ∀ (x y z : List UInt8), Op.bytesLess x y = true → Op.bytesLess y z = true → Op.bytesLess x z = true
  | _, [], _ => by simp [Op.bytesLess]
  | _, _ :: _, [] => by simp [Op.bytesLess]
  | [], _ :: _, _ :: _ => by simp [Op.bytesLess]
  | a :: x, b :: y, c :: z => by
    have ih := bytesLess_trans x y z
    simp only [Op.bytesLess, Bool.or_eq_true, decide_eq_true_eq, Bool.and_eq_true, beq_iff_eq]
    intro h1 h2
    rcases h1 with h1 | ⟨rfl, h1⟩
    · rcases h2 with h2 | ⟨rfl, h2⟩
      · exact Or.inl (UInt8.lt_trans h1 h2)
      · exact Or.inl h1
    · rcases h2 with h2 | ⟨rfl, h2⟩
      · exact Or.inl h2
      · exact Or.inr ⟨rfl, ih h1 h2⟩
/-- the order of words: by length, then by letters -/
def wless (a b : ByteArray) : Bool := decide (a.size < b.size) || (decide (a.size = b.size) && Op.bytesLess a.data.toList b.data.toList)
theorem wless_irrefl (a : ByteArray) : wless a a = false := by unfold wless; rw [bytesLess_irrefl]; simp
theorem wless_trans (a b c : ByteArray) (h1 : wless a b = true) (h2 : wless b c = true) : wless a c = true := by
  unfold wless at *
  simp only [Bool.or_eq_true, decide_eq_true_eq, Bool.and_eq_true] at *
  rcases h1 with h1 | ⟨h1, g1⟩ <;> rcases h2 with h2 | ⟨h2, g2⟩
  · left; omega
  · left; omega
  · left; omega
  · exact Or.inr ⟨by omega, bytesLess_trans _ _ _ g1 g2⟩
theorem wdLess_eq (a b : ByteArray) : spec_wdLess.f a b = some (wless a b) := by
  unfold spec_wdLess.f wless
  by_cases h : a.size < b.size
  · rw [if_pos (by omega)]; simp [h]
  · rw [if_neg (by omega)]
    by_cases h' : a.size = b.size
    · rw [if_pos (by omega)]; simp [h', ByteArray.toList_eq]
    · rw [if_neg (by omega)]; simp [h, h']

/-- a text's letters -/
abbrev ch (s : ByteArray) : List UInt8 := s.data.toList
theorem ch_length (s : ByteArray) : (ch s).length = s.size := Array.length_toList
theorem ch_extract (s : ByteArray) (a b : Nat) : ch (s.extract a b) = ((ch s).drop a).take (b - a) := by
  simp [ch, ByteArray.data_extract, Array.toList_extract, List.extract_eq_take_drop]
theorem ch_drop (s : ByteArray) (a : Nat) : ch (s.extract a s.size) = (ch s).drop a := by
  rw [ch_extract, List.take_of_length_le]; simp only [List.length_drop, ch_length]; omega
theorem begins_test (a w : ByteArray) (h : w.size ≤ a.size) : ((a.extract 0 w.size).toList == w.toList) = (ch w).isPrefixOf (ch a) := by
  rw [ByteArray.toList_eq, ByteArray.toList_eq]
  change (ch (a.extract 0 w.size) == ch w) = _
  rw [ch_extract, List.drop_zero, Nat.sub_zero, ← ch_length w, Bool.eq_iff_iff, beq_iff_eq, List.isPrefixOf_iff_prefix, List.prefix_iff_eq_take]
  exact eq_comm
theorem prefix_long (a w : ByteArray) (h : ¬ w.size ≤ a.size) : (ch w).isPrefixOf (ch a) = false := by
  rw [Bool.eq_false_iff]
  intro hp
  have := (List.isPrefixOf_iff_prefix.1 hp).length_le
  rw [ch_length, ch_length] at this
  exact h this
theorem toList_ch (s : ByteArray) : s.toList = ch s := ByteArray.toList_eq s
theorem chNe (l : List ByteArray) (hne : ∀ w ∈ l, 1 ≤ w.size) : ∀ t ∈ l.map ch, t ≠ [] := fun t ht => by
  obtain ⟨w, hw, rfl⟩ := List.mem_map.1 ht
  intro e; have := hne w hw; have := ch_length w; rw [e] at this; simp at this; omega

/-- a loop from the first place to the last one, with what is so at each place -/
theorem Ev.loop {R : Type} (g : Nat → Nat → Option R) (n : Nat) (r : R) (hstep : ∀ i, i < n → Ev (g (i + 1)) r → Ev (g i) r) (hend : Ev (g n) r) : Ev (g 0) r := by
  have h : ∀ d i, i + d = n → Ev (g i) r := by
    intro d
    induction d with
    | zero => intro i hi; rw [show i = n by omega]; exact hend
    | succ d ih => intro i hi; exact hstep i (by omega) (ih (i + 1) (by omega))
  exact h n 0 (by omega)

/-- a text out of its letters -/
def bx (x : List UInt8) : ByteArray := ⟨x.toArray⟩
theorem ch_bx (x : List UInt8) : ch (bx x) = x := by simp [ch, bx]
theorem bx_ch (s : ByteArray) : bx (ch s) = s := by simp [ch, bx]
theorem ch_inj' {a b : ByteArray} (h : ch a = ch b) : a = b := ByteArray.ext (Array.toList_inj.1 h)
theorem map_ch_bx (l : List (List UInt8)) : (l.map bx).map ch = l := by simp [Function.comp_def, ch_bx]
theorem map_bx_ch (l : List ByteArray) : (l.map ch).map bx = l := by simp [Function.comp_def, bx_ch]
theorem bx_size (x : List UInt8) : (bx x).size = x.length := by rw [← ch_length, ch_bx]
/-- words in order, each once, as texts -/
def bas (M : List (List UInt8)) : List ByteArray := (ordL M).map bx
theorem ordL_congr {M N : List (List UInt8)} (h : ∀ x, x ∈ M ↔ x ∈ N) : ordL M = ordL N := rises_unique _ _ (ordL_rises M) (ordL_rises N) (fun x => by rw [mem_ordL, mem_ordL]; exact h x)
theorem bas_congr {M N : List (List UInt8)} (h : ∀ x, x ∈ M ↔ x ∈ N) : bas M = bas N := by unfold bas; rw [ordL_congr h]
theorem ch_bas (M : List (List UInt8)) : (bas M).map ch = ordL M := map_ch_bx _
theorem bas_of (r : List ByteArray) (M : List (List UInt8)) (hr : (r.map ch).Pairwise fun x y => wcmp x y < 0) (hm : ∀ x, x ∈ r.map ch ↔ x ∈ M) : r = bas M := by
  unfold bas
  rw [← rises_unique (r.map ch) (ordL M) hr (ordL_rises M) (fun x => by rw [hm, mem_ordL]), map_bx_ch]
theorem ordL_len (M : List (List UInt8)) : (ordL M).length ≤ M.length := by
  unfold ordL Lib.compact Lib.compactUpTo
  rw [List.length_map]
  refine Nat.le_trans (List.length_filter_le _ _) ?_
  rw [List.length_range, (sortW_perm M).length_eq]
  exact Nat.le_refl _
theorem bas_len (M : List (List UInt8)) : (bas M).length ≤ M.length := by unfold bas; rw [List.length_map]; exact ordL_len M
theorem ordL_ordL (M : List (List UInt8)) : ordL (ordL M) = ordL M := ordL_congr (fun x => mem_ordL M x)
theorem bas_nil : bas [] = [] := (bas_of [] [] (by simp) (by simp)).symm
theorem bas_one (x : List UInt8) : bas [x] = [bx x] := by
  symm
  exact bas_of _ _ (by simp) (by intro y; simp [ch_bx])
theorem ordL_nodup (M : List (List UInt8)) : (ordL M).Nodup := (ordL_rises M).imp fun {a b} h e => by rw [e, wcmp_self] at h; omega
theorem wless_wcmp (a b : ByteArray) : wless a b = decide (wcmp (ch a) (ch b) < 0) := by
  unfold wless wcmp
  rw [ch_length, ch_length, bytesLess_cmp]
  by_cases h1 : a.size < b.size
  · simp [h1]
  · by_cases h2 : b.size < a.size
    · simp [h1, h2, show ¬ a.size = b.size by omega]
    · simp [h1, show a.size = b.size by omega]
theorem ordered_eq (l : List ByteArray) (h : l.length ≤ 8796093021952) : impl_ordered.f l = some (bas (l.map ch)) := by
  unfold impl_ordered.f
  rw [if_pos h]; rfl

theorem wdPut_l0 (L : List ByteArray) (s : ByteArray) (hL : L.length ≤ 8796093000000) (hr : (L.map ch).Pairwise fun x y => wcmp x y < 0) : ∀ (d i : Nat), i + d = L.length → (∀ j (h : j < L.length), j < i → wcmp (ch L[j]) (ch s) < 0) → ∃ r, Ev (fun k => spec_wdPut.l0 k L s (i : Int)) r ∧ (r.map ch).Pairwise (fun x y => wcmp x y < 0) ∧ ∀ x, x ∈ r.map ch ↔ x ∈ L.map ch ++ [ch s] := by
  have fin : ∀ i, i ≤ L.length → (∀ j (h : j < L.length), j < i → wcmp (ch L[j]) (ch s) < 0) → (∀ j (h : j < L.length), i ≤ j → wcmp (ch s) (ch L[j]) < 0) → ((L.take i ++ [s] ++ L.drop i).map ch).Pairwise (fun x y => wcmp x y < 0) ∧ ∀ x, x ∈ (L.take i ++ [s] ++ L.drop i).map ch ↔ x ∈ L.map ch ++ [ch s] := by
    intro i hi h1 h2
    refine ⟨?_, fun x => ?_⟩
    · rw [List.map_append, List.map_append, List.map_cons, List.map_nil, List.pairwise_append, List.pairwise_append]
      refine ⟨⟨?_, by simp, ?_⟩, ?_, ?_⟩
      · rw [List.map_take]; exact hr.sublist (List.take_sublist _ _)
      · intro a ha b hb
        rw [List.mem_singleton] at hb
        subst hb
        obtain ⟨y, hy, rfl⟩ := List.mem_map.1 ha
        obtain ⟨j, hj, rfl⟩ := List.getElem_of_mem hy
        rw [List.length_take] at hj
        rw [List.getElem_take]
        exact h1 j (by omega) (by omega)
      · rw [List.map_drop]; exact hr.sublist (List.drop_sublist _ _)
      · intro a ha b hb
        obtain ⟨y, hy, rfl⟩ := List.mem_map.1 hb
        obtain ⟨j, hj, rfl⟩ := List.getElem_of_mem hy
        rw [List.length_drop] at hj
        rw [List.getElem_drop]
        have hb' := h2 (i + j) (by omega) (by omega)
        rcases List.mem_append.1 ha with ha | ha
        · obtain ⟨y, hy, rfl⟩ := List.mem_map.1 ha
          obtain ⟨j', hj', rfl⟩ := List.getElem_of_mem hy
          rw [List.length_take] at hj'
          rw [List.getElem_take]
          exact wcmp_trans _ _ _ (h1 j' (by omega) (by omega)) hb'
        · rw [List.mem_singleton] at ha
          subst ha
          exact hb'
    · have := List.take_append_drop i L
      constructor
      · intro hx
        obtain ⟨y, hy, rfl⟩ := List.mem_map.1 hx
        rcases List.mem_append.1 hy with hy | hy
        · rcases List.mem_append.1 hy with hy | hy
          · exact List.mem_append_left _ (List.mem_map.2 ⟨y, List.mem_of_mem_take hy, rfl⟩)
          · rw [List.mem_singleton] at hy; subst hy; exact List.mem_append_right _ (by simp)
        · exact List.mem_append_left _ (List.mem_map.2 ⟨y, List.mem_of_mem_drop hy, rfl⟩)
      · intro hx
        rcases List.mem_append.1 hx with hx | hx
        · obtain ⟨y, hy, rfl⟩ := List.mem_map.1 hx
          refine List.mem_map.2 ⟨y, ?_, rfl⟩
          rw [← this] at hy
          rcases List.mem_append.1 hy with hy | hy
          · exact List.mem_append_left _ (List.mem_append_left _ hy)
          · exact List.mem_append_right _ hy
        · rw [List.mem_singleton] at hx; subst hx
          exact List.mem_map.2 ⟨s, List.mem_append_left _ (List.mem_append_right _ (by simp)), rfl⟩
  intro d
  induction d with
  | zero =>
    intro i hd h1
    obtain ⟨p, q⟩ := fin i (by omega) h1 (fun j hj h => by omega)
    refine ⟨_, Ev.succ ?_, p, q⟩
    simp only [spec_wdPut.l0, Int.toNat_natCast, Option.bind_some]
    exact Ev.neg (by omega) (Ev.pos (by omega) (Ev.pos (by omega) (Ev.pos (by simp; omega) (Ev.pos (by simp; omega) (Ev.pos (by simp; omega) (Ev.pure (by simp)))))))
  | succ d ih =>
    intro i hd h1
    have hi : i < L.length := by omega
    have hw := wless_wcmp L[i] s
    by_cases hl : wcmp (ch L[i]) (ch s) < 0
    · obtain ⟨r, r1, r2, r3⟩ := ih (i + 1) (by omega) (fun j hj h => by
        by_cases e : j = i
        · subst e; exact hl
        · exact h1 j hj (by omega))
      refine ⟨r, Ev.succ ?_, r2, r3⟩
      simp only [spec_wdPut.l0, rdOf_nat L i hi, w1 (show 0 ≤ (i : Int) by omega) (show (i : Int) < 9223372036854775807 by omega)]
      exact Ev.pos (by omega) (Ev.pos (by omega) (Ev.known (fun _ => wdLess_eq _ _) (Ev.pos (by rw [hw]; simpa using hl) r1)))
    · by_cases he : ch L[i] = ch s
      · refine ⟨L, Ev.succ ?_, hr, fun x => ?_⟩
        · simp only [spec_wdPut.l0, rdOf_nat L i hi, toList_ch]
          exact Ev.pos (by omega) (Ev.pos (by omega) (Ev.known (fun _ => wdLess_eq _ _) (Ev.neg (by rw [hw]; simpa using hl) (Ev.pos he (Ev.now _)))))
        · rw [List.mem_append, List.mem_singleton]
          constructor
          · exact Or.inl
          · rintro (h | rfl)
            · exact h
            · exact List.mem_map.2 ⟨L[i], List.getElem_mem hi, he⟩
      · have hgt : wcmp (ch s) (ch L[i]) < 0 := by
          have := wcmp_anti (ch L[i]) (ch s)
          have h0 : wcmp (ch L[i]) (ch s) ≠ 0 := fun h => he (wcmp_zero _ _ h)
          omega
        obtain ⟨p, q⟩ := fin i (by omega) h1 (fun j hj h => by
          by_cases e : j = i
          · subst e; exact hgt
          · have := List.pairwise_iff_getElem.1 hr i j (by simpa using hi) (by simpa using hj) (by omega)
            rw [List.getElem_map, List.getElem_map] at this
            exact wcmp_trans _ _ _ hgt this)
        refine ⟨_, Ev.succ ?_, p, q⟩
        simp only [spec_wdPut.l0, rdOf_nat L i hi, toList_ch, Int.toNat_natCast, Option.bind_some]
        exact Ev.pos (by omega) (Ev.pos (by omega) (Ev.known (fun _ => wdLess_eq _ _) (Ev.neg (by rw [hw]; simpa using hl) (Ev.neg he (Ev.pos (by omega) (Ev.pos (by simp; omega) (Ev.pos (by simp; omega) (Ev.pos (by simp; omega) (Ev.pure (by simp))))))))))
theorem wdPut_ev (M : List (List UInt8)) (s : ByteArray) (hM : M.length ≤ 8796093000000) : Ev (fun k => spec_wdPut.f k (bas M) s) (bas (M ++ [ch s])) := by
  have hl := bas_len M
  obtain ⟨r, r1, r2, r3⟩ := wdPut_l0 (bas M) s (by omega) (by rw [ch_bas]; exact ordL_rises M) (bas M).length 0 (by omega) (fun j _ h => by omega)
  rw [← bas_of r (M ++ [ch s]) r2 (fun x => by rw [r3, ch_bas, List.mem_append, List.mem_append, mem_ordL])]
  exact r1

theorem wdHas_l0 (l : List ByteArray) (s : ByteArray) (hl : l.length ≤ 1048576) : ∀ (d i : Nat), i + d = l.length → Ev (fun k => spec_wdHas.l0 k s l (l.length : Int) (i : Int)) (((l.drop i).map ch).contains (ch s))
  | 0, i, hd => by
    refine Ev.succ ?_
    simp only [spec_wdHas.l0]
    exact Ev.neg (by omega) (Ev.pure (by rw [List.drop_of_length_le (by omega)]; rfl))
  | d + 1, i, hd => by
    have h1 : i < l.length := by omega
    have ih := wdHas_l0 l s hl d (i + 1) (by omega)
    rw [List.drop_eq_getElem_cons h1, List.map_cons, List.contains_cons]
    refine Ev.succ ?_
    simp only [spec_wdHas.l0, rdOf_nat l i h1, toList_ch, w1 (show 0 ≤ (i : Int) by omega) (show (i : Int) < 9223372036854775807 by omega)]
    refine Ev.pos (by omega) (Ev.pos (by omega) (Ev.pos (by omega) (Ev.cases (fun h => ?_) (fun h => ?_))))
    · rw [h]; simp only [BEq.rfl, Bool.true_or]; exact Ev.now _
    · rw [show (ch s == ch l[i]) = false by rw [beq_eq_false_iff_ne]; exact h, Bool.false_or]; exact ih
theorem wdHas_ev (l : List ByteArray) (s : ByteArray) (hl : l.length ≤ 1048576) : Ev (fun k => spec_wdHas.f k l s) ((l.map ch).contains (ch s)) := by
  have := wdHas_l0 l s hl l.length 0 (by omega)
  simpa [spec_wdHas.f] using this

/-- all turns of a text -/
def trn (x : List UInt8) : List (List UInt8) := (List.range x.length).map fun i => x.drop i ++ x.take i
/-- the first ones of them -/
def trnTo (x : List UInt8) (n : Nat) : List (List UInt8) := (List.range n).map fun i => x.drop i ++ x.take i
theorem trnTo_len (x : List UInt8) (n : Nat) : (trnTo x n).length = n := by simp [trnTo]
theorem trnTo_succ (x : List UInt8) (n : Nat) : trnTo x (n + 1) = trnTo x n ++ [x.drop n ++ x.take n] := by simp [trnTo, List.range_succ]
theorem turn_text (s : ByteArray) (i : Nat) : s.extract i s.size ++ s.extract 0 i = bx ((ch s).drop i ++ (ch s).take i) := by
  apply ch_inj'
  rw [ch_bx]
  have h : ∀ a b : ByteArray, ch (a ++ b) = ch a ++ ch b := fun a b => by simp [ch, ByteArray.data_append]
  rw [h, ch_drop, ch_extract]; simp
theorem impl_turnsOf_ev (s : ByteArray) (hs : s.size ≤ 1000) : Ev (fun k => impl_turnsOf.f k s) (bas (trn (ch s))) := by
  unfold impl_turnsOf.f
  have hcs := ch_length s
  have start : ([] : List ByteArray) = (trnTo (ch s) 0).map bx := by simp [trnTo]
  rw [start]
  refine Ev.loop (fun i k => impl_turnsOf.l0 k s ((trnTo (ch s) i).map bx) (s.size : Int) (i : Int)) s.size _ (fun i hi hnext => ?_) ?_
  · rw [trnTo_succ, List.map_append, List.map_cons, List.map_nil, ← turn_text] at hnext
    refine Ev.succ ?_
    simp only [impl_turnsOf.l0, Int.toNat_natCast, w1 (show 0 ≤ (i : Int) by omega) (show (i : Int) < 9223372036854775807 by omega)]
    exact Ev.pos (by omega) (Ev.pos (by omega) (Ev.pos (by omega) (Ev.pos (by simp; omega) (Ev.pos (by simp [trnTo_len]; omega) hnext))))
  · refine Ev.succ ?_
    simp only [impl_turnsOf.l0]
    refine Ev.neg (by omega) (Ev.known (fun _ => ordered_eq _ (by simp [trnTo_len]; omega)) (Ev.pure ?_))
    rw [map_ch_bx]
    unfold trn trnTo
    rw [hcs]

theorem spec_bsTurns_ev (s : ByteArray) (hs : s.size ≤ 1000) : Ev (fun k => spec_bsTurns.f k s) (bas (trn (ch s))) := by
  unfold spec_bsTurns.f
  have hcs := ch_length s
  have start : ([] : List ByteArray) = bas (trnTo (ch s) 0) := by simp [trnTo, bas_nil]
  rw [start]
  refine Ev.pos (by omega) ?_
  refine Ev.loop (fun i k => spec_bsTurns.l0 k s (bas (trnTo (ch s) i)) (i : Int)) s.size _ (fun i hi hnext => ?_) ?_
  · have hput := wdPut_ev (trnTo (ch s) i) (s.extract i s.size ++ s.extract 0 i) (by rw [trnTo_len]; omega)
    rw [turn_text, ch_bx, ← trnTo_succ] at hput
    refine Ev.succ ?_
    simp only [spec_bsTurns.l0, Int.toNat_natCast, w1 (show 0 ≤ (i : Int) by omega) (show (i : Int) < 9223372036854775807 by omega)]
    refine Ev.pos (by omega) (Ev.pos (by omega) (Ev.pos (by simp; omega) ?_))
    rw [turn_text]
    exact Ev.bind hput hnext
  · refine Ev.succ ?_
    simp only [spec_bsTurns.l0]
    refine Ev.neg (by omega) (Ev.pure ?_)
    unfold trn trnTo
    rw [hcs]
/-- a word that is not empty -/
def full (s : ByteArray) : Bool := (decide (s.size ≤ 60) && s.data.toList.all isLetter) && (s.toList != ([] : List UInt8))
theorem bsAsked_ev (s : ByteArray) : Ev (fun k => spec_bsAsked.f k s) (full s) := by
  have g1 := wdGood_ev s
  unfold spec_bsAsked.f full
  cases hg : (decide (s.size ≤ 60) && s.data.toList.all isLetter) with
  | false => rw [hg] at g1; exact Ev.bind g1 (Ev.neg (by simp) (Ev.pure (by simp)))
  | true => rw [hg] at g1; exact Ev.bind g1 (Ev.pos rfl (Ev.pure (by simp)))
theorem isFull_eq (s : ByteArray) : impl_isFull.f s = some (full s) := by
  unfold impl_isFull.f impl_isWord.f full
  cases (decide (s.size ≤ 60) && s.data.toList.all isLetter) <;> simp
theorem full_size (s : ByteArray) (h : full s = true) : s.size ≤ 60 := by
  unfold full at h
  simp only [Bool.and_eq_true, decide_eq_true_eq] at h
  exact h.1.1

theorem index_l0 (l : List ByteArray) (s : ByteArray) (hl : l.length ≤ 1048576) : ∀ (d i : Nat), i + d = l.length → ∃ r : Int, Ev (fun k => slices_Index_string_string.l0 k l s (l.length : Int) (i : Int)) r ∧ decide (r ≥ 0) = ((l.drop i).map ch).contains (ch s)
  | 0, i, hd => by
    refine ⟨-1, Ev.succ ?_, by rw [List.drop_of_length_le (by omega)]; rfl⟩
    simp only [slices_Index_string_string.l0]
    exact Ev.neg (by omega) (Ev.now _)
  | d + 1, i, hd => by
    have h1 : i < l.length := by omega
    obtain ⟨r, ih, e⟩ := index_l0 l s hl d (i + 1) (by omega)
    rw [List.drop_eq_getElem_cons h1, List.map_cons, List.contains_cons]
    by_cases h : ch s = ch l[i]
    · refine ⟨(i : Int), Ev.succ ?_, by rw [h]; simp⟩
      simp only [slices_Index_string_string.l0, rdOf_nat l i h1, toList_ch]
      exact Ev.pos (by omega) (Ev.pos (by omega) (Ev.pos (by omega) (Ev.pos h (Ev.now _))))
    · refine ⟨r, Ev.succ ?_, by rw [e, show (ch s == ch l[i]) = false by rw [beq_eq_false_iff_ne]; exact h, Bool.false_or]⟩
      simp only [slices_Index_string_string.l0, rdOf_nat l i h1, toList_ch, w1 (show 0 ≤ (i : Int) by omega) (show (i : Int) < 9223372036854775807 by omega)]
      exact Ev.pos (by omega) (Ev.pos (by omega) (Ev.pos (by omega) (Ev.neg h ih)))
theorem contains_ev (l : List ByteArray) (s : ByteArray) (hl : l.length ≤ 1048576) : Ev (fun k => slices_Contains_string_string.f k l s) ((l.map ch).contains (ch s)) := by
  obtain ⟨r, h, e⟩ := index_l0 l s hl l.length 0 (by omega)
  rw [List.drop_zero] at e
  rw [← e]
  unfold slices_Contains_string_string.f
  exact Ev.bind h (Ev.now _)
theorem areTurns_same (s t : ByteArray) : ∃ r, Ev (fun k => spec_AreTurns.f k s t) r ∧ Ev (fun k => impl_AreTurns.f k s t) r := by
  have g1 := bsAsked_ev s
  have g2 := isFull_eq s
  have f1 := bsAsked_ev t
  have f2 := isFull_eq t
  have ns : Ev (fun k => spec_AreTurns.j0 k s t true) (false, false) := Ev.succ (by simp only [spec_AreTurns.j0]; exact Ev.pos (by simp) (Ev.now _))
  have ni : Ev (fun k => impl_AreTurns.j0 k s t true) (false, false) := Ev.succ (by simp only [impl_AreTurns.j0]; exact Ev.pos (by simp) (Ev.now _))
  unfold spec_AreTurns.f impl_AreTurns.f
  cases hf : full s with
  | false => rw [hf] at g1 g2; exact ⟨(false, false), Ev.bind g1 (Ev.neg (by simp) ns), Ev.known (fun _ => g2) (Ev.neg (by simp) ni)⟩
  | true =>
    have h60 := full_size s hf
    rw [hf] at g1 g2
    cases ht : full t with
    | false => rw [ht] at f1 f2; exact ⟨(false, false), Ev.bind g1 (Ev.pos rfl (Ev.bind f1 ns)), Ev.known (fun _ => g2) (Ev.pos rfl (Ev.known (fun _ => f2) ni))⟩
    | true =>
      rw [ht] at f1 f2
      have h1 := bas_len (trn (ch s))
      have h2 : (trn (ch s)).length = s.size := by rw [← ch_length s]; simp [trn]
      have hh := wdHas_ev (bas (trn (ch s))) t (by omega)
      have hc := contains_ev (bas (trn (ch s))) t (by omega)
      refine ⟨(((bas (trn (ch s))).map ch).contains (ch t), true), Ev.bind g1 (Ev.pos rfl (Ev.bind f1 (Ev.succ ?_))), Ev.known (fun _ => g2) (Ev.pos rfl (Ev.known (fun _ => f2) (Ev.succ ?_)))⟩
      · simp only [spec_AreTurns.j0]
        exact Ev.neg (by simp) (Ev.bind (spec_bsTurns_ev s (by omega)) (Ev.bind hh (Ev.now _)))
      · simp only [impl_AreTurns.j0]
        exact Ev.neg (by simp) (Ev.bind (impl_turnsOf_ev s (by omega)) (Ev.bind hc (Ev.now _)))
theorem FnExactAreTurns : laws_FnExactAreTurns.Pure := by
  intro s t hs ht
  refine Ev.rounds ?_
  unfold laws_FnExactAreTurns.f
  obtain ⟨r, h1, h2⟩ := areTurns_same s t
  exact Ev.cases (fun _ => Ev.now _) (fun _ => Ev.cases (fun _ => Ev.now _) (fun _ => Ev.bind h1 (Ev.bind h2 (Ev.neg (by simp) (Ev.neg (by simp) (Ev.now _))))))
end Go.Proofs.YtdhdboeflncmiaaDoor.Pure
