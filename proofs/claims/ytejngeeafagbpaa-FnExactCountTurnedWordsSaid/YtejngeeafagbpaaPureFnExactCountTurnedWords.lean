/- CountTurnedWords of the program and of the reference answer alike for all arguments: no condition. -/
import Derived.Test.YtejngeeafagbpaaXFnExactCountTurnedWordsx2
namespace Go.Proofs.Ytejngeeafagbpaa.Pure
set_option linter.unusedSimpArgs false
set_option linter.unusedVariables false
open Go.RowKit Go.Proofs.Ytejngeeafagbpaa.Hand Go.Proofs.Ytejngeeafagbpaa.XFnExactCountTurnedWords Go.Proofs.YtejngeeafagbpaaW.PrintWords Go.Proofs.YtejngeeafagbpaaW.PrintLast Go.Proofs.YtejngeeafagbpaaW.PrintMore

theorem w1 {i : Int} (h0 : 0 ≤ i) (h : i < 9223372036854775807) : wrap64 (i + 1) = i + 1 := by unfold wrap64; omega
theorem w64 {i : Int} (h0 : -9223372036854775808 ≤ i) (h : i < 9223372036854775808) : wrap64 i = i := by unfold wrap64; omega
theorem rd_nat (l : List Int) (i : Nat) (h : i < l.length) : rd l (i : Int) = l[i] := by
  unfold rd; simp [List.getD_eq_getElem?_getD, h]
theorem Ev.pos {α : Type} {c : Prop} [Decidable c] {g g' : Nat → Option α} {r : α} (h : c) (k : Ev g r) : Ev (fun n => if c then g n else g' n) r :=
  Ev.congr (fun n => if_pos h) k
theorem Ev.neg {α : Type} {c : Prop} [Decidable c] {g g' : Nat → Option α} {r : α} (h : ¬ c) (k : Ev g' r) : Ev (fun n => if c then g n else g' n) r :=
  Ev.congr (fun n => if_neg h) k
theorem Ev.cases {α : Type} {c : Prop} [Decidable c] {g g' : Nat → Option α} {r : α} (h : c → Ev g r) (k : ¬ c → Ev g' r) : Ev (fun n => if c then g n else g' n) r := by
  by_cases e : c
  · exact Ev.pos e (h e)
  · exact Ev.neg e (k e)
/-- a call whose answer is known at every number of rounds -/
theorem Ev.known {α β : Type} {g : Nat → Option α} {f : Nat → α → Option β} {a : α} {r : β} (h : ∀ n, g n = some a) (k : Ev (fun n => f n a) r) : Ev (fun n => (g n).bind (f n)) r :=
  Ev.bind ⟨0, fun n _ => h n⟩ k
/-- one bind of two, joined with what follows -/
theorem Ev.pure {α : Type} {r q : α} (h : r = q) : Ev (fun _ => some r) q := h ▸ Ev.now r
theorem Ev.succ {α : Type} {g : Nat → Option α} {r : α} (h : Ev (fun k => g (k + 1)) r) : Ev g r := Ev.step (f := fun k => g (k + 1)) (fun _ => rfl) h

theorem rdOf_nat (l : List ByteArray) (i : Nat) (h : i < l.length) : rdOf ByteArray.empty l (i : Int) = l[i] := by
  unfold rdOf; simp [List.getD_eq_getElem?_getD, h]

theorem spec_in (a b c : Int) : spec_l1In.f a b c = some (decide (b ≤ a ∧ a ≤ c)) := by
  unfold spec_l1In.f
  by_cases h : a ≥ b
  · rw [if_pos h]; simp [h]
  · rw [if_neg h]; simp; omega

theorem impl_in_eq (a b c : Int) : impl_in.f a b c = some (decide (b ≤ a ∧ a ≤ c)) := by
  unfold impl_in.f
  by_cases h : b ≤ a
  · rw [if_pos h]; simp [h]
  · rw [if_neg h]; simp [h]

theorem bytesLess_cmp : ∀ (x y : List UInt8), Op.bytesLess x y = decide (Lib.compareBytes x y < 0)
  | [], [] => by simp [Op.bytesLess, Lib.compareBytes]
  | _ :: _, [] => by simp [Op.bytesLess, Lib.compareBytes]
  | [], _ :: _ => by simp [Op.bytesLess, Lib.compareBytes]
  | a :: x, b :: y => by
    rw [Op.bytesLess, bytesLess_cmp x y, Lib.compareBytes]
    by_cases h1 : a < b
    · simp [h1]
    · by_cases h2 : b < a
      · have : (a == b) = false := by
          rw [beq_eq_false_iff_ne]; rintro rfl; exact h1 h2
        simp [h1, h2, this]
      · have : a = b := by
          have h1' : ¬ a.toNat < b.toNat := h1
          have h2' : ¬ b.toNat < a.toNat := h2
          exact UInt8.toNat_inj.1 (by omega)
        subst this; simp [h1]
theorem bytesLess_irrefl : ∀ (x : List UInt8), Op.bytesLess x x = false
  | [] => rfl
  | a :: x => by rw [Op.bytesLess, bytesLess_irrefl x]; simp
theorem bytesLess_trans : ∀ (x y z : List UInt8), Op.bytesLess x y = true → Op.bytesLess y z = true → Op.bytesLess x z = true
  | _, [], _ => by simp [Op.bytesLess]
  | _, _ :: _, [] => by simp [Op.bytesLess]
  | [], _ :: _, _ :: _ => by simp [Op.bytesLess]
  | a :: x, b :: y, c :: z => by
    have ih := bytesLess_trans x y z
    simp only [Op.bytesLess, Bool.or_eq_true, decide_eq_true_eq, Bool.and_eq_true, beq_iff_eq]
    intro h1 h2
    rcases h1 with h1 | ⟨rfl, h1⟩
    · rcases h2 with h2 | ⟨rfl, h2⟩
      · exact Or.inl (UInt8.lt_trans h1 h2)
      · exact Or.inl h1
    · rcases h2 with h2 | ⟨rfl, h2⟩
      · exact Or.inl h2
      · exact Or.inr ⟨rfl, ih h1 h2⟩
/-- the order of words: by length, then by letters -/
def wless (a b : ByteArray) : Bool := decide (a.size < b.size) || (decide (a.size = b.size) && Op.bytesLess a.data.toList b.data.toList)
theorem wless_irrefl (a : ByteArray) : wless a a = false := by unfold wless; rw [bytesLess_irrefl]; simp
theorem wless_trans (a b c : ByteArray) (h1 : wless a b = true) (h2 : wless b c = true) : wless a c = true := by
  unfold wless at *
  simp only [Bool.or_eq_true, decide_eq_true_eq, Bool.and_eq_true] at *
  rcases h1 with h1 | ⟨h1, g1⟩ <;> rcases h2 with h2 | ⟨h2, g2⟩
  · left; omega
  · left; omega
  · left; omega
  · exact Or.inr ⟨by omega, bytesLess_trans _ _ _ g1 g2⟩

/-- a text's letters -/
abbrev ch (s : ByteArray) : List UInt8 := s.data.toList
theorem ch_length (s : ByteArray) : (ch s).length = s.size := Array.length_toList
theorem ch_extract (s : ByteArray) (a b : Nat) : ch (s.extract a b) = ((ch s).drop a).take (b - a) := by
  simp [ch, ByteArray.data_extract, Array.toList_extract, List.extract_eq_take_drop]
theorem ch_drop (s : ByteArray) (a : Nat) : ch (s.extract a s.size) = (ch s).drop a := by
  rw [ch_extract, List.take_of_length_le]; simp only [List.length_drop, ch_length]; omega
theorem begins_test (a w : ByteArray) (h : w.size ≤ a.size) : ((a.extract 0 w.size).toList == w.toList) = (ch w).isPrefixOf (ch a) := by
  rw [ByteArray.toList_eq, ByteArray.toList_eq]
  change (ch (a.extract 0 w.size) == ch w) = _
  rw [ch_extract, List.drop_zero, Nat.sub_zero, ← ch_length w, Bool.eq_iff_iff, beq_iff_eq, List.isPrefixOf_iff_prefix, List.prefix_iff_eq_take]
  exact eq_comm
theorem prefix_long (a w : ByteArray) (h : ¬ w.size ≤ a.size) : (ch w).isPrefixOf (ch a) = false := by
  rw [Bool.eq_false_iff]
  intro hp
  have := (List.isPrefixOf_iff_prefix.1 hp).length_le
  rw [ch_length, ch_length] at this
  exact h this
theorem toList_ch (s : ByteArray) : s.toList = ch s := ByteArray.toList_eq s
theorem chNe (l : List ByteArray) (hne : ∀ w ∈ l, 1 ≤ w.size) : ∀ t ∈ l.map ch, t ≠ [] := fun t ht => by
  obtain ⟨w, hw, rfl⟩ := List.mem_map.1 ht
  intro e; have := hne w hw; have := ch_length w; rw [e] at this; simp at this; omega

/-- a loop from the first place to the last one, with what is so at each place -/
theorem Ev.loop {R : Type} (g : Nat → Nat → Option R) (n : Nat) (r : R) (hstep : ∀ i, i < n → Ev (g (i + 1)) r → Ev (g i) r) (hend : Ev (g n) r) : Ev (g 0) r := by
  have h : ∀ d i, i + d = n → Ev (g i) r := by
    intro d
    induction d with
    | zero => intro i hi; rw [show i = n by omega]; exact hend
    | succ d ih => intro i hi; exact hstep i (by omega) (ih (i + 1) (by omega))
  exact h n 0 (by omega)

/-- a text out of its letters -/
def bx (x : List UInt8) : ByteArray := ⟨x.toArray⟩
theorem ch_bx (x : List UInt8) : ch (bx x) = x := by simp [ch, bx]
theorem bx_ch (s : ByteArray) : bx (ch s) = s := by simp [ch, bx]
theorem ch_inj' {a b : ByteArray} (h : ch a = ch b) : a = b := ByteArray.ext (Array.toList_inj.1 h)
theorem map_ch_bx (l : List (List UInt8)) : (l.map bx).map ch = l := by simp [Function.comp_def, ch_bx]
theorem map_bx_ch (l : List ByteArray) : (l.map ch).map bx = l := by simp [Function.comp_def, bx_ch]
theorem bx_size (x : List UInt8) : (bx x).size = x.length := by rw [← ch_length, ch_bx]
/-- words in order, each once, as texts -/
def bas (M : List (List UInt8)) : List ByteArray := (ordL M).map bx
theorem ordL_congr {M N : List (List UInt8)} (h : ∀ x, x ∈ M ↔ x ∈ N) : ordL M = ordL N := rises_unique _ _ (ordL_rises M) (ordL_rises N) (fun x => by rw [mem_ordL, mem_ordL]; exact h x)
theorem bas_congr {M N : List (List UInt8)} (h : ∀ x, x ∈ M ↔ x ∈ N) : bas M = bas N := by unfold bas; rw [ordL_congr h]
theorem ch_bas (M : List (List UInt8)) : (bas M).map ch = ordL M := map_ch_bx _
theorem bas_of (r : List ByteArray) (M : List (List UInt8)) (hr : (r.map ch).Pairwise fun x y => wcmp x y < 0) (hm : ∀ x, x ∈ r.map ch ↔ x ∈ M) : r = bas M := by
  unfold bas
  rw [← rises_unique (r.map ch) (ordL M) hr (ordL_rises M) (fun x => by rw [hm, mem_ordL]), map_bx_ch]
theorem ordL_len (M : List (List UInt8)) : (ordL M).length ≤ M.length := by
  unfold ordL Lib.compact Lib.compactUpTo
  rw [List.length_map]
  refine Nat.le_trans (List.length_filter_le _ _) ?_
  rw [List.length_range, (sortW_perm M).length_eq]
  exact Nat.le_refl _
theorem bas_len (M : List (List UInt8)) : (bas M).length ≤ M.length := by unfold bas; rw [List.length_map]; exact ordL_len M
theorem ordL_ordL (M : List (List UInt8)) : ordL (ordL M) = ordL M := ordL_congr (fun x => mem_ordL M x)
theorem bas_nil : bas [] = [] := (bas_of [] [] (by simp) (by simp)).symm
theorem bas_one (x : List UInt8) : bas [x] = [bx x] := by
  symm
  exact bas_of _ _ (by simp) (by intro y; simp [ch_bx])
theorem ordL_nodup (M : List (List UInt8)) : (ordL M).Nodup := (ordL_rises M).imp fun {a b} h e => by rw [e, wcmp_self] at h; omega
theorem wless_wcmp (a b : ByteArray) : wless a b = decide (wcmp (ch a) (ch b) < 0) := by
  unfold wless wcmp
  rw [ch_length, ch_length, bytesLess_cmp]
  by_cases h1 : a.size < b.size
  · simp [h1]
  · by_cases h2 : b.size < a.size
    · simp [h1, h2, show ¬ a.size = b.size by omega]
    · simp [h1, show a.size = b.size by omega]
theorem ordered_eq (l : List ByteArray) (h : l.length ≤ 8796093021952) : impl_ordered.f l = some (bas (l.map ch)) := by
  unfold impl_ordered.f
  rw [if_pos h]; rfl

theorem flatMapLen {α β : Type} (f : α → List β) (c : Nat) : ∀ l : List α, (∀ x ∈ l, (f x).length ≤ c) → (l.flatMap f).length ≤ l.length * c
  | [], _ => by simp
  | x :: l, h => by
    have h1 := h x (by simp)
    have h2 := flatMapLen f c l (fun y hy => h y (by simp [hy]))
    rw [List.flatMap_cons, List.length_append, List.length_cons, Nat.succ_mul]
    omega

theorem krPower_l0 (b m : Nat) (hb : 1 ≤ b) (hp : b ^ m < 4611686018427387904) (hm : m ≤ 1048576) : ∀ (d i : Nat), i + d = m → Ev (fun k => spec_krPower.l0 k (b : Int) (d : Int) ((b ^ i : Nat) : Int)) ((b ^ m : Nat) : Int)
  | 0, i, hd => by
    refine Ev.succ ?_
    simp only [spec_krPower.l0]
    exact Ev.neg (by omega) (Ev.pure (by rw [show i = m by omega]))
  | d + 1, i, hd => by
    have ih := krPower_l0 b m hb hp hm d (i + 1) (by omega)
    have h1 : b ^ (i + 1) ≤ b ^ m := Nat.pow_le_pow_right hb (by omega)
    have e : Aside0 (wrap64 (((b ^ i : Nat) : Int) * (b : Int)) = ((b ^ (i + 1) : Nat) : Int)) := ⟨by
      rw [← Int.natCast_mul, show b ^ i * b = b ^ (i + 1) from rfl]; exact w64 (by omega) (by omega)⟩
    have e2 : Aside0 (wrap64 (((d + 1 : Nat) : Int) - 1) = (d : Int)) := ⟨by rw [w64 (by omega) (by omega)]; omega⟩
    refine Ev.succ ?_
    simp only [spec_krPower.l0, e.out, e2.out]
    exact Ev.pos (by omega) ih
theorem krPower_ev (b m : Nat) (hb : 1 ≤ b) (hp : b ^ m < 4611686018427387904) (hm : m ≤ 1048576) : Ev (fun k => spec_krPower.f k (b : Int) (m : Int)) ((b ^ m : Nat) : Int) := by
  have h := krPower_l0 b m hb hp hm m 0 (by omega)
  simpa [spec_krPower.f] using h

/-- the letters of a number with base m, l of them, the last one the least -/
def digs (m : Nat) : Nat → Nat → List UInt8
  | 0, _ => []
  | l + 1, n => digs m l (n / m) ++ [UInt8.ofNat (97 + n % m)]
theorem digs_length (m : Nat) : ∀ l n, (digs m l n).length = l
  | 0, _ => rfl
  | l + 1, n => by rw [digs, List.length_append, digs_length m l]; rfl
theorem ba_append (a b : Array UInt8) : (⟨a⟩ : ByteArray) ++ (⟨b⟩ : ByteArray) = ⟨a ++ b⟩ := by
  apply ByteArray.ext
  rw [ByteArray.data_append]
theorem letter_cut (r : Nat) (h : r < 3) : (⟨#[97, 98, 99]⟩ : ByteArray).extract r (r + 1) = ⟨#[UInt8.ofNat (97 + r)]⟩ := by
  match r, h with
  | 0, _ => decide
  | 1, _ => decide
  | 2, _ => decide

theorem krText_l0 (m : Nat) (hm : 2 ≤ m) (hm3 : m ≤ 3) (l : Nat) (hl : l ≤ 60) : ∀ (d i n : Nat) (acc : List UInt8), i + d = l → acc.length = i → n < 4611686018427387904 → Ev (fun k => spec_krText.l0 k (n : Int) (l : Int) (m : Int) (⟨acc.toArray⟩ : ByteArray) (i : Int)) ((⟨(digs m d n ++ acc).toArray⟩ : ByteArray))
  | 0, i, n, acc, hd, ha, hn => by
    refine Ev.succ ?_
    simp only [spec_krText.l0]
    exact Ev.neg (by omega) (Ev.pure (by simp [digs]))
  | d + 1, i, n, acc, hd, ha, hn => by
    have h2 : n / m ≤ n := Nat.div_le_self _ _
    have hr : n % m < m := Nat.mod_lt _ (by omega)
    have ih := krText_l0 m hm hm3 l hl d (i + 1) (n / m) (UInt8.ofNat (97 + n % m) :: acc) (by omega) (by simp; omega) (by omega)
    have e1 : Int.tmod (n : Int) (m : Int) = ((n % m : Nat) : Int) := (Int.ofNat_tmod n m).symm
    have e2 : Aside0 (wrap64 (Int.tdiv (n : Int) (m : Int)) = ((n / m : Nat) : Int)) := ⟨by
      rw [← Int.ofNat_tdiv]; generalize n / m = q at h2 ⊢; exact w64 (by omega) (by omega)⟩
    have e3 : Aside0 (wrap64 (((n % m : Nat) : Int) + 1) = ((n % m + 1 : Nat) : Int)) := ⟨by rw [w64 (by omega) (by omega)]; omega⟩
    have e4 : (⟨#[97, 98, 99]⟩ : ByteArray).extract (n % m) (n % m + 1) = ⟨#[UInt8.ofNat (97 + n % m)]⟩ := letter_cut _ (by omega)
    have e5 : (⟨#[UInt8.ofNat (97 + n % m)]⟩ : ByteArray) ++ (⟨acc.toArray⟩ : ByteArray) = ⟨(UInt8.ofNat (97 + n % m) :: acc).toArray⟩ := by rw [ba_append]; simp
    refine Ev.succ ?_
    simp only [spec_krText.l0, e1, e2.out, e3.out, Int.toNat_natCast, e4, e5, w1 (show 0 ≤ (i : Int) by omega) (show (i : Int) < 9223372036854775807 by omega)]
    refine Ev.pos (by omega) (Ev.neg (by omega) (Ev.pos (by omega) (Ev.pos (by omega) (Ev.pos (by omega) (Ev.pos ?_ ?_)))))
    · simp [ByteArray.size]; omega
    · rw [digs, List.append_assoc]; exact ih
theorem krText_ev (n l m : Nat) (hm : 2 ≤ m) (hm3 : m ≤ 3) (hl : l ≤ 60) (hn : n < 4611686018427387904) : Ev (fun k => spec_krText.f k (n : Int) (l : Int) (m : Int)) (⟨(digs m l n).toArray⟩ : ByteArray) := by
  have h := krText_l0 m hm hm3 l hl l 0 n [] (by omega) rfl hn
  simpa [spec_krText.f] using h

/-- all words of so many letters, in order -/
def alw (m n : Nat) : List (List UInt8) := (List.range (m ^ n)).map (digs m n)
theorem range_mul (m : Nat) (hm : 0 < m) {α : Type} (f : Nat → α) : ∀ q : Nat, (List.range (q * m)).map f = (List.range q).flatMap fun a => (List.range m).map fun b => f (a * m + b)
  | 0 => by simp
  | q + 1 => by
    rw [Nat.succ_mul, List.range_add, List.map_append, range_mul m hm f q, List.range_succ, List.flatMap_append]
    simp [Function.comp_def]
theorem alw_succ (m n : Nat) (hm : 0 < m) : alw m (n + 1) = (alw m n).flatMap fun s => (List.range m).map fun b => s ++ [UInt8.ofNat (97 + b)] := by
  unfold alw
  rw [Nat.pow_succ, range_mul m hm, List.flatMap_map]
  simp only [List.flatMap]
  refine congrArg List.flatten (List.map_congr_left fun a _ => ?_)
  refine List.map_congr_left fun b hb => ?_
  have hb' := List.mem_range.1 hb
  rw [digs, Nat.mul_comm a m, Nat.mul_add_div hm, Nat.div_eq_of_lt hb', Nat.add_zero, Nat.mul_add_mod, Nat.mod_eq_of_lt hb']
theorem alw_len (m n : Nat) : (alw m n).length = m ^ n := by simp [alw]
theorem allWords_ev (m n : Nat) (hm : 2 ≤ m) (hm3 : m ≤ 3) (hn : n ≤ 12) : Ev (fun k => impl_allWords.f k (n : Int) (m : Int)) ((alw m n).map bx) := by
  have hpow : ∀ i, i ≤ n → m ^ i ≤ 531441 := fun i hi => Nat.le_trans (Nat.pow_le_pow_left hm3 i) (Nat.le_trans (Nat.pow_le_pow_right (by omega) (show i ≤ 12 by omega)) (by decide))
  unfold impl_allWords.f
  have start : ([(⟨#[]⟩ : ByteArray)] : List ByteArray) = (alw m 0).map bx := by simp [alw, digs, bx]
  rw [start]
  refine Ev.loop (fun i k => impl_allWords.l0 k (m : Int) ((alw m i).map bx) (n : Int) (i : Int)) n _ (fun i hi hnext => ?_) ?_
  · have hp1 := hpow (i + 1) (by omega)
    have hal := alw_len m i
    have hp0 := hpow i (by omega)
    rw [alw_succ m i (by omega)] at hnext
    refine Ev.succ ?_
    simp only [impl_allWords.l0]
    refine Ev.pos (by omega) ?_
    obtain ⟨L, hL⟩ : ∃ L, L = alw m i := ⟨_, rfl⟩
    rw [← hL] at hnext hal ⊢
    have s0 : ([] : List ByteArray) = ((L.take 0).flatMap fun s => (List.range m).map fun b => s ++ [UInt8.ofNat (97 + b)]).map bx := by simp
    rw [s0]
    refine Ev.loop (fun j k => impl_allWords.l1 k (m : Int) (((L.take j).flatMap fun s => (List.range m).map fun b => s ++ [UInt8.ofNat (97 + b)]).map bx) (n : Int) (i : Int) (L.map bx) ((L.map bx).length : Int) (j : Int)) L.length _ (fun j hj hnext => ?_) ?_
    · have hjb : j < (L.map bx).length := by simpa using hj
      rw [List.take_succ_eq_append_getElem hj, List.flatMap_append, List.flatMap_cons, List.flatMap_nil, List.append_nil] at hnext
      have hN : ((L.take j).flatMap fun s => (List.range m).map fun b => s ++ [UInt8.ofNat (97 + b)]).length ≤ 1594323 := by
        have h1 := flatMapLen (fun s : List UInt8 => (List.range m).map fun b => s ++ [UInt8.ofNat (97 + b)]) 3 (L.take j) (fun s _ => by simpa using hm3)
        have h2 : (L.take j).length ≤ L.length := List.length_take_le' _ _
        omega
      obtain ⟨N, hNN⟩ : ∃ N, N = (L.take j).flatMap fun s => (List.range m).map fun b => s ++ [UInt8.ofNat (97 + b)] := ⟨_, rfl⟩
      rw [← hNN] at hN hnext ⊢
      have hLi : (L[j]).length = i := by
        subst hL
        simp [alw, digs_length]
      refine Ev.succ ?_
      simp only [impl_allWords.l1, rdOf_nat (L.map bx) j hjb, List.getElem_map]
      refine Ev.pos (by omega) (Ev.pos (by omega) (Ev.pos (by omega) ?_))
      have s1 : N.map bx = (N ++ (List.range 0).map fun b => L[j] ++ [UInt8.ofNat (97 + b)]).map bx := by simp
      rw [s1]
      refine Ev.loop (fun b k => impl_allWords.l2 k (m : Int) ((N ++ (List.range b).map fun b => L[j] ++ [UInt8.ofNat (97 + b)]).map bx) (bx L[j]) (n : Int) (i : Int) (L.map bx) ((L.map bx).length : Int) (j : Int) (m : Int) (b : Int)) m _ (fun b hb hnext => ?_) ?_
      · have e0 : (N ++ (List.range (b + 1)).map fun b => L[j] ++ [UInt8.ofNat (97 + b)]).map bx = (N ++ (List.range b).map fun b => L[j] ++ [UInt8.ofNat (97 + b)]).map bx ++ [bx L[j] ++ (⟨#[97, 98, 99]⟩ : ByteArray).extract b (b + 1)] := by
          rw [letter_cut b (by omega)]
          have : bx L[j] ++ (⟨#[UInt8.ofNat (97 + b)]⟩ : ByteArray) = bx (L[j] ++ [UInt8.ofNat (97 + b)]) := by unfold bx; rw [ba_append]; simp
          rw [this]
          simp [List.range_succ]
        rw [e0] at hnext
        have e3 : Aside0 (wrap64 ((b : Int) + 1) = ((b + 1 : Nat) : Int)) := ⟨by rw [w64 (by omega) (by omega)]; omega⟩
        have hsz : (bx L[j]).size = i := by rw [bx_size, hLi]
        have hls : ((⟨#[97, 98, 99]⟩ : ByteArray).extract b (b + 1)).size = 1 := by rw [letter_cut b (by omega)]; rfl
        refine Ev.succ ?_
        simp only [impl_allWords.l2, e3.out, Int.toNat_natCast]
        exact Ev.pos (by omega) (Ev.pos (by omega) (Ev.pos (by omega) (Ev.pos (by omega) (Ev.pos (by rw [hsz, hls]; omega) (Ev.pos (by simp; omega) hnext)))))
      · refine Ev.succ ?_
        simp only [impl_allWords.l2, w1 (show 0 ≤ (j : Int) by omega) (show (j : Int) < 9223372036854775807 by omega)]
        exact Ev.neg (by omega) hnext
    · refine Ev.succ ?_
      simp only [impl_allWords.l1, w1 (show 0 ≤ (i : Int) by omega) (show (i : Int) < 9223372036854775807 by omega)]
      refine Ev.neg (by simp) ?_
      rw [List.take_length]
      exact hnext
  · refine Ev.succ ?_
    simp only [impl_allWords.l0]
    exact Ev.neg (by omega) (Ev.now _)

/-- all turns of a text -/
def trn (x : List UInt8) : List (List UInt8) := (List.range x.length).map fun i => x.drop i ++ x.take i
/-- the first ones of them -/
def trnTo (x : List UInt8) (n : Nat) : List (List UInt8) := (List.range n).map fun i => x.drop i ++ x.take i
theorem trnTo_len (x : List UInt8) (n : Nat) : (trnTo x n).length = n := by simp [trnTo]
theorem trnTo_succ (x : List UInt8) (n : Nat) : trnTo x (n + 1) = trnTo x n ++ [x.drop n ++ x.take n] := by simp [trnTo, List.range_succ]
theorem turn_text (s : ByteArray) (i : Nat) : s.extract i s.size ++ s.extract 0 i = bx ((ch s).drop i ++ (ch s).take i) := by
  apply ch_inj'
  rw [ch_bx]
  have h : ∀ a b : ByteArray, ch (a ++ b) = ch a ++ ch b := fun a b => by simp [ch, ByteArray.data_append]
  rw [h, ch_drop, ch_extract]; simp
theorem impl_turnsOf_ev (s : ByteArray) (hs : s.size ≤ 1000) : Ev (fun k => impl_turnsOf.f k s) (bas (trn (ch s))) := by
  unfold impl_turnsOf.f
  have hcs := ch_length s
  have start : ([] : List ByteArray) = (trnTo (ch s) 0).map bx := by simp [trnTo]
  rw [start]
  refine Ev.loop (fun i k => impl_turnsOf.l0 k s ((trnTo (ch s) i).map bx) (s.size : Int) (i : Int)) s.size _ (fun i hi hnext => ?_) ?_
  · rw [trnTo_succ, List.map_append, List.map_cons, List.map_nil, ← turn_text] at hnext
    refine Ev.succ ?_
    simp only [impl_turnsOf.l0, Int.toNat_natCast, w1 (show 0 ≤ (i : Int) by omega) (show (i : Int) < 9223372036854775807 by omega)]
    exact Ev.pos (by omega) (Ev.pos (by omega) (Ev.pos (by omega) (Ev.pos (by simp; omega) (Ev.pos (by simp [trnTo_len]; omega) hnext))))
  · refine Ev.succ ?_
    simp only [impl_turnsOf.l0]
    refine Ev.neg (by omega) (Ev.known (fun _ => ordered_eq _ (by simp [trnTo_len]; omega)) (Ev.pure ?_))
    rw [map_ch_bx]
    unfold trn trnTo
    rw [hcs]

/-- a turn of a text -/
def rotT (x : List UInt8) (i : Nat) : List UInt8 := x.drop i ++ x.take i
theorem rotT_len (x : List UInt8) (i : Nat) (h : i ≤ x.length) : (rotT x i).length = x.length := by unfold rotT; simp; omega
theorem rotT_at (x : List UInt8) (i : Nat) (h : i ≤ x.length) (p : Nat) (hp : p < x.length) : (rotT x i)[p]? = x[(i + p) % x.length]? := by
  unfold rotT
  by_cases c : p < x.length - i
  · rw [List.getElem?_append_left (by simpa using c), List.getElem?_drop, Nat.mod_eq_of_lt (by omega)]
  · rw [List.getElem?_append_right (by simp; omega), List.length_drop, List.getElem?_take_of_lt (by omega)]
    congr 1
    rw [Nat.mod_eq_sub_mod (by omega), Nat.mod_eq_of_lt (by omega)]
    omega
theorem rotT_back (x : List UInt8) (i j : Nat) (hij : i < j) (hj : j < x.length) (h : rotT x i = rotT x j) : rotT x (j - i) = x := by
  apply List.ext_getElem?
  intro q
  by_cases hq : q < x.length
  · rw [rotT_at x (j - i) (by omega) q hq]
    have h1 := congrArg (fun l => l[(q + (x.length - i)) % x.length]?) h
    try simp only at h1
    rw [rotT_at x i (by omega) _ (Nat.mod_lt _ (by omega)), rotT_at x j (by omega) _ (Nat.mod_lt _ (by omega))] at h1
    have e1 : (i + (q + (x.length - i)) % x.length) % x.length = q := by
      rw [Nat.add_mod_mod, show i + (q + (x.length - i)) = q + x.length by omega, Nat.add_mod_right, Nat.mod_eq_of_lt hq]
    have e2 : (j + (q + (x.length - i)) % x.length) % x.length = (j - i + q) % x.length := by
      rw [Nat.add_mod_mod, show j + (q + (x.length - i)) = j - i + q + x.length by omega, Nat.add_mod_right]
    rw [e1, e2] at h1
    exact h1.symm
  · rw [List.getElem?_eq_none (by rw [rotT_len x _ (by omega)]; omega), List.getElem?_eq_none (by omega)]
theorem trn_eq (x : List UInt8) : trn x = (List.range x.length).map (rotT x) := rfl
theorem rotT_zero (x : List UInt8) : rotT x 0 = x := by simp [rotT]
theorem nodupLe {α : Type} [DecidableEq α] : ∀ (M N : List α), M.Nodup → M ⊆ N → M.length ≤ N.length
  | [], _, _, _ => Nat.zero_le _
  | x :: M, N, hn, hs => by
    have hx : x ∈ N := hs (by simp)
    have hn' := List.nodup_cons.1 hn
    have := nodupLe M (N.erase x) hn'.2 (fun y hy => (List.mem_erase_of_ne (by rintro rfl; exact hn'.1 hy)).2 (hs (by simp [hy])))
    have h1 := List.length_erase_of_mem hx
    have h2 := List.length_pos_of_mem hx
    simp only [List.length_cons]
    omega
/-- a word that comes ahead of all its other turns: it has as many turns as letters, and is the first one -/
theorem turned_iff (x : List UInt8) (h1 : 1 ≤ x.length) : (∀ k, 1 ≤ k → k < x.length → wcmp x (rotT x k) < 0) ↔ ((ordL (trn x)).length = x.length ∧ (ordL (trn x))[0]? = some x) := by
  have hmem : ∀ y, y ∈ ordL (trn x) ↔ ∃ k, k < x.length ∧ rotT x k = y := fun y => by
    rw [mem_ordL, trn_eq, List.mem_map]
    exact exists_congr fun k => and_congr_left fun _ => List.mem_range
  have hx : x ∈ ordL (trn x) := (hmem x).2 ⟨0, by omega, rotT_zero x⟩
  have hpos : 0 < (ordL (trn x)).length := List.length_pos_of_mem hx
  have hris := ordL_rises (trn x)
  constructor
  · intro h
    have hnd : (trn x).Nodup := by
      rw [trn_eq, List.nodup_iff_pairwise_ne, List.pairwise_map]
      refine List.pairwise_lt_range.imp_of_mem fun {i j} hi hj hij e => ?_
      have hj' := List.mem_range.1 hj
      have := rotT_back x i j hij hj' e
      have h' := h (j - i) (by omega) (by omega)
      rw [this, wcmp_self] at h'
      omega
    refine ⟨?_, ?_⟩
    · have a1 := nodupLe (trn x) (ordL (trn x)) hnd (fun y hy => (mem_ordL _ y).2 hy)
      have a2 := nodupLe (ordL (trn x)) (trn x) (ordL_nodup _) (fun y hy => (mem_ordL _ y).1 hy)
      have a3 : (trn x).length = x.length := by rw [trn_eq]; simp
      omega
    · rw [List.getElem?_eq_getElem hpos]
      obtain ⟨k, hk, e⟩ := (hmem _).1 (List.getElem_mem hpos)
      by_cases k0 : k = 0
      · subst k0; rw [← e, rotT_zero]
      · exfalso
        have h2 := h k (by omega) hk
        rw [e] at h2
        obtain ⟨q, hq, eq⟩ := List.getElem_of_mem hx
        by_cases q0 : q = 0
        · subst q0; rw [eq, wcmp_self] at h2; omega
        · have h3 := List.pairwise_iff_getElem.1 hris 0 q hpos hq (by omega)
          rw [eq] at h3
          have := wcmp_anti x (ordL (trn x))[0]
          omega
  · rintro ⟨hlen, hfirst⟩ k hk1 hk2
    rw [List.getElem?_eq_getElem hpos] at hfirst
    have hf := Option.some.inj hfirst
    obtain ⟨q, hq, eq⟩ := List.getElem_of_mem ((hmem (rotT x k)).2 ⟨k, hk2, rfl⟩)
    by_cases q0 : q = 0
    · exfalso
      subst q0
      have hdup : rotT x k = x := by rw [← eq, hf]
      have hsub : ordL (trn x) ⊆ ((List.range x.length).eraseIdx k).map (rotT x) := fun y hy => by
        obtain ⟨p, hp, rfl⟩ := (hmem y).1 hy
        by_cases e : p = k
        · subst e
          refine List.mem_map.2 ⟨0, ?_, by rw [rotT_zero, hdup]⟩
          refine List.mem_eraseIdx_iff_getElem.2 ⟨0, by simp; omega, by omega, by simp⟩
        · exact List.mem_map.2 ⟨p, List.mem_eraseIdx_iff_getElem.2 ⟨p, by simpa using hp, e, by simp⟩, rfl⟩
      have a2 := nodupLe (ordL (trn x)) _ (ordL_nodup _) hsub
      rw [List.length_map, List.length_eraseIdx_of_lt (by simpa using hk2), List.length_range, hlen] at a2
      omega
    · have h3 := List.pairwise_iff_getElem.1 hris 0 q hpos hq (by omega)
      rw [eq, hf] at h3
      exact h3

theorem syTurned_ev (s : ByteArray) (hs : s.size ≤ 1000) : ∃ b : Bool, Ev (fun k => spec_syTurned.f k s) b ∧ (b = true ↔ ∀ k, 1 ≤ k → k < s.size → wcmp (ch s) (rotT (ch s) k) < 0) := by
  have hcs := ch_length s
  have h : ∀ (d i : Nat), i + d = s.size → 1 ≤ i → ∃ b : Bool, Ev (fun k => spec_syTurned.l0 k s (i : Int)) b ∧ (b = true ↔ ∀ k, i ≤ k → k < s.size → wcmp (ch s) (rotT (ch s) k) < 0) := by
    intro d
    induction d with
    | zero =>
      intro i hd hi
      refine ⟨true, Ev.succ ?_, by simp; intro k h1 h2; omega⟩
      simp only [spec_syTurned.l0]
      exact Ev.neg (by omega) (Ev.now _)
    | succ d ih =>
      intro i hd hi
      obtain ⟨b, hb, hbb⟩ := ih (i + 1) (by omega) (by omega)
      have hless : Op.bytesLess s.toList (s.extract i s.size ++ s.extract 0 i).toList = decide (wcmp (ch s) (rotT (ch s) i) < 0) := by
        rw [toList_ch, toList_ch, turn_text, ch_bx, bytesLess_cmp]
        have hl : ((ch s).drop i ++ (ch s).take i).length = (ch s).length := rotT_len (ch s) i (by omega)
        unfold rotT wcmp
        rw [hl, if_neg (Nat.lt_irrefl _), if_neg (Nat.lt_irrefl _)]
      by_cases hc : wcmp (ch s) (rotT (ch s) i) < 0
      · refine ⟨b, Ev.succ ?_, ?_⟩
        · simp only [spec_syTurned.l0, Int.toNat_natCast, w1 (show 0 ≤ (i : Int) by omega) (show (i : Int) < 9223372036854775807 by omega)]
          exact Ev.pos (by omega) (Ev.pos (by omega) (Ev.pos (by omega) (Ev.pos (by simp; omega) (Ev.pos (by rw [hless]; exact decide_eq_true hc) hb))))
        · rw [hbb]
          constructor
          · intro h k h1 h2
            by_cases e : k = i
            · subst e; exact hc
            · exact h k (by omega) h2
          · intro h k h1 h2; exact h k (by omega) h2
      · refine ⟨false, Ev.succ ?_, ?_⟩
        · simp only [spec_syTurned.l0, Int.toNat_natCast]
          exact Ev.pos (by omega) (Ev.pos (by omega) (Ev.pos (by omega) (Ev.pos (by simp; omega) (Ev.neg (by rw [hless]; simpa using hc) (Ev.now _)))))
        · constructor
          · intro h; cases h
          · intro h; exact absurd (h i (Nat.le_refl _) (by omega)) hc
  by_cases h0 : s.size = 0
  · refine ⟨true, ?_, by simp; intro k h1 h2; omega⟩
    unfold spec_syTurned.f
    refine Ev.succ ?_
    simp only [spec_syTurned.l0]
    exact Ev.neg (by omega) (Ev.now _)
  · exact h (s.size - 1) 1 (by omega) (by omega)
theorem loops_same (m n : Nat) (hm : 2 ≤ m) (hm3 : m ≤ 3) (hn1 : 1 ≤ n) (hn : n ≤ 8) : ∀ (d i c : Nat), i + d = m ^ n → c ≤ i → ∃ r : Int × Bool, Ev (fun k => spec_CountTurnedWords.l0 k (m : Int) (n : Int) (c : Int) (i : Int)) r ∧ Ev (fun k => impl_CountTurnedWords.l0 k (n : Int) (c : Int) ((alw m n).map bx) (((alw m n).map bx).length : Int) (i : Int)) r := by
  have hp : m ^ n ≤ 6561 := Nat.le_trans (Nat.pow_le_pow_left hm3 n) (Nat.le_trans (Nat.pow_le_pow_right (by omega) hn) (by decide))
  have hal := alw_len m n
  have hpw := krPower_ev m n (by omega) (by omega) (by omega)
  intro d
  induction d with
  | zero =>
    intro i c hd hc
    refine ⟨((c : Int), true), Ev.succ ?_, Ev.succ ?_⟩
    · simp only [spec_CountTurnedWords.l0]
      exact Ev.bind hpw (Ev.neg (by omega) (Ev.now _))
    · simp only [impl_CountTurnedWords.l0]
      exact Ev.neg (by rw [List.length_map, hal]; omega) (Ev.now _)
  | succ d ih =>
    intro i c hd hc
    have hi : i < ((alw m n).map bx).length := by simp [hal]; omega
    have hw : ((alw m n).map bx)[i] = bx (digs m n i) := by simp [alw]
    have hdl := digs_length m n i
    obtain ⟨b, hb, hbb⟩ := syTurned_ev (bx (digs m n i)) (by rw [bx_size]; omega)
    have hti := impl_turnsOf_ev (bx (digs m n i)) (by rw [bx_size]; omega)
    rw [ch_bx] at hti hbb
    rw [bx_size, hdl] at hbb
    have hiff := turned_iff (digs m n i) (by omega)
    rw [hdl] at hiff
    have hk := krText_ev i n m hm hm3 (by omega) (by omega)
    change Ev _ (bx (digs m n i)) at hk
    have hlen : (bas (trn (digs m n i))).length = (ordL (trn (digs m n i))).length := by unfold bas; simp
    obtain ⟨r1, s1, p1⟩ := ih (i + 1) (c + 1) (by omega) (by omega)
    obtain ⟨r2, s2, p2⟩ := ih (i + 1) c (by omega) (by omega)
    have wi := Aside0.mk (w1 (show 0 ≤ (i : Int) by omega) (show (i : Int) < 9223372036854775807 by omega))
    have wc := Aside0.mk (w1 (show 0 ≤ (c : Int) by omega) (show (c : Int) < 9223372036854775807 by omega))
    cases b with
    | true =>
      obtain ⟨q1, q2⟩ := hiff.1 (hbb.1 rfl)
      have hpos : 0 < (bas (trn (digs m n i))).length := by omega
      have hfirst : (bas (trn (digs m n i)))[0] = bx (digs m n i) := by
        have : (bas (trn (digs m n i)))[0]? = some (bx (digs m n i)) := by unfold bas; rw [List.getElem?_map, q2]; rfl
        rw [List.getElem?_eq_getElem hpos] at this
        exact Option.some.inj this
      refine ⟨r1, Ev.succ ?_, Ev.succ ?_⟩
      · simp only [spec_CountTurnedWords.l0, wi.out, wc.out]
        exact Ev.bind hpw (Ev.pos (by omega) (Ev.bind hk (Ev.bind hb (Ev.pos rfl s1))))
      · simp only [impl_CountTurnedWords.l0, rdOf_nat _ i hi, hw, wi.out, wc.out]
        refine Ev.pos (by omega) (Ev.pos (by omega) (Ev.pos (by omega) (Ev.bind hti (Ev.pos (by omega) (Ev.pos (by omega) (Ev.pos ?_ p1))))))
        have e0 := rdOf_nat (bas (trn (digs m n i))) 0 hpos
        rw [show ((0 : Nat) : Int) = (0 : Int) from rfl] at e0
        rw [e0, hfirst]
    | false =>
      refine ⟨r2, Ev.succ ?_, Ev.succ ?_⟩
      · simp only [spec_CountTurnedWords.l0, wi.out]
        exact Ev.bind hpw (Ev.pos (by omega) (Ev.bind hk (Ev.bind hb (Ev.neg (by simp) s2))))
      · simp only [impl_CountTurnedWords.l0, rdOf_nat _ i hi, hw, wi.out]
        refine Ev.pos (by omega) (Ev.pos (by omega) (Ev.pos (by omega) (Ev.bind hti (Ev.cases (fun hl => ?_) (fun _ => p2)))))
        have hpos : 0 < (bas (trn (digs m n i))).length := by omega
        refine Ev.pos (by omega) (Ev.neg (fun he => ?_) p2)
        have e0 := rdOf_nat (bas (trn (digs m n i))) 0 hpos
        rw [show ((0 : Nat) : Int) = (0 : Int) from rfl] at e0
        rw [e0, toList_ch, toList_ch] at he
        have hpo : 0 < (ordL (trn (digs m n i))).length := by omega
        have : (false : Bool) = true := hbb.2 (hiff.2 ⟨by omega, by
          rw [List.getElem?_eq_getElem hpo]
          have e1 : ch (bas (trn (digs m n i)))[0] = (ordL (trn (digs m n i)))[0] := by
            have : (bas (trn (digs m n i)))[0] = bx (ordL (trn (digs m n i)))[0] := by simp [bas]
            rw [this, ch_bx]
          rw [← e1, he, ch_bx]⟩)
        cases this
theorem FnExactCountTurnedWords : laws_FnExactCountTurnedWords.Pure := by
  intro a n _ _
  refine Ev.rounds ?_
  unfold laws_FnExactCountTurnedWords.f
  have hs : spec_krLetters.f a = some (decide (2 ≤ a ∧ a ≤ 3)) := by unfold spec_krLetters.f; rw [spec_in]; rfl
  have hi : impl_areLetters.f a = some (decide (2 ≤ a ∧ a ≤ 3)) := by unfold impl_areLetters.f; rw [impl_in_eq]; rfl
  have same : ∃ r, Ev (fun k => spec_CountTurnedWords.f k a n) r ∧ Ev (fun k => impl_CountTurnedWords.f k a n) r := by
    have ns : Ev (fun k => spec_CountTurnedWords.j0 k a n true) (0, false) := Ev.succ (by simp only [spec_CountTurnedWords.j0]; exact Ev.pos (by simp) (Ev.now _))
    have ni : Ev (fun k => impl_CountTurnedWords.j0 k a n true) (0, false) := Ev.succ (by simp only [impl_CountTurnedWords.j0]; exact Ev.pos (by simp) (Ev.now _))
    unfold spec_CountTurnedWords.f impl_CountTurnedWords.f
    by_cases ha : 2 ≤ a ∧ a ≤ 3
    · rw [decide_eq_true ha] at hs hi
      by_cases hn : 1 ≤ n ∧ n ≤ 8
      · obtain ⟨m, rfl⟩ : ∃ m : Nat, a = (m : Int) := ⟨a.toNat, by omega⟩
        obtain ⟨p, rfl⟩ : ∃ p : Nat, n = (p : Int) := ⟨n.toNat, by omega⟩
        obtain ⟨r, r1, r2⟩ := loops_same m p (by omega) (by omega) (by omega) (by omega) (m ^ p) 0 0 (by omega) (by omega)
        refine ⟨r, Ev.known (fun _ => hs) (Ev.pos rfl (Ev.known (fun _ => spec_in _ _ _) (Ev.succ ?_))), Ev.known (fun _ => hi) (Ev.pos rfl (Ev.known (fun _ => impl_in_eq _ _ _) (Ev.succ ?_)))⟩
        · simp only [spec_CountTurnedWords.j0, decide_eq_true hn]
          exact Ev.neg (by simp) r1
        · simp only [impl_CountTurnedWords.j0, decide_eq_true hn]
          exact Ev.neg (by simp) (Ev.bind (allWords_ev m p (by omega) (by omega) (by omega)) r2)
      · refine ⟨(0, false), Ev.known (fun _ => hs) (Ev.pos rfl (Ev.known (fun _ => spec_in _ _ _) ?_)), Ev.known (fun _ => hi) (Ev.pos rfl (Ev.known (fun _ => impl_in_eq _ _ _) ?_))⟩
        · rw [decide_eq_false hn]; exact ns
        · rw [decide_eq_false hn]; exact ni
    · rw [decide_eq_false ha] at hs hi
      exact ⟨(0, false), Ev.known (fun _ => hs) (Ev.neg (by simp) ns), Ev.known (fun _ => hi) (Ev.neg (by simp) ni)⟩
  obtain ⟨r, h1, h2⟩ := same
  exact Ev.bind h1 (Ev.bind h2 (Ev.pos rfl (Ev.neg (by simp) (Ev.now _))))
end Go.Proofs.Ytejngeeafagbpaa.Pure
