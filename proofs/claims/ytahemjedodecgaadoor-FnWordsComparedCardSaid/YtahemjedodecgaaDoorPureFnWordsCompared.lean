/- Words begin, end and count as told, the order of words is one, and borders are beginnings that are ends: for all inputs, no condition. -/
import Derived.Test.YtahemjedodecgaaDoorXFnWordsComparedx9
import Derived.Conc.WgArith
namespace Go.Proofs.YtahemjedodecgaaDoor.Pure
set_option linter.unusedSimpArgs false
set_option linter.unusedVariables false
open Go.RowKit Go.Proofs.YtahemjedodecgaaDoor.Hand Go.Proofs.YtahemjedodecgaaDoor.XFnWordsCompared Go.Proofs.YtahemjedodecgaaDoorW.PrintWords Go.Proofs.YtahemjedodecgaaDoorW.PrintLast Go.Proofs.YtahemjedodecgaaDoorW.PrintMore

theorem w1 {i : Int} (h0 : 0 ≤ i) (h : i < 9223372036854775807) : wrap64 (i + 1) = i + 1 := by unfold wrap64; omega
theorem w64 {i : Int} (h0 : -9223372036854775808 ≤ i) (h : i < 9223372036854775808) : wrap64 i = i := by unfold wrap64; omega
theorem rd_nat (l : List Int) (i : Nat) (h : i < l.length) : rd l (i : Int) = l[i] := by
  unfold rd; simp [List.getD_eq_getElem?_getD, h]
theorem Ev.pos {α : Type} {c : Prop} [Decidable c] {g g' : Nat → Option α} {r : α} (h : c) (k : Ev g r) : Ev (fun n => if c then g n else g' n) r :=
  Ev.congr (fun n => if_pos h) k
theorem Ev.neg {α : Type} {c : Prop} [Decidable c] {g g' : Nat → Option α} {r : α} (h : ¬ c) (k : Ev g' r) : Ev (fun n => if c then g n else g' n) r :=
  Ev.congr (fun n => if_neg h) k
theorem Ev.cases {α : Type} {c : Prop} [Decidable c] {g g' : Nat → Option α} {r : α} (h : c → Ev g r) (k : ¬ c → Ev g' r) : Ev (fun n => if c then g n else g' n) r := by
  by_cases e : c
  · exact Ev.pos e (h e)
  · exact Ev.neg e (k e)
/-- a call whose answer is known at every number of rounds -/
theorem Ev.known {α β : Type} {g : Nat → Option α} {f : Nat → α → Option β} {a : α} {r : β} (h : ∀ n, g n = some a) (k : Ev (fun n => f n a) r) : Ev (fun n => (g n).bind (f n)) r :=
  Ev.bind ⟨0, fun n _ => h n⟩ k
/-- one bind of two, joined with what follows -/
theorem Ev.pure {α : Type} {r q : α} (h : r = q) : Ev (fun _ => some r) q := h ▸ Ev.now r
theorem Ev.succ {α : Type} {g : Nat → Option α} {r : α} (h : Ev (fun k => g (k + 1)) r) : Ev g r := Ev.step (f := fun k => g (k + 1)) (fun _ => rfl) h

theorem rdOf_nat (l : List ByteArray) (i : Nat) (h : i < l.length) : rdOf ByteArray.empty l (i : Int) = l[i] := by
  unfold rdOf; simp [List.getD_eq_getElem?_getD, h]

/-- bytes that came in -/
def OkL (l : List Int) : Prop := ∀ x ∈ l, 0 ≤ x ∧ x < 256
theorem okL_of {l : List Int} (h : ∀ x ∈ l, (Lit.int .u8 x).wf = true) : OkL l := fun x hx => by
  have h1 := h x hx
  have h2 : (decide (IntKind.u8.min ≤ x) && decide (x ≤ IntKind.u8.max)) = true := h1
  have e1 : IntKind.u8.min = 0 := by decide
  have e2 : IntKind.u8.max = 255 := by decide
  rw [e1, e2, Bool.and_eq_true, decide_eq_true_eq, decide_eq_true_eq] at h2
  omega
theorem rd_ok {l : List Int} (h : OkL l) (i : Int) : 0 ≤ rd l i ∧ rd l i < 256 := by
  unfold rd
  rw [List.getD_eq_getElem?_getD]
  cases e : l[i.toNat]? with
  | none => simp
  | some x => exact h x (List.mem_of_getElem? e)
theorem byte_of_seed (y : Int) : 0 ≤ wrap64 (Go.bits .and .u64 (IntKind.u64.wrap y / 1099511627776) 255) ∧ wrap64 (Go.bits .and .u64 (IntKind.u64.wrap y / 1099511627776) 255) < 256 := by
  have h1 : 0 ≤ IntKind.u64.wrap y ∧ IntKind.u64.wrap y < 18446744073709551616 := by rw [IntKind.wrap_u64]; omega
  generalize IntKind.u64.wrap y = z at h1
  obtain ⟨h1, h2⟩ := h1
  have h := bits_mask .u64 63 (by decide) Go.ConcN.wraps_u64_63 8 (by decide) (z / 1099511627776) (by omega) (by omega)
  have e : ((2 : Int) ^ 8 - 1) = 255 := by decide
  have e2 : ((2 : Int) ^ 8) = 256 := by decide
  rw [e, e2] at h
  rw [h, w64 (by omega) (by omega)]
  omega
theorem next_ev {l : List Int} (hl : OkL l) (at0 sd : Int) (h0 : 0 ≤ at0) (h1 : at0 ≤ 4611686018427387904) : ∃ x sd', spec_l1Cur_next.f l at0 sd = some (x, at0 + 1, sd') ∧ 0 ≤ x ∧ x < 256 := by
  have hr := rd_ok hl at0
  have e : Aside0 (wrap64 (at0 + 1) = at0 + 1) := ⟨w64 (by omega) (by omega)⟩
  have e2 : Aside0 (wrap64 (rd l at0) = rd l at0) := ⟨w64 (by omega) (by omega)⟩
  unfold spec_l1Cur_next.f
  rw [e.out, e2.out]
  by_cases c1 : at0 < (l.length : Int)
  · rw [if_pos c1, if_pos h0, if_pos (by omega)]
    exact ⟨_, _, rfl, hr.1, hr.2⟩
  · rw [if_neg c1]
    by_cases c2 : at0 + 1 ≤ (l.length : Int)
    · rw [if_pos c2]; exact ⟨_, _, rfl, by omega, by omega⟩
    · rw [if_neg c2]; exact ⟨_, _, rfl, (byte_of_seed _).1, (byte_of_seed _).2⟩
theorem pick_ev {l : List Int} (hl : OkL l) (at0 sd n : Int) (h0 : 0 ≤ at0) (h1 : at0 ≤ 2305843009213693952) : ∃ x at' sd', spec_l1Cur_pick.f l at0 sd n = some (x, at', sd') ∧ 0 ≤ x ∧ (1 ≤ n → x < n) ∧ at0 ≤ at' ∧ at' ≤ at0 + 2 := by
  unfold spec_l1Cur_pick.f
  by_cases c1 : n ≤ 1
  · rw [if_pos c1]; exact ⟨_, _, _, rfl, by omega, by omega, by omega, by omega⟩
  · rw [if_neg c1]
    obtain ⟨x, s1, e1, hx, hx2⟩ := next_ev hl at0 sd h0 (by omega)
    rw [e1]
    simp only [Option.bind_some]
    by_cases c2 : n > 200
    · rw [if_pos c2]
      obtain ⟨y, s2, e2, hy, hy2⟩ := next_ev hl (at0 + 1) s1 (by omega) (by omega)
      rw [e2]
      simp only [Option.bind_some]
      rw [if_neg (by omega)]
      have e3 : Aside0 (wrap64 (wrap64 (x * 256) + y) = x * 256 + y) := ⟨by rw [w64 (i := x * 256) (by omega) (by omega), w64 (by omega) (by omega)]⟩
      rw [e3.out]
      exact ⟨_, _, _, rfl, Int.tmod_nonneg _ (by omega), fun _ => Int.tmod_lt_of_pos _ (by omega), by omega, by omega⟩
    · rw [if_neg c2, if_neg (by omega)]
      exact ⟨_, _, _, rfl, Int.tmod_nonneg _ (by omega), fun _ => Int.tmod_lt_of_pos _ (by omega), by omega, by omega⟩
theorem one_ev {l : List Int} (hl : OkL l) (at0 sd n : Int) (h0 : 0 ≤ at0) (h1 : at0 ≤ 2305843009213693952) : ∃ b at' sd', spec_l1Cur_one.f l at0 sd n = some (b, at', sd') ∧ at0 ≤ at' ∧ at' ≤ at0 + 2 := by
  obtain ⟨x, at', s', e, -, -, h2, h3⟩ := pick_ev hl at0 sd n h0 h1
  unfold spec_l1Cur_one.f
  rw [e]
  exact ⟨_, _, _, rfl, h2, h3⟩
theorem sureWord_l0 {l : List Int} (hl : OkL l) (letters : Int) (ha : 1 ≤ letters) (hb : letters ≤ 3) : ∀ (d : Nat) (s : ByteArray) (at0 sd : Int), s.size + d ≤ 1000000 → 0 ≤ at0 → at0 + 2 * (d : Int) ≤ 1152921504606846976 → ∃ r at' sd', Ev (fun k => spec_l1Cur_sureWord.l0 k letters s (d : Int) l at0 sd) (r, at', sd') ∧ r.size ≤ s.size + d ∧ at0 ≤ at' ∧ at' ≤ at0 + 2 * d
  | 0, s, at0, sd, hs, h0, h1 => ⟨s, at0, sd, Ev.succ (by simp only [spec_l1Cur_sureWord.l0]; exact Ev.neg (by omega) (Ev.now _)), by omega, by omega, by omega⟩
  | d + 1, s, at0, sd, hs, h0, h1 => by
    obtain ⟨x, at1, s1, e, hx, hx2, h2, h3⟩ := pick_ev hl at0 sd letters h0 (by omega)
    have hx3 := hx2 ha
    have e1 : Aside0 (wrap64 (x + 1) = x + 1) := ⟨w64 (by omega) (by omega)⟩
    have e2 : Aside0 (wrap64 (((d + 1 : Nat) : Int) - 1) = (d : Int)) := ⟨by rw [w64 (by omega) (by omega)]; omega⟩
    have hsz : ((⟨#[97, 98, 99]⟩ : ByteArray).extract x.toNat (x + 1).toNat).size ≤ 1 := by
      rw [ByteArray.size_extract]
      have : (⟨#[97, 98, 99]⟩ : ByteArray).size = 3 := rfl
      omega
    obtain ⟨r, at', s', hr, hr2, h4, h5⟩ := sureWord_l0 hl letters ha hb d (s ++ (⟨#[97, 98, 99]⟩ : ByteArray).extract x.toNat (x + 1).toNat) at1 s1 (by rw [ByteArray.size_append]; omega) (by omega) (by omega)
    rw [ByteArray.size_append] at hr2
    refine ⟨r, at', s', Ev.succ ?_, by omega, by omega, by omega⟩
    simp only [spec_l1Cur_sureWord.l0, e, Option.bind_some, e1.out, e2.out]
    exact Ev.pos (by omega) (Ev.pos (by omega) (Ev.pos (by omega) (Ev.pos (by omega) (Ev.pos (by omega) hr))))
theorem sureWord_ev {l : List Int} (hl : OkL l) (at0 sd most letters : Int) (hm0 : 0 ≤ most) (hm : most ≤ 100) (ha : 1 ≤ letters) (hb : letters ≤ 3) (h0 : 0 ≤ at0) (h1 : at0 ≤ 1152921504606846000) : ∃ r at' sd', Ev (fun k => spec_l1Cur_sureWord.f k l at0 sd most letters) (r, at', sd') ∧ (r.size : Int) ≤ most ∧ at0 ≤ at' ∧ at' ≤ at0 + 2 * most + 2 := by
  obtain ⟨x, at1, s1, e, hx, hx2, h2, h3⟩ := pick_ev hl at0 sd (wrap64 (most + 1)) h0 (by omega)
  have e1 : wrap64 (most + 1) = most + 1 := w64 (by omega) (by omega)
  rw [e1] at hx2
  have hx3 := hx2 (by omega)
  obtain ⟨d, rfl⟩ : ∃ d : Nat, x = (d : Int) := ⟨x.toNat, by omega⟩
  clear e1
  obtain ⟨r, at', s', hr, hr2, h4, h5⟩ := sureWord_l0 hl letters ha hb d ⟨#[]⟩ at1 s1 (by rw [show (⟨#[]⟩ : ByteArray).size = 0 from rfl]; omega) (by omega) (by omega)
  have h0' : (⟨#[]⟩ : ByteArray).size = 0 := rfl
  refine ⟨r, at', s', ?_, by omega, by omega, by omega⟩
  unfold spec_l1Cur_sureWord.f
  exact Ev.known (fun _ => e) hr
theorem of_ev {l : List Int} (hl : OkL l) (at0 sd : Int) (list : List ByteArray) (hn : list ≠ []) (h0 : 0 ≤ at0) (h1 : at0 ≤ 2305843009213693952) : ∃ r at' sd', spec_l1Cur_of.f l at0 sd list = some (r, at', sd') ∧ r ∈ list ∧ at0 ≤ at' ∧ at' ≤ at0 + 2 := by
  obtain ⟨x, at1, s1, e, hx, hx2, h2, h3⟩ := pick_ev hl at0 sd (list.length : Int) h0 h1
  have hlen : 1 ≤ list.length := by cases list with | nil => exact absurd rfl hn | cons a t => simp
  have hx3 := hx2 (by omega)
  obtain ⟨i, rfl⟩ : ∃ i : Nat, x = (i : Int) := ⟨x.toNat, by omega⟩
  have hi : i < list.length := by omega
  refine ⟨list[i], at1, s1, ?_, List.getElem_mem hi, h2, h3⟩
  unfold spec_l1Cur_of.f
  rw [e]
  simp only [Option.bind_some]
  rw [if_pos (by omega), if_pos (by omega), rdOf_nat list i hi]
theorem word_l0 {l : List Int} (hl : OkL l) : ∀ (d : Nat) (s : ByteArray) (at0 sd : Int), s.size + d = 61 → 0 ≤ at0 → at0 + 2 * (d : Int) ≤ 1152921504606846000 → ∃ r at' sd', Ev (fun k => spec_l1Cur_word.l0 k s l at0 sd) (r, at', sd') ∧ r.size ≤ 61 ∧ at0 ≤ at' ∧ at' ≤ at0 + 2 * d + 2
  | 0, s, at0, sd, hd, h0, h1 => by
    obtain ⟨x, at1, s1, e, hx, hx2, h2, h3⟩ := pick_ev hl at0 sd 2 h0 (by omega)
    have hx3 := hx2 (by omega)
    refine ⟨s, at1, s1, Ev.succ ?_, by omega, by omega, by omega⟩
    simp only [spec_l1Cur_word.l0, e, Option.bind_some]
    exact Ev.neg (by rw [w64 (by omega) (by omega)]; omega) (Ev.now _)
  | d + 1, s, at0, sd, hd, h0, h1 => by
    obtain ⟨x, at1, s1, e, hx, hx2, h2, h3⟩ := pick_ev hl at0 sd 2 h0 (by omega)
    have hx3 := hx2 (by omega)
    have hsz : (s ++ (⟨#[97]⟩ : ByteArray)).size = s.size + 1 := by rw [ByteArray.size_append]; rfl
    obtain ⟨r, at', s', hr, hr2, h4, h5⟩ := word_l0 hl d (s ++ ⟨#[97]⟩) at1 s1 (by omega) (by omega) (by omega)
    by_cases c : (s.size : Int) < wrap64 (60 + x)
    · refine ⟨r, at', s', Ev.succ ?_, by omega, by omega, by omega⟩
      simp only [spec_l1Cur_word.l0, e, Option.bind_some]
      exact Ev.pos c (Ev.pos (by omega) hr)
    · refine ⟨s, at1, s1, Ev.succ ?_, by omega, by omega, by omega⟩
      simp only [spec_l1Cur_word.l0, e, Option.bind_some]
      exact Ev.neg c (Ev.now _)
theorem word_ev {l : List Int} (hl : OkL l) (at0 sd most : Int) (hm0 : 0 ≤ most) (hm : most ≤ 60) (h0 : 0 ≤ at0) (h1 : at0 ≤ 1152921504606845000) : ∃ r at' sd', Ev (fun k => spec_l1Cur_word.f k l at0 sd most) (r, at', sd') ∧ r.size ≤ 61 ∧ at0 ≤ at' ∧ at' ≤ at0 + 300 := by
  obtain ⟨x, at1, s1, e, hx, hx2, h2, h3⟩ := pick_ev hl at0 sd 2 h0 (by omega)
  have hx3 := hx2 (by omega)
  have e1 : Aside0 (wrap64 (2 + x) = 2 + x) := ⟨w64 (by omega) (by omega)⟩
  obtain ⟨r, at2, s2, hr, hr2, h4, h5⟩ := sureWord_ev hl at1 s1 most (2 + x) hm0 (by omega) (by omega) (by omega) (by omega) (by omega)
  obtain ⟨y, at3, s3, e3, hy, -, h6, h7⟩ := pick_ev hl at2 s2 24 (by omega) (by omega)
  by_cases c1 : y = 0
  · obtain ⟨z, at4, s4, e4, hz, h8, h9⟩ := of_ev hl at3 s3 [(⟨#[100]⟩ : ByteArray), ⟨#[65]⟩, ⟨#[48]⟩, ⟨#[45]⟩] (by simp) (by omega) (by omega)
    have hz1 : z.size = 1 := by
      simp only [List.mem_cons, List.not_mem_nil, or_false] at hz
      rcases hz with rfl | rfl | rfl | rfl <;> rfl
    refine ⟨r ++ z, at4, s4, ?_, by rw [ByteArray.size_append]; omega, by omega, by omega⟩
    unfold spec_l1Cur_word.f
    refine Ev.known (fun _ => e) ?_
    simp only [e1.out]
    exact Ev.bind hr (Ev.known (fun _ => e3) (Ev.pos c1 (Ev.known (fun _ => e4) (Ev.pos (by simp only; omega) (Ev.now _)))))
  · by_cases c2 : y = 1
    · obtain ⟨q, at4, s4, hq, hq2, h8, h9⟩ := word_l0 hl (61 - r.size) r at3 s3 (by omega) (by omega) (by omega)
      refine ⟨q, at4, s4, ?_, by omega, by omega, by omega⟩
      unfold spec_l1Cur_word.f
      refine Ev.known (fun _ => e) ?_
      simp only [e1.out]
      exact Ev.bind hr (Ev.known (fun _ => e3) (Ev.neg c1 (Ev.pos c2 hq)))
    · refine ⟨r, at3, s3, ?_, by omega, by omega, by omega⟩
      unfold spec_l1Cur_word.f
      refine Ev.known (fun _ => e) ?_
      simp only [e1.out]
      exact Ev.bind hr (Ev.known (fun _ => e3) (Ev.neg c1 (Ev.neg c2 (Ev.now _))))

theorem bt_nat (s : ByteArray) (i : Nat) (h : i < s.data.toList.length) : bt s (i : Int) = ((s.data.toList[i]).toNat : Int) := by
  have h' : i < s.size := by have e : s.size = s.data.toList.length := Array.length_toList.symm; omega
  unfold bt
  rw [dif_pos (show (i : Int).toNat < s.size by simpa using h')]
  simp [ByteArray.getElem_eq_getElem_data]
theorem size_data (s : ByteArray) : s.size = s.data.toList.length := Array.length_toList.symm
theorem letter_test (c : UInt8) : ((c.toNat : Int) < 97 ∨ ((c.toNat : Int) - 97) % 256 ≥ 3) ↔ isLetter c = false := by
  have := c.toNat_lt
  unfold isLetter
  rw [decide_eq_false_iff_not]
  omega
theorem wdIs_l0 (s : ByteArray) (hs : s.size < 4611686018427387904) : ∀ (d i : Nat), i + d = s.data.toList.length → Ev (fun k => spec_wdIs.l0 k s (i : Int)) ((s.data.toList.drop i).all isLetter)
  | 0, i, hd => by
    refine Ev.succ ?_
    simp only [spec_wdIs.l0]
    exact Ev.neg (by rw [size_data]; omega) (Ev.pure (by rw [List.drop_of_length_le (by omega)]; rfl))
  | d + 1, i, hd => by
    have h1 : i < s.data.toList.length := by omega
    have ih := wdIs_l0 s hs d (i + 1) (by omega)
    have ht := letter_test s.data.toList[i]
    have hsz := size_data s
    rw [List.drop_eq_getElem_cons h1, List.all_cons]
    refine Ev.succ ?_
    simp only [spec_wdIs.l0, bt_nat s i h1, w1 (show 0 ≤ (i : Int) by omega) (show (i : Int) < 9223372036854775807 by omega)]
    refine Ev.pos (by omega) (Ev.pos (by omega) (Ev.cases (fun h => ?_) (fun h => Ev.cases (fun h' => ?_) (fun h' => ?_))))
    · rw [ht.1 (Or.inl h)]; exact Ev.now _
    · rw [ht.1 (Or.inr h')]; exact Ev.now _
    · have : isLetter s.data.toList[i] = true := by
        cases hl : isLetter s.data.toList[i]
        · exact absurd (ht.2 hl) (by omega)
        · rfl
      rw [this, Bool.true_and]; exact ih
theorem wdIs_ev (s : ByteArray) (hs : s.size < 4611686018427387904) : Ev (fun k => spec_wdIs.f k s) (s.data.toList.all isLetter) := by
  have h := wdIs_l0 s hs s.data.toList.length 0 (by omega)
  simpa [spec_wdIs.f] using h

theorem wdGood_ev (s : ByteArray) : Ev (fun k => spec_wdGood.f k s) (decide (s.size ≤ 60) && s.data.toList.all isLetter) := by
  unfold spec_wdGood.f
  refine Ev.cases (fun h => ?_) (fun h => ?_)
  · rw [decide_eq_true (show s.size ≤ 60 by omega), Bool.true_and]
    exact Ev.bind (wdIs_ev s (by omega)) (Ev.now _)
  · rw [decide_eq_false (show ¬ s.size ≤ 60 by omega), Bool.false_and]
    exact Ev.now _

/-- a text's letters -/
abbrev ch (s : ByteArray) : List UInt8 := s.data.toList
theorem ch_length (s : ByteArray) : (ch s).length = s.size := Array.length_toList
theorem ch_extract (s : ByteArray) (a b : Nat) : ch (s.extract a b) = ((ch s).drop a).take (b - a) := by
  simp [ch, ByteArray.data_extract, Array.toList_extract, List.extract_eq_take_drop]
theorem ch_drop (s : ByteArray) (a : Nat) : ch (s.extract a s.size) = (ch s).drop a := by
  rw [ch_extract, List.take_of_length_le]; simp only [List.length_drop, ch_length]; omega
theorem begins_test (a w : ByteArray) (h : w.size ≤ a.size) : ((a.extract 0 w.size).toList == w.toList) = (ch w).isPrefixOf (ch a) := by
  rw [ByteArray.toList_eq, ByteArray.toList_eq]
  change (ch (a.extract 0 w.size) == ch w) = _
  rw [ch_extract, List.drop_zero, Nat.sub_zero, ← ch_length w, Bool.eq_iff_iff, beq_iff_eq, List.isPrefixOf_iff_prefix, List.prefix_iff_eq_take]
  exact eq_comm
theorem prefix_long (a w : ByteArray) (h : ¬ w.size ≤ a.size) : (ch w).isPrefixOf (ch a) = false := by
  rw [Bool.eq_false_iff]
  intro hp
  have := (List.isPrefixOf_iff_prefix.1 hp).length_le
  rw [ch_length, ch_length] at this
  exact h this
theorem toList_ch (s : ByteArray) : s.toList = ch s := ByteArray.toList_eq s
theorem chNe (l : List ByteArray) (hne : ∀ w ∈ l, 1 ≤ w.size) : ∀ t ∈ l.map ch, t ≠ [] := fun t ht => by
  obtain ⟨w, hw, rfl⟩ := List.mem_map.1 ht
  intro e; have := hne w hw; have := ch_length w; rw [e] at this; simp at this; omega

theorem wdBegins_eq (a w : ByteArray) : spec_wdBegins.f a w = some ((ch w).isPrefixOf (ch a)) := by
  unfold spec_wdBegins.f
  by_cases h : w.size ≤ a.size
  · rw [if_pos (by omega), if_pos (by omega), begins_test a w h]
  · rw [if_neg (by omega), prefix_long a w h]

theorem hasPrefix_eq (a w : ByteArray) : strings_HasPrefix.f a w = some ((ch w).isPrefixOf (ch a)) := by
  unfold strings_HasPrefix.f stringslite_HasPrefix.f
  by_cases h : w.size ≤ a.size
  · rw [if_pos (by omega), if_pos (by omega), if_pos (by omega), begins_test a w h]; rfl
  · rw [if_neg (by omega), prefix_long a w h]; rfl

theorem bytesLess_cmp : ∀ (x y : List UInt8), Op.bytesLess x y = decide (Lib.compareBytes x y < 0)
  | [], [] => by simp [Op.bytesLess, Lib.compareBytes]
  | _ :: _, [] => by simp [Op.bytesLess, Lib.compareBytes]
  | [], _ :: _ => by simp [Op.bytesLess, Lib.compareBytes]
  | a :: x, b :: y => by
    rw [Op.bytesLess, bytesLess_cmp x y, Lib.compareBytes]
    by_cases h1 : a < b
    · simp [h1]
    · by_cases h2 : b < a
      · have : (a == b) = false := by
          rw [beq_eq_false_iff_ne]; rintro rfl; exact h1 h2
        simp [h1, h2, this]
      · have : a = b := by
          have h1' : ¬ a.toNat < b.toNat := h1
          have h2' : ¬ b.toNat < a.toNat := h2
          exact UInt8.toNat_inj.1 (by omega)
        subst this; simp [h1]
theorem bytesLess_irrefl : ∀ (x : List UInt8), Op.bytesLess x x = false
  | [] => rfl
  | a :: x => by rw [Op.bytesLess, bytesLess_irrefl x]; simp
theorem bytesLess_trans : ∀ (x y z : List UInt8), Op.bytesLess x y = true → Op.bytesLess y z = true → Op.bytesLess x z = true
  | _, [], _ => by simp [Op.bytesLess]
  | _, _ :: _, [] => by simp [Op.bytesLess]
  | [], _ :: _, _ :: _ => by simp [Op.bytesLess]
  | a :: x, b :: y, c :: z => by
    have ih := bytesLess_trans x y z
    simp only [Op.bytesLess, Bool.or_eq_true, decide_eq_true_eq, Bool.and_eq_true, beq_iff_eq]
    intro h1 h2
    rcases h1 with h1 | ⟨rfl, h1⟩
    · rcases h2 with h2 | ⟨rfl, h2⟩
      · exact Or.inl (UInt8.lt_trans h1 h2)
      · exact Or.inl h1
    · rcases h2 with h2 | ⟨rfl, h2⟩
      · exact Or.inl h2
      · exact Or.inr ⟨rfl, ih h1 h2⟩
/-- the order of words: by length, then by letters -/
def wless (a b : ByteArray) : Bool := decide (a.size < b.size) || (decide (a.size = b.size) && Op.bytesLess a.data.toList b.data.toList)
theorem wless_irrefl (a : ByteArray) : wless a a = false := by unfold wless; rw [bytesLess_irrefl]; simp
theorem wless_trans (a b c : ByteArray) (h1 : wless a b = true) (h2 : wless b c = true) : wless a c = true := by
  unfold wless at *
  simp only [Bool.or_eq_true, decide_eq_true_eq, Bool.and_eq_true] at *
  rcases h1 with h1 | ⟨h1, g1⟩ <;> rcases h2 with h2 | ⟨h2, g2⟩
  · left; omega
  · left; omega
  · left; omega
  · exact Or.inr ⟨by omega, bytesLess_trans _ _ _ g1 g2⟩
theorem wdLess_eq (a b : ByteArray) : spec_wdLess.f a b = some (wless a b) := by
  unfold spec_wdLess.f wless
  by_cases h : a.size < b.size
  · rw [if_pos (by omega)]; simp [h]
  · rw [if_neg (by omega)]
    by_cases h' : a.size = b.size
    · rw [if_pos (by omega)]; simp [h', ByteArray.toList_eq]
    · rw [if_neg (by omega)]; simp [h, h']

theorem or2 (a b : Int) : Ev (fun k => cmp_Or_int.f k [a, b]) (if a = 0 then b else a) := by
  refine ⟨3, fun k hk => ?_⟩
  obtain ⟨k, rfl⟩ : ∃ m, k = m + 3 := ⟨k - 3, by omega⟩
  by_cases ha : a = 0 <;> by_cases hb : b = 0 <;> simp [cmp_Or_int.f, cmp_Or_int.l0, rd, wrap64, ha, hb]
theorem compareWords_ev (a b : ByteArray) : ∃ c, Ev (fun k => impl_compareWords.f k a b) c ∧ wless a b = decide (c < 0) := by
  have hn : ∀ x : Int, cmp_isNaN_int.f x = some false := fun x => by simp [cmp_isNaN_int.f]
  have hc : cmp_Compare_int.f (a.size : Int) (b.size : Int) = some (if a.size < b.size then -1 else if b.size < a.size then 1 else 0) := by
    unfold cmp_Compare_int.f
    simp only [hn, Option.bind_some]
    rw [if_neg (by simp), if_neg (by simp)]
    by_cases h1 : a.size < b.size
    · rw [if_pos (by omega), if_pos h1]
    · rw [if_neg (by omega), if_neg h1]
      by_cases h2 : b.size < a.size
      · rw [if_pos (by omega), if_pos h2]
      · rw [if_neg (by omega), if_neg h2]
  refine ⟨_, Ev.known (fun _ => hc) (Ev.known (fun _ => rfl) (Ev.bind (or2 _ _) (Ev.now _))), ?_⟩
  unfold wless
  rw [bytesLess_cmp]
  by_cases h1 : a.size < b.size
  · simp [h1]
  · by_cases h2 : b.size < a.size
    · rw [if_neg h1, if_pos h2]; simp [h1, show ¬ a.size = b.size by omega]
    · rw [if_neg h1, if_neg h2]; simp [h1, show a.size = b.size by omega]

/-- how often each letter stands in a text -/
def lcOf (l : List UInt8) : List Int := [((l.count 97 : Nat) : Int), ((l.count 98 : Nat) : Int), ((l.count 99 : Nat) : Int)]
theorem letter_three (c : UInt8) (h : isLetter c = true) : c = 97 ∨ c = 98 ∨ c = 99 := by
  have h1 := letter_test c
  have h2 : ¬ ((c.toNat : Int) < 97 ∨ ((c.toNat : Int) - 97) % 256 ≥ 3) := fun q => by rw [h1.1 q] at h; cases h
  have := c.toNat_lt
  have h3 : c.toNat = 97 ∨ c.toNat = 98 ∨ c.toNat = 99 := by omega
  rcases h3 with e | e | e
  · exact Or.inl (UInt8.toNat_inj.1 e)
  · exact Or.inr (Or.inl (UInt8.toNat_inj.1 e))
  · exact Or.inr (Or.inr (UInt8.toNat_inj.1 e))
theorem wdLetters_l0 (s : ByteArray) (hs : s.size ≤ 60) (ha : s.data.toList.all isLetter = true) : ∀ (d i : Nat), i + d = s.data.toList.length → Ev (fun k => spec_wdLetters.l0 k s (lcOf (s.data.toList.take i)) (i : Int)) (lcOf s.data.toList)
  | 0, i, hd => by
    refine Ev.succ ?_
    simp only [spec_wdLetters.l0]
    exact Ev.neg (by rw [size_data]; omega) (Ev.pure (by rw [List.take_of_length_le (by omega)]))
  | d + 1, i, hd => by
    have h1 : i < s.data.toList.length := by omega
    have hsz := size_data s
    have ih := wdLetters_l0 s hs ha d (i + 1) (by omega)
    have hc : isLetter s.data.toList[i] = true := List.all_eq_true.1 ha _ (List.getElem_mem h1)
    have hb := bt_nat s i h1
    have ht : s.data.toList.take (i + 1) = s.data.toList.take i ++ [s.data.toList[i]] := List.take_succ_eq_append_getElem h1
    have hn : ∀ c : UInt8, (s.data.toList.take i).count c ≤ 60 := fun c => Nat.le_trans List.count_le_length (by rw [List.length_take]; omega)
    have n1 := hn 97
    have n2 := hn 98
    have n3 := hn 99
    rw [ht] at ih
    refine Ev.succ ?_
    simp only [spec_wdLetters.l0, w1 (show 0 ≤ (i : Int) by omega) (show (i : Int) < 9223372036854775807 by omega)]
    refine Ev.pos (by omega) (Ev.pos (by omega) ?_)
    rcases letter_three _ hc with e | e | e
    · rw [e] at hb ih
      have e1 : Aside0 ((bt s (i : Int) - 97) % 256 = 0) := ⟨by rw [hb]; rfl⟩
      rw [e1.out]
      have e2 : Aside0 (wrap64 (rd (lcOf (s.data.toList.take i)) 0 + 1) = (((s.data.toList.take i).count 97 + 1 : Nat) : Int)) := ⟨by
        show wrap64 ((((s.data.toList.take i).count 97 : Nat) : Int) + 1) = _
        rw [w64 (by omega) (by omega)]; omega⟩
      rw [e2.out]
      refine Ev.pos (by omega) (Ev.pos (by simp [lcOf]) ?_)
      simpa [lcOf, List.count_append, List.count_cons] using ih
    · rw [e] at hb ih
      have e1 : Aside0 ((bt s (i : Int) - 97) % 256 = 1) := ⟨by rw [hb]; rfl⟩
      rw [e1.out]
      have e2 : Aside0 (wrap64 (rd (lcOf (s.data.toList.take i)) 1 + 1) = (((s.data.toList.take i).count 98 + 1 : Nat) : Int)) := ⟨by
        show wrap64 ((((s.data.toList.take i).count 98 : Nat) : Int) + 1) = _
        rw [w64 (by omega) (by omega)]; omega⟩
      rw [e2.out]
      refine Ev.pos (by omega) (Ev.pos (by simp [lcOf]) ?_)
      simpa [lcOf, List.count_append, List.count_cons] using ih
    · rw [e] at hb ih
      have e1 : Aside0 ((bt s (i : Int) - 97) % 256 = 2) := ⟨by rw [hb]; rfl⟩
      rw [e1.out]
      have e2 : Aside0 (wrap64 (rd (lcOf (s.data.toList.take i)) 2 + 1) = (((s.data.toList.take i).count 99 + 1 : Nat) : Int)) := ⟨by
        show wrap64 ((((s.data.toList.take i).count 99 : Nat) : Int) + 1) = _
        rw [w64 (by omega) (by omega)]; omega⟩
      rw [e2.out]
      refine Ev.pos (by omega) (Ev.pos (by simp [lcOf]) ?_)
      simpa [lcOf, List.count_append, List.count_cons] using ih
theorem wdLetters_ev (s : ByteArray) (hs : s.size ≤ 60) (ha : s.data.toList.all isLetter = true) : Ev (fun k => spec_wdLetters.f k s) (lcOf s.data.toList) := by
  unfold spec_wdLetters.f
  exact Ev.pos (by omega) (wdLetters_l0 s hs ha s.data.toList.length 0 (by omega))
theorem lettersOf_ev (s : ByteArray) : Ev (fun k => impl_lettersOf.f k s) (lcOf s.data.toList) := by
  have e1 : wrap64 (0 + 1) = 1 := by rw [w64 (by omega) (by omega)]; rfl
  have e2 : wrap64 (1 + 1) = 2 := by rw [w64 (by omega) (by omega)]; rfl
  have e3 : wrap64 (2 + 1) = 3 := by rw [w64 (by omega) (by omega)]; rfl
  unfold impl_lettersOf.f
  refine Ev.succ ?_
  simp only [impl_lettersOf.l0, e1]
  refine Ev.pos (by decide) (Ev.pos (by decide) (Ev.pos (by decide) (Ev.pos (by decide) (Ev.known (a := ((s.data.toList.count 97 : Nat) : Int)) (fun _ => rfl) (Ev.pos (by simp) ?_)))))
  refine Ev.succ ?_
  simp only [impl_lettersOf.l0, e2]
  refine Ev.pos (by decide) (Ev.pos (by decide) (Ev.pos (by decide) (Ev.pos (by decide) (Ev.known (a := ((s.data.toList.count 98 : Nat) : Int)) (fun _ => rfl) (Ev.pos (by simp) ?_)))))
  refine Ev.succ ?_
  simp only [impl_lettersOf.l0, e3]
  refine Ev.pos (by decide) (Ev.pos (by decide) (Ev.pos (by decide) (Ev.pos (by decide) (Ev.known (a := ((s.data.toList.count 99 : Nat) : Int)) (fun _ => rfl) (Ev.pos (by simp) ?_)))))
  refine Ev.succ ?_
  simp only [impl_lettersOf.l0]
  exact Ev.neg (by decide) (Ev.now _)

theorem pair_j0 {l : List Int} (hl : OkL l) (s : ByteArray) (hs : s.size ≤ 61) (b : Bool) (hb : b = true → 1 ≤ s.size) (at0 sd : Int) (h0 : 0 ≤ at0) (h1 : at0 ≤ 100000) : ∃ r at' sd', Ev (fun k => spec_l1Cur_pair.j0 k s b l at0 sd) r ∧ r = (r.1, r.2.1, at', sd') ∧ r.1.size ≤ 61 ∧ r.2.1.size ≤ 61 := by
  cases b with
  | true =>
    have hb1 := hb rfl
    obtain ⟨x, at1, s1, e1, hx, hx2, h2, h3⟩ := pick_ev hl at0 sd (s.size : Int) h0 (by omega)
    have hx3 := hx2 (by omega)
    obtain ⟨y, at2, s2, e2, -, -, h4, h5⟩ := pick_ev hl at1 s1 3 (by omega) (by omega)
    have e3 : Aside0 (wrap64 (x + 1) = x + 1) := ⟨w64 (by omega) (by omega)⟩
    have hsz : ∀ a b, (s.extract a b).size ≤ 61 := fun a b => by rw [ByteArray.size_extract]; omega
    by_cases c1 : y = 0
    · refine ⟨(s, s.extract 0 x.toNat, at2, s2), at2, s2, Ev.succ ?_, rfl, hs, hsz _ _⟩
      simp only [spec_l1Cur_pair.j0]
      exact Ev.pos trivial (Ev.known (fun _ => e1) (Ev.known (fun _ => e2) (Ev.pos c1 (Ev.pos (by simpa using hx) (Ev.pos (by simp only; omega) (Ev.now _))))))
    · by_cases c2 : y = 1
      · refine ⟨(s, s.extract x.toNat s.size, at2, s2), at2, s2, Ev.succ ?_, rfl, hs, hsz _ _⟩
        simp only [spec_l1Cur_pair.j0]
        exact Ev.pos trivial (Ev.known (fun _ => e1) (Ev.known (fun _ => e2) (Ev.neg c1 (Ev.pos c2 (Ev.pos (by simpa using hx) (Ev.pos (by simp only; omega) (Ev.now _)))))))
      · refine ⟨(s, s.extract x.toNat (x + 1).toNat, at2, s2), at2, s2, Ev.succ ?_, rfl, hs, hsz _ _⟩
        simp only [spec_l1Cur_pair.j0]
        refine Ev.pos trivial (Ev.known (fun _ => e1) (Ev.known (fun _ => e2) ?_))
        simp only [e3.out]
        exact Ev.neg c1 (Ev.neg c2 (Ev.pos (by omega) (Ev.pos (by omega) (Ev.pos (by omega) (Ev.now _)))))
  | false =>
    obtain ⟨t, at1, s1, ht, ht2, h2, h3⟩ := word_ev hl at0 sd 3 (by omega) (by omega) h0 (by omega)
    refine ⟨(s, t, at1, s1), at1, s1, Ev.succ ?_, rfl, hs, ht2⟩
    simp only [spec_l1Cur_pair.j0]
    exact Ev.neg (by simp) (Ev.bind ht (Ev.now _))
theorem drawBegins_ev {l : List Int} (hl : OkL l) : ∃ s t, Ev (fun k => spec_DrawBegins.f k l) (s, t) ∧ s.size ≤ 61 ∧ t.size ≤ 61 := by
  obtain ⟨s, at1, s1, hs, hs2, h2, h3⟩ := word_ev hl 0 0 12 (by omega) (by omega) (by omega) (by omega)
  unfold spec_DrawBegins.f spec_l1Cur_pair.f
  by_cases c : (s.size : Int) > 0
  · obtain ⟨b, at2, s2, e2, h4, h5⟩ := one_ev hl at1 s1 2 (by omega) (by omega)
    obtain ⟨r, at3, s3, hr, he, g1, g2⟩ := pair_j0 hl s hs2 b (fun _ => by omega) at2 s2 (by omega) (by omega)
    exact ⟨r.1, r.2.1, Ev.bind (Ev.bind hs (Ev.pos c (Ev.known (fun _ => e2) hr))) (Ev.now _), g1, g2⟩
  · obtain ⟨r, at3, s3, hr, he, g1, g2⟩ := pair_j0 hl s hs2 false (fun h => by cases h) at1 s1 (by omega) (by omega)
    exact ⟨r.1, r.2.1, Ev.bind (Ev.bind hs (Ev.neg c hr)) (Ev.now _), g1, g2⟩
theorem drawBorders_ev {l : List Int} (hl : OkL l) : ∃ s, Ev (fun k => spec_DrawBordersOf.f k l) s := by
  obtain ⟨s, at1, s1, hs, hs2, h2, h3⟩ := word_ev hl 0 0 8 (by omega) (by omega) (by omega) (by omega)
  obtain ⟨b, at2, s2, e2, h4, h5⟩ := one_ev hl at1 s1 2 (by omega) (by omega)
  unfold spec_DrawBordersOf.f
  cases b with
  | true => exact ⟨s ++ s, Ev.bind hs (Ev.known (fun _ => e2) (Ev.pos rfl (Ev.pos (by simp only; omega) (Ev.now _))))⟩
  | false => exact ⟨s, Ev.bind hs (Ev.known (fun _ => e2) (Ev.neg (by simp) (Ev.now _)))⟩
theorem drawConcat_l0 {l : List Int} (hl : OkL l) : ∀ (d : Nat) (ws : List ByteArray) (at0 sd : Int), ws.length + d ≤ 1000 → (∀ s ∈ ws, s.size ≤ 61) → 0 ≤ at0 → at0 + 100 * (d : Int) ≤ 1000000 → ∃ r, Ev (fun k => spec_DrawConcat.l0 k ws (d : Int) l at0 sd) r ∧ (∀ s ∈ r, s.size ≤ 61) ∧ r.length ≤ 1001
  | 0, ws, at0, sd, hn, hs, h0, h1 => by
    obtain ⟨b, at1, s1, e1, h2, h3⟩ := one_ev hl at0 sd 12 (by omega) (by omega)
    cases b with
    | false =>
      refine ⟨ws, Ev.succ ?_, hs, by omega⟩
      simp only [spec_DrawConcat.l0]
      exact Ev.neg (by omega) (Ev.known (fun _ => e1) (Ev.neg (by simp) (Ev.now _)))
    | true =>
      obtain ⟨t, at2, s2, ht, ht2, h4, h5⟩ := word_ev hl at1 s1 30 (by omega) (by omega) (by omega) (by omega)
      refine ⟨ws ++ [t], Ev.succ ?_, fun s h => ?_, by simp; omega⟩
      · simp only [spec_DrawConcat.l0]
        exact Ev.neg (by omega) (Ev.known (fun _ => e1) (Ev.pos rfl (Ev.bind ht (Ev.pos (by omega) (Ev.now _)))))
      · rcases List.mem_append.1 h with h | h
        · exact hs s h
        · rw [List.mem_singleton.1 h]; exact ht2
  | d + 1, ws, at0, sd, hn, hs, h0, h1 => by
    obtain ⟨t, at2, s2, ht, ht2, h4, h5⟩ := sureWord_ev hl at0 sd 3 3 (by omega) (by omega) (by omega) (by omega) h0 (by omega)
    have e2 : Aside0 (wrap64 (((d + 1 : Nat) : Int) - 1) = (d : Int)) := ⟨by rw [w64 (by omega) (by omega)]; omega⟩
    obtain ⟨r, hr, hr2, hr3⟩ := drawConcat_l0 hl d (ws ++ [t]) at2 s2 (by simp; omega) (fun s h => by
      rcases List.mem_append.1 h with h | h
      · exact hs s h
      · rw [List.mem_singleton.1 h]; omega) (by omega) (by omega)
    refine ⟨r, Ev.succ ?_, hr2, hr3⟩
    simp only [spec_DrawConcat.l0, e2.out]
    exact Ev.pos (by omega) (Ev.bind ht (Ev.pos (by omega) hr))
theorem drawConcat_ev {l : List Int} (hl : OkL l) : ∃ r, Ev (fun k => spec_DrawConcat.f k l) r ∧ (∀ s ∈ r, s.size ≤ 61) ∧ r.length ≤ 1001 := by
  obtain ⟨x, at1, s1, e, hx, hx2, h2, h3⟩ := pick_ev hl 0 0 7 (by omega) (by omega)
  have hx3 := hx2 (by omega)
  obtain ⟨n, hn, hn2⟩ : ∃ n : Nat, rd [0, 1, 3, 8, 20, 60, 61] x = (n : Int) ∧ n ≤ 61 := by
    obtain ⟨i, rfl⟩ : ∃ i : Nat, x = (i : Int) := ⟨x.toNat, by omega⟩
    have : i = 0 ∨ i = 1 ∨ i = 2 ∨ i = 3 ∨ i = 4 ∨ i = 5 ∨ i = 6 := by omega
    rcases this with rfl | rfl | rfl | rfl | rfl | rfl | rfl
    · exact ⟨0, rfl, by omega⟩
    · exact ⟨1, rfl, by omega⟩
    · exact ⟨3, rfl, by omega⟩
    · exact ⟨8, rfl, by omega⟩
    · exact ⟨20, rfl, by omega⟩
    · exact ⟨60, rfl, by omega⟩
    · exact ⟨61, rfl, by omega⟩
  obtain ⟨r, hr, hr2, hr3⟩ := drawConcat_l0 hl n [] at1 s1 (by simp; omega) (by simp) (by omega) (by omega)
  have ea : spec_l1Cur_among.f l 0 0 [0, 1, 3, 8, 20, 60, 61] = some ((n : Int), at1, s1) := by
    unfold spec_l1Cur_among.f
    rw [show ((([0, 1, 3, 8, 20, 60, 61] : List Int).length : Nat) : Int) = 7 from rfl, e]
    simp only [Option.bind_some]
    rw [if_pos hx, if_pos (by omega), hn]
  unfold spec_DrawConcat.f
  exact ⟨r, Ev.known (fun _ => ea) hr, hr2, hr3⟩
/-- a word -/
def good (s : ByteArray) : Bool := decide (s.size ≤ 60) && s.data.toList.all isLetter
theorem isWord_eq (s : ByteArray) : impl_isWord.f s = some (good s) := rfl
theorem good_ev (s : ByteArray) : Ev (fun k => spec_wdGood.f k s) (good s) := wdGood_ev s
theorem good_size {s : ByteArray} (h : good s = true) : s.size ≤ 60 := by unfold good at h; simp only [Bool.and_eq_true, decide_eq_true_eq] at h; exact h.1
theorem good_all {s : ByteArray} (h : good s = true) : s.data.toList.all isLetter = true := by unfold good at h; simp only [Bool.and_eq_true, decide_eq_true_eq] at h; exact h.2
def pfx (s t : ByteArray) : Bool := (ch t).isPrefixOf (ch s)
/-- whether a word is another one's end -/
def sfx (s t : ByteArray) : Bool := decide (t.size ≤ s.size) && ((ch s).drop (s.size - t.size) == ch t)
theorem sfx_core (s t : ByteArray) (h : t.size ≤ s.size) (hs : s.size ≤ 1000000) : (if 0 ≤ wrap64 ((s.size : Int) - (t.size : Int)) then (if wrap64 ((s.size : Int) - (t.size : Int)) ≤ (s.size : Int) then some ((s.extract (wrap64 ((s.size : Int) - (t.size : Int))).toNat s.size).toList == t.toList) else none) else none) = some (sfx s t) := by
  have e : wrap64 ((s.size : Int) - (t.size : Int)) = ((s.size - t.size : Nat) : Int) := by rw [w64 (by omega) (by omega)]; omega
  rw [e, if_pos (by omega), if_pos (by omega), toList_ch, toList_ch, Int.toNat_natCast, ch_drop]
  unfold sfx
  rw [decide_eq_true h, Bool.true_and]
theorem wdEnds_eq (s t : ByteArray) (hs : s.size ≤ 1000000) : spec_wdEnds.f s t = some (sfx s t) := by
  unfold spec_wdEnds.f
  by_cases h : t.size ≤ s.size
  · rw [if_pos (by omega)]; exact sfx_core s t h hs
  · rw [if_neg (by omega)]; unfold sfx; rw [decide_eq_false h]; rfl
theorem hasSuffix_eq (s t : ByteArray) (hs : s.size ≤ 1000000) : strings_HasSuffix.f s t = some (sfx s t) := by
  unfold strings_HasSuffix.f stringslite_HasSuffix.f
  by_cases h : t.size ≤ s.size
  · rw [if_pos (by omega), sfx_core s t h hs]; rfl
  · rw [if_neg (by omega)]; unfold sfx; rw [decide_eq_false h]; rfl
/-- at how many places a word is -/
def hits (t : List UInt8) : List UInt8 → Nat
  | [] => 0
  | c :: x => (if t.isPrefixOf (c :: x) = true then 1 else 0) + hits t x
theorem hits_le (t : List UInt8) : ∀ x : List UInt8, hits t x ≤ x.length
  | [] => Nat.le_refl _
  | c :: x => by have := hits_le t x; unfold hits; simp only [List.length_cons]; split <;> omega
theorem hits_drop (t : List UInt8) : ∀ (x : List UInt8) (i : Nat), hits t (x.drop i) ≤ hits t x
  | [], i => by simp
  | c :: x, 0 => Nat.le_refl _
  | c :: x, i + 1 => by
    have := hits_drop t x i
    simp only [List.drop_succ_cons]
    rw [show hits t (c :: x) = (if t.isPrefixOf (c :: x) = true then 1 else 0) + hits t x from rfl]
    omega
theorem hits_pos (t x : List UInt8) (hx : x ≠ []) (h : t.isPrefixOf x = true) : 1 ≤ hits t x := by
  cases x with
  | nil => exact absurd rfl hx
  | cons c x => unfold hits; rw [if_pos h]; omega
theorem spec_count_l0 (s t : ByteArray) (hs : s.size ≤ 60) : ∀ (d i n : Nat), i + d = s.size → n ≤ i → Ev (fun k => spec_CountIn.l0 k s t i (n : Int)) (((n + hits (ch t) ((ch s).drop i) : Nat) : Int))
  | 0, i, n, hd, hn => Ev.succ (by simp only [spec_CountIn.l0]; exact Ev.neg (by omega) (Ev.pure (by rw [List.drop_of_length_le (by rw [ch_length]; omega)]; simp [hits])))
  | d + 1, i, n, hd, hn => by
    have h1 : i < (ch s).length := by rw [ch_length]; omega
    have ih := fun n hn => spec_count_l0 s t hs d (i + 1) n (by omega) hn
    have e1 : Aside0 (wrap64 ((n : Int) + 1) = ((n + 1 : Nat) : Int)) := ⟨by rw [w64 (by omega) (by omega)]; omega⟩
    have hw := wdBegins_eq (s.extract i s.size) t
    rw [ch_drop] at hw
    have hst : Aside0 (hits (ch t) ((ch s).drop i) = (if (ch t).isPrefixOf ((ch s).drop i) = true then 1 else 0) + hits (ch t) ((ch s).drop (i + 1))) := ⟨by rw [List.drop_eq_getElem_cons h1]; rfl⟩
    rw [hst.out]
    refine Ev.succ ?_
    simp only [spec_CountIn.l0]
    refine Ev.pos (by omega) (Ev.known (fun _ => hw) ?_)
    cases hp : (ch t).isPrefixOf ((ch s).drop i)
    · simpa using ih n (by omega)
    · rw [if_pos rfl, if_pos rfl, e1.out, show n + (1 + hits (ch t) ((ch s).drop (i + 1))) = n + 1 + hits (ch t) ((ch s).drop (i + 1)) by omega]
      exact ih (n + 1) (by omega)
theorem impl_count_l0 (s t : ByteArray) (hs : s.size ≤ 60) : ∀ (d i n : Nat), i + d = s.size → n ≤ i → Ev (fun k => impl_countIn.l0 k s t (n : Int) (s.size : Int) (i : Int)) (((n + hits (ch t) ((ch s).drop i) : Nat) : Int))
  | 0, i, n, hd, hn => Ev.succ (by simp only [impl_countIn.l0]; exact Ev.neg (by omega) (Ev.pure (by rw [List.drop_of_length_le (by rw [ch_length]; omega)]; simp [hits])))
  | d + 1, i, n, hd, hn => by
    have h1 : i < (ch s).length := by rw [ch_length]; omega
    have ih := fun n hn => impl_count_l0 s t hs d (i + 1) n (by omega) hn
    have e1 : Aside0 (wrap64 ((n : Int) + 1) = ((n + 1 : Nat) : Int)) := ⟨by rw [w64 (by omega) (by omega)]; omega⟩
    have hw := hasPrefix_eq (s.extract i s.size) t
    rw [ch_drop] at hw
    have hst : Aside0 (hits (ch t) ((ch s).drop i) = (if (ch t).isPrefixOf ((ch s).drop i) = true then 1 else 0) + hits (ch t) ((ch s).drop (i + 1))) := ⟨by rw [List.drop_eq_getElem_cons h1]; rfl⟩
    rw [hst.out]
    refine Ev.succ ?_
    simp only [impl_countIn.l0, Int.toNat_natCast, w1 (show 0 ≤ (i : Int) by omega) (show (i : Int) < 9223372036854775807 by omega)]
    refine Ev.pos (by omega) (Ev.pos (by omega) (Ev.pos (by omega) (Ev.known (fun _ => hw) ?_)))
    cases hp : (ch t).isPrefixOf ((ch s).drop i)
    · simpa using ih n (by omega)
    · rw [if_pos rfl, e1.out, show n + (1 + hits (ch t) ((ch s).drop (i + 1))) = n + 1 + hits (ch t) ((ch s).drop (i + 1)) by omega]
      exact Ev.pos rfl (ih (n + 1) (by omega))
def both (s t : ByteArray) : Bool := good s && good t
theorem two_ways {α : Type} (g : ByteArray → Nat → Option Bool) (hg : ∀ s, Ev (fun k => g s k) (good s)) (s t : ByteArray) (A : Nat → Option α) (z r : α) (h : both s t = true → Ev A r) : Ev (fun k => (g s k).bind fun b1 => if b1 = true then ((g t k).bind fun b2 => if b2 = true then A k else some z) else some z) (if both s t = true then r else z) := by
  refine Ev.bind (hg s) ?_
  cases h1 : good s
  · rw [if_neg (show ¬ both s t = true by unfold both; rw [h1]; simp)]
    exact Ev.neg (by simp) (Ev.now _)
  · refine Ev.pos rfl (Ev.bind (hg t) ?_)
    cases h2 : good t
    · rw [if_neg (show ¬ both s t = true by unfold both; rw [h2]; simp)]
      exact Ev.neg (by simp) (Ev.now _)
    · have hb : both s t = true := by unfold both; rw [h1, h2]; rfl
      rw [if_pos hb]
      exact Ev.pos rfl (h hb)
def bgR (s t : ByteArray) : Bool × Bool := if both s t = true then (pfx s t, true) else (false, false)
def enR (s t : ByteArray) : Bool × Bool := if both s t = true then (sfx s t, true) else (false, false)
def leR (s t : ByteArray) : Bool × Bool := if both s t = true then (wless s t, true) else (false, false)
def coR (s t : ByteArray) : Int × Bool := if both s t = true then (if ch t = [] then (0, false) else (((hits (ch t) (ch s) : Nat) : Int), true)) else (0, false)
theorem both_l {s t : ByteArray} (h : both s t = true) : good s = true := by unfold both at h; simp only [Bool.and_eq_true] at h; exact h.1
theorem both_r {s t : ByteArray} (h : both s t = true) : good t = true := by unfold both at h; simp only [Bool.and_eq_true] at h; exact h.2
theorem ib_ev (s t : ByteArray) : Ev (fun _ => impl_Begins.f s t) (bgR s t) := by
  unfold impl_Begins.f
  exact two_ways (fun s _ => impl_isWord.f s) (fun s => Ev.now _) s t _ _ _ fun h => Ev.known (fun _ => hasPrefix_eq s t) (Ev.now _)
theorem sb_ev (s t : ByteArray) : Ev (fun k => spec_Begins.f k s t) (bgR s t) := by
  unfold spec_Begins.f
  exact two_ways (fun s k => spec_wdGood.f k s) good_ev s t _ _ _ fun h => Ev.known (fun _ => wdBegins_eq s t) (Ev.now _)
theorem ie_ev (s t : ByteArray) : Ev (fun _ => impl_Ends.f s t) (enR s t) := by
  unfold impl_Ends.f
  exact two_ways (fun s _ => impl_isWord.f s) (fun s => Ev.now _) s t _ _ _ fun h => Ev.known (fun _ => hasSuffix_eq s t (Nat.le_trans (good_size (both_l h)) (by omega))) (Ev.now _)
theorem se_ev (s t : ByteArray) : Ev (fun k => spec_Ends.f k s t) (enR s t) := by
  unfold spec_Ends.f
  exact two_ways (fun s k => spec_wdGood.f k s) good_ev s t _ _ _ fun h => Ev.known (fun _ => wdEnds_eq s t (Nat.le_trans (good_size (both_l h)) (by omega))) (Ev.now _)
theorem il_ev (s t : ByteArray) : Ev (fun k => impl_LessWord.f k s t) (leR s t) := by
  unfold impl_LessWord.f
  obtain ⟨c, hc, hw⟩ := compareWords_ev s t
  exact two_ways (fun s _ => impl_isWord.f s) (fun s => Ev.now _) s t _ _ _ fun h => Ev.bind hc (Ev.pure (by rw [hw]))
theorem sl_ev (s t : ByteArray) : Ev (fun k => spec_LessWord.f k s t) (leR s t) := by
  unfold spec_LessWord.f
  exact two_ways (fun s k => spec_wdGood.f k s) good_ev s t _ _ _ fun h => Ev.known (fun _ => wdLess_eq s t) (Ev.now _)
theorem ic_ev (s t : ByteArray) : Ev (fun k => impl_CountIn.f k s t) (coR s t) := by
  unfold impl_CountIn.f
  refine two_ways (fun s _ => impl_isWord.f s) (fun s => Ev.now _) s t _ _ _ fun h => ?_
  by_cases c : ch t = []
  · rw [if_pos c]; exact Ev.pos (by rw [toList_ch]; exact c) (Ev.now _)
  · rw [if_neg c]
    refine Ev.neg (by rw [toList_ch]; exact c) (Ev.bind ?_ (Ev.now _))
    have := impl_count_l0 s t (good_size (both_l h)) s.size 0 0 (by omega) (by omega)
    simpa [impl_countIn.f] using this
theorem good_ascii {s : ByteArray} (h : good s = true) : s.data.toList.all (fun c => decide (c.toNat < 128)) = true := by
  have h1 := List.all_eq_true.1 (good_all h)
  refine List.all_eq_true.2 fun c hc => ?_
  have h2 := h1 c hc
  unfold isLetter at h2
  have h3 := of_decide_eq_true h2
  exact decide_eq_true (by omega)
theorem sc_ev (s t : ByteArray) : Ev (fun k => spec_CountIn.f k s t) (coR s t) := by
  unfold spec_CountIn.f
  refine two_ways (fun s k => spec_wdGood.f k s) good_ev s t _ _ _ fun h => ?_
  by_cases c : ch t = []
  · rw [if_pos c]; exact Ev.pos (by rw [toList_ch]; exact c) (Ev.now _)
  · rw [if_neg c]
    refine Ev.neg (by rw [toList_ch]; exact c) (Ev.pos (good_ascii (both_l h)) (Ev.bind ?_ (Ev.now _)))
    have := spec_count_l0 s t (good_size (both_l h)) s.size 0 0 (by omega) (by omega)
    simpa using this
theorem bytesLess_total : ∀ x y : List UInt8, x.length = y.length → Op.bytesLess x y = false → Op.bytesLess y x = false → x = y
  | [], [], _, _, _ => rfl
  | a :: x, [], h, _, _ => by simp at h
  | [], b :: y, h, _, _ => by simp at h
  | a :: x, b :: y, h, h1, h2 => by
    simp only [Op.bytesLess, Bool.or_eq_false_iff, decide_eq_false_iff_not, Bool.and_eq_false_imp, beq_iff_eq] at h1 h2
    have e : a = b := by
      have h3 : ¬ a.toNat < b.toNat := h1.1
      have h4 : ¬ b.toNat < a.toNat := h2.1
      exact UInt8.toNat_inj.1 (by omega)
    subst e
    rw [bytesLess_total x y (by simpa using h) (h1.2 rfl) (h2.2 rfl)]
theorem wless_total (s t : ByteArray) (h1 : wless s t = false) (h2 : wless t s = false) : ch s = ch t := by
  unfold wless at h1 h2
  simp only [Bool.or_eq_false_iff, decide_eq_false_iff_not, Bool.and_eq_false_imp, decide_eq_true_eq] at h1 h2
  have hs : s.size = t.size := by omega
  exact bytesLess_total _ _ (by rw [← size_data, ← size_data]; exact hs) (h1.2 hs) (h2.2 hs.symm)
theorem yBegins_eq (s t : ByteArray) : laws_yBegins.f s t = some (pfx s t) := by
  have h := wdBegins_eq s t
  unfold spec_wdBegins.f at h
  unfold laws_yBegins.f pfx
  exact h
theorem ySame_l0 (l : List Int) (hl : l.length ≤ 1048576) : ∀ (d i : Nat), i + d = l.length → Ev (fun k => laws_ySame.l0 k l l (l.length : Int) (i : Int)) true
  | 0, i, hd => Ev.step (f := fun _ => some true) (fun k => by simp only [laws_ySame.l0]; rw [if_neg (by omega)]) (Ev.now _)
  | d + 1, i, hd => by
    refine Ev.step (f := fun k => laws_ySame.l0 k l l (l.length : Int) ((i + 1 : Nat) : Int)) (fun k => ?_) (ySame_l0 l hl d (i + 1) (by omega))
    simp only [laws_ySame.l0]; rw [if_pos (by omega), if_pos (by omega), if_pos (by omega), if_pos (by omega), if_pos trivial, w1 (by omega) (by omega)]; simp
theorem ySame_ev (l : List Int) (hl : l.length ≤ 1048576) : Ev (fun k => laws_ySame.f k l l) true := by
  unfold laws_ySame.f
  exact Ev.pos rfl (by simpa using ySame_l0 l hl l.length 0 (by omega))
/-- the concatenation -/
def cat (acc : ByteArray) (ws : List ByteArray) : ByteArray := ws.foldl (· ++ ·) acc
def tot (ws : List ByteArray) : Nat := (ws.map ByteArray.size).sum
theorem cat_ch : ∀ (ws : List ByteArray) (acc : ByteArray), ch (cat acc ws) = ch acc ++ (ws.map ch).flatten
  | [], acc => by simp [cat]
  | w :: ws, acc => by
    have := cat_ch ws (acc ++ w)
    unfold cat at this ⊢
    rw [List.foldl_cons, this]
    simp [ch, ByteArray.data_append]
theorem cat_size (ws : List ByteArray) (acc : ByteArray) : (cat acc ws).size = acc.size + tot ws := by
  rw [← ch_length, cat_ch, List.length_append, ch_length, List.length_flatten, List.map_map]
  congr 2
theorem joinB_cat (ws : List ByteArray) : joinB ws ⟨#[]⟩ = cat ⟨#[]⟩ ws := by
  have h : ch (joinB ws ⟨#[]⟩) = ch (cat ⟨#[]⟩ ws) := by
    rw [cat_ch]
    show ((Lib.join (ws.map (·.data.toList)) (⟨#[]⟩ : ByteArray).data.toList).toArray).toList = _
    rw [List.toList_toArray]
    show (([] : List UInt8).intercalate (ws.map ch)) = [] ++ _
    rw [List.nil_append]
    generalize ws.map ch = xs
    induction xs with
    | nil => rfl
    | cons x xs ih =>
      cases xs with
      | nil => simp [List.intercalate]
      | cons y ys =>
        have h9 : ([] : List UInt8).intercalate (x :: y :: ys) = x ++ ([] ++ ([] : List UInt8).intercalate (y :: ys)) := by simp [List.intercalate]
        rw [h9, ih]; simp
  exact ByteArray.ext (Array.toList_inj.1 h)
def allGood (ws : List ByteArray) : Bool := ws.all good
theorem tot_app (a b : List ByteArray) : tot (a ++ b) = tot a + tot b := by simp only [tot, List.map_append, List.sum_append]
theorem tot_one (a : ByteArray) : tot [a] = a.size := by simp [tot]
def catR (acc : ByteArray) (ws : List ByteArray) : ByteArray × Bool := if allGood ws = true ∧ acc.size + tot ws ≤ 60 then (cat acc ws, true) else (⟨#[]⟩, false)
theorem tot_le : ∀ ws : List ByteArray, allGood ws = true → tot ws ≤ 60 * ws.length
  | [], _ => by simp [tot]
  | w :: ws, h => by
    unfold allGood at h
    rw [List.all_cons, Bool.and_eq_true] at h
    have := tot_le ws h.2
    have := good_size h.1
    unfold tot at *
    simp only [List.map_cons, List.sum_cons, List.length_cons]
    omega
theorem spec_cat_l0 (ws : List ByteArray) (hn : ws.length ≤ 60) : ∀ (d i : Nat) (acc : ByteArray), i + d = ws.length → acc.size ≤ 60 → Ev (fun k => spec_Concat.l0 k acc ws (ws.length : Int) (i : Int)) (catR acc (ws.drop i))
  | 0, i, acc, hd, ha => Ev.succ (by
      simp only [spec_Concat.l0]
      refine Ev.neg (by omega) (Ev.pure ?_)
      rw [List.drop_of_length_le (by omega)]
      unfold catR
      rw [if_pos ⟨rfl, by simpa [tot] using ha⟩]; rfl)
  | d + 1, i, acc, hd, ha => by
    have h1 : i < ws.length := by omega
    have ih := fun acc ha => spec_cat_l0 ws hn d (i + 1) acc (by omega) ha
    have hc := List.drop_eq_getElem_cons h1
    rw [hc]
    generalize hW : ws.drop (i + 1) = rest at ih
    refine Ev.succ ?_
    simp only [spec_Concat.l0, rdOf_nat ws i h1, w1 (show 0 ≤ (i : Int) by omega) (show (i : Int) < 9223372036854775807 by omega)]
    refine Ev.pos (by omega) (Ev.pos (by omega) (Ev.pos (by omega) (Ev.bind (good_ev ws[i]) ?_)))
    cases hg : good ws[i]
    · refine Ev.neg (by simp) (Ev.pure ?_)
      unfold catR
      rw [if_neg (by rintro ⟨h, -⟩; unfold allGood at h; rw [List.all_cons, hg] at h; cases h)]
    · have hs := good_size hg
      have e1 : Aside0 (wrap64 ((acc.size : Int) + (ws[i].size : Int)) = (acc.size : Int) + (ws[i].size : Int)) := ⟨w64 (by omega) (by omega)⟩
      refine Ev.pos rfl ?_
      rw [e1.out]
      have ht : tot (ws[i] :: rest) = ws[i].size + tot rest := by simp [tot]
      by_cases c : (acc.size : Int) + (ws[i].size : Int) > 60
      · refine Ev.pos c (Ev.pure ?_)
        unfold catR
        rw [if_neg (by rintro ⟨-, h⟩; omega)]
      · refine Ev.neg c (Ev.pos (by omega) ?_)
        have h2 := ih (acc ++ ws[i]) (by rw [ByteArray.size_append]; omega)
        have e2 : catR acc (ws[i] :: rest) = catR (acc ++ ws[i]) rest := by
          unfold catR
          rw [ht, ByteArray.size_append, show allGood (ws[i] :: rest) = allGood rest by unfold allGood; rw [List.all_cons, hg]; rfl, ← Nat.add_assoc]
          rfl
        rw [e2]
        exact h2
def catO (ws : List ByteArray) : ByteArray × Bool := if ws.length > 60 then (⟨#[]⟩, false) else catR ⟨#[]⟩ ws
theorem sConcat_ev (ws : List ByteArray) (hn : ws.length ≤ 1048576) : Ev (fun k => spec_Concat.f k ws) (catO ws) := by
  unfold spec_Concat.f catO
  by_cases c : ws.length > 60
  · rw [if_pos c]; exact Ev.pos (by omega) (Ev.now _)
  · rw [if_neg c]
    refine Ev.neg (by omega) ?_
    have := spec_cat_l0 ws (by omega) ws.length 0 ⟨#[]⟩ (by omega) (by rw [show (⟨#[]⟩ : ByteArray).size = 0 from rfl]; omega)
    simpa using this
theorem idx_l0 (ws : List ByteArray) (hn : ws.length ≤ 1048576) : ∀ (d i : Nat), i + d = ws.length → ∃ r : Int, Ev (fun k => slices_IndexFunc_string_string__at_impl_Concat__1.l0 k ws (ws.length : Int) (i : Int)) r ∧ decide (r ≥ 0) = !allGood (ws.drop i)
  | 0, i, hd => ⟨-1, Ev.succ (by simp only [slices_IndexFunc_string_string__at_impl_Concat__1.l0]; exact Ev.neg (by omega) (Ev.now _)), by rw [List.drop_of_length_le (by omega)]; rfl⟩
  | d + 1, i, hd => by
    have h1 : i < ws.length := by omega
    obtain ⟨r, hr, hr2⟩ := idx_l0 ws hn d (i + 1) (by omega)
    have hc : allGood (ws.drop i) = (good ws[i] && allGood (ws.drop (i + 1))) := by rw [List.drop_eq_getElem_cons h1]; rfl
    have hq : impl_Concat__1.f ws[i] = some (!good ws[i]) := by unfold impl_Concat__1.f; rw [isWord_eq]; rfl
    rw [hc]
    cases hg : good ws[i]
    · rw [hg] at hq
      refine ⟨(i : Int), Ev.succ ?_, by simp⟩
      simp only [slices_IndexFunc_string_string__at_impl_Concat__1.l0, rdOf_nat ws i h1]
      exact Ev.pos (by omega) (Ev.pos (by omega) (Ev.pos (by omega) (Ev.known (fun _ => hq) (Ev.pos rfl (Ev.now _)))))
    · rw [hg] at hq
      refine ⟨r, Ev.succ ?_, by rw [hr2]; simp⟩
      simp only [slices_IndexFunc_string_string__at_impl_Concat__1.l0, rdOf_nat ws i h1, w1 (show 0 ≤ (i : Int) by omega) (show (i : Int) < 9223372036854775807 by omega)]
      exact Ev.pos (by omega) (Ev.pos (by omega) (Ev.pos (by omega) (Ev.known (fun _ => hq) (Ev.neg (by simp) hr))))
theorem all_flat (ws : List ByteArray) (h : allGood ws = true) : ((ws.map ch).flatten).all isLetter = true := by
  refine List.all_eq_true.2 fun c hc => ?_
  obtain ⟨x, hx, hcx⟩ := List.mem_flatten.1 hc
  obtain ⟨s, hs, rfl⟩ := List.mem_map.1 hx
  exact List.all_eq_true.1 (good_all (List.all_eq_true.1 h s hs)) c hcx
theorem iConcat_ev (ws : List ByteArray) (hn : ws.length ≤ 1048576) : Ev (fun k => impl_Concat.f k ws) (catO ws) := by
  unfold impl_Concat.f catO
  by_cases c : ws.length > 60
  · rw [if_pos c]
    refine Ev.pos (by omega) (Ev.succ ?_)
    simp only [impl_Concat.j0]
    exact Ev.pos trivial (Ev.now _)
  · rw [if_neg c]
    obtain ⟨r, hr, hr2⟩ := idx_l0 ws hn ws.length 0 (by omega)
    rw [List.drop_zero] at hr2
    have hcf : Ev (fun k => slices_ContainsFunc_string_string__at_impl_Concat__1.f k ws) (!allGood ws) := by
      unfold slices_ContainsFunc_string_string__at_impl_Concat__1.f slices_IndexFunc_string_string__at_impl_Concat__1.f
      exact Ev.bind (by simpa using hr) (Ev.pure hr2)
    refine Ev.neg (by omega) (Ev.bind hcf ?_)
    cases hg : allGood ws
    · refine Ev.succ ?_
      simp only [impl_Concat.j0]
      refine Ev.pos rfl (Ev.pure ?_)
      unfold catR
      rw [if_neg (by rintro ⟨h, -⟩; rw [hg] at h; cases h)]
    · have hj := joinB_cat ws
      have hs := cat_size ws ⟨#[]⟩
      have ht := tot_le ws hg
      have h0 : (⟨#[]⟩ : ByteArray).size = 0 := rfl
      have hJ : strings_Join.f ws ⟨#[]⟩ = some (cat ⟨#[]⟩ ws) := by
        unfold strings_Join.f
        rw [hj, if_pos ⟨by omega, by omega⟩]
      have hgood : good (cat ⟨#[]⟩ ws) = decide (tot ws ≤ 60) := by
        unfold good
        have h9 : (cat ⟨#[]⟩ ws).data.toList.all isLetter = true := by
          show (ch (cat ⟨#[]⟩ ws)).all isLetter = true
          rw [cat_ch]; exact all_flat ws hg
        rw [h9, Bool.and_true]
        exact decide_eq_decide.2 (by omega)
      by_cases c6 : tot ws ≤ 60
      · have hR : catR ⟨#[]⟩ ws = (cat ⟨#[]⟩ ws, true) := by unfold catR; rw [if_pos ⟨hg, by omega⟩]
        rw [hR]
        refine Ev.succ ?_
        simp only [impl_Concat.j0]
        refine Ev.neg (by simp) (Ev.known (fun _ => hJ) (Ev.known (fun _ => isWord_eq _) ?_))
        rw [hgood]
        exact Ev.pos (decide_eq_true c6) (Ev.now _)
      · have hR : catR ⟨#[]⟩ ws = (⟨#[]⟩, false) := by unfold catR; rw [if_neg (by rintro ⟨-, h⟩; omega)]
        rw [hR]
        refine Ev.succ ?_
        simp only [impl_Concat.j0]
        refine Ev.neg (by simp) (Ev.known (fun _ => hJ) (Ev.known (fun _ => isWord_eq _) ?_))
        rw [hgood]
        exact Ev.neg (by rw [decide_eq_true_eq]; exact c6) (Ev.now _)
theorem sum_l1 (ws : List ByteArray) (hn : ws.length ≤ 60) (whole : ByteArray) (hw : whole.size = tot ws) (h60 : tot ws ≤ 60) : ∀ (d i : Nat), i + d = ws.length → Ev (fun k => laws_FnWordsCompared.l1 k whole ((tot (ws.take i) : Nat) : Int) ws (ws.length : Int) (i : Int)) true
  | 0, i, hd => Ev.succ (by
      simp only [laws_FnWordsCompared.l1]
      refine Ev.neg (by omega) (Ev.pure ?_)
      rw [List.take_of_length_le (by omega), beq_iff_eq]; omega)
  | d + 1, i, hd => by
    have h1 : i < ws.length := by omega
    have ih := sum_l1 ws hn whole hw h60 d (i + 1) (by omega)
    have ht : tot (ws.take (i + 1)) = tot (ws.take i) + ws[i].size := by rw [List.take_succ_eq_append_getElem h1, tot_app, tot_one]
    have hle : tot (ws.take (i + 1)) + tot (ws.drop (i + 1)) = tot ws := by
      rw [← tot_app, List.take_append_drop]
    have e1 : Aside0 (wrap64 (((tot (ws.take i) : Nat) : Int) + (ws[i].size : Int)) = ((tot (ws.take (i + 1)) : Nat) : Int)) := ⟨by rw [w64 (by omega) (by omega)]; omega⟩
    refine Ev.succ ?_
    simp only [laws_FnWordsCompared.l1, rdOf_nat ws i h1, w1 (show 0 ≤ (i : Int) by omega) (show (i : Int) < 9223372036854775807 by omega), e1.out]
    exact Ev.pos (by omega) (Ev.pos (by omega) (Ev.pos (by omega) ih))
theorem j4_ev {l : List Int} (hl : OkL l) : Ev (fun k => laws_FnWordsCompared.j4 k l) true := by
  obtain ⟨ws, hws, h61, hn⟩ := drawConcat_ev hl
  refine Ev.succ ?_
  simp only [laws_FnWordsCompared.j4]
  refine Ev.bind hws (Ev.bind (iConcat_ev ws (by omega)) (Ev.bind (sConcat_ev ws (by omega)) (Ev.pos ⟨rfl, rfl⟩ (Ev.succ ?_))))
  simp only [laws_FnWordsCompared.j5]
  refine Ev.neg (by simp) ?_
  by_cases c : (catO ws).2 = true
  · refine Ev.pos c ?_
    unfold catO at c ⊢
    by_cases c1 : ws.length > 60
    · rw [if_pos c1] at c; cases c
    · rw [if_neg c1] at c ⊢
      unfold catR at c ⊢
      by_cases c2 : allGood ws = true ∧ (⟨#[]⟩ : ByteArray).size + tot ws ≤ 60
      · rw [if_pos c2]
        have h0 : (⟨#[]⟩ : ByteArray).size = 0 := rfl
        have h60 : tot ws ≤ 60 := by have := c2.2; omega
        have := sum_l1 ws (by omega) (cat ⟨#[]⟩ ws) (by rw [cat_size]; omega) h60 ws.length 0 (by omega)
        simpa [tot] using this
      · rw [if_neg c2] at c; cases c
  · exact Ev.neg c (Ev.now _)
/-- whether the first i letters are the last i ones -/
def bord (u : ByteArray) (i : Nat) : Bool := (ch u).drop (u.size - i) == (ch u).take i
def brd (u : ByteArray) : Nat → Nat → List Int
  | 0, _ => []
  | d + 1, i => if bord u i = true then (i : Int) :: brd u d (i + 1) else brd u d (i + 1)
theorem brd_len (u : ByteArray) : ∀ d i, (brd u d i).length ≤ d
  | 0, i => Nat.le_refl _
  | d + 1, i => by
    have := brd_len u d (i + 1)
    unfold brd
    split
    · simp only [List.length_cons]; omega
    · omega
theorem ch_take (u : ByteArray) (i : Nat) : ch (u.extract 0 i) = (ch u).take i := by rw [ch_extract, List.drop_zero, Nat.sub_zero]
theorem sfx_take (u : ByteArray) (i : Nat) (h : i ≤ u.size) : sfx u (u.extract 0 i) = bord u i := by
  have e : (u.extract 0 i).size = i := by rw [ByteArray.size_extract]; omega
  unfold sfx bord
  rw [e, decide_eq_true h, Bool.true_and, ch_take]
theorem iBord_l0 (u : ByteArray) (hu : u.size ≤ 60) : ∀ (d i : Nat) (acc : List Int), u.size - i = d → 1 ≤ i → acc.length ≤ i → i ≤ 100 → Ev (fun k => impl_BordersOf.l0 k u acc (i : Int)) (acc ++ brd u d i, true)
  | 0, i, acc, hd, h1, ha, hi => Ev.succ (by simp only [impl_BordersOf.l0]; exact Ev.neg (by omega) (Ev.pure (by simp [brd])))
  | d + 1, i, acc, hd, h1, ha, hi => by
    have ih := fun acc ha => iBord_l0 u hu d (i + 1) acc (by omega) (by omega) ha (by omega)
    have e : Aside0 (wrap64 ((u.size : Int) - (i : Int)) = ((u.size - i : Nat) : Int)) := ⟨by rw [w64 (by omega) (by omega)]; omega⟩
    have ht : ((u.extract 0 i).toList = (u.extract (u.size - i) u.size).toList) ↔ bord u i = true := by
      rw [toList_ch, toList_ch, ch_take, ch_drop]
      unfold bord
      rw [beq_iff_eq]
      exact eq_comm
    refine Ev.succ ?_
    simp only [impl_BordersOf.l0, e.out, Int.toNat_natCast, w1 (show 0 ≤ (i : Int) by omega) (show (i : Int) < 9223372036854775807 by omega)]
    refine Ev.pos (by omega) (Ev.pos (by omega) (Ev.pos (by omega) (Ev.pos (by omega) (Ev.pos (by omega) ?_))))
    cases hb : bord u i
    · have h9 := ih acc (by omega)
      unfold brd; rw [if_neg (by rw [hb]; simp)]
      exact Ev.neg (by rw [ht, hb]; simp) h9
    · have h9 := ih (acc ++ [(i : Int)]) (by simp; omega)
      unfold brd; rw [if_pos hb]
      rw [List.append_assoc] at h9
      exact Ev.pos (ht.2 hb) (Ev.pos (by omega) h9)
theorem sBord_l0 (u : ByteArray) (hu : u.size ≤ 60) : ∀ (d i : Nat) (acc : List Int), u.size - i = d → 1 ≤ i → acc.length ≤ i → i ≤ 100 → Ev (fun k => spec_BordersOf.l0 k u acc (i : Int)) (acc ++ brd u d i, true)
  | 0, i, acc, hd, h1, ha, hi => Ev.succ (by simp only [spec_BordersOf.l0]; exact Ev.neg (by omega) (Ev.pure (by simp [brd])))
  | d + 1, i, acc, hd, h1, ha, hi => by
    have ih := fun acc ha => sBord_l0 u hu d (i + 1) acc (by omega) (by omega) ha (by omega)
    have hw := wdEnds_eq u (u.extract 0 i) (by omega)
    rw [sfx_take u i (by omega)] at hw
    refine Ev.succ ?_
    simp only [spec_BordersOf.l0, Int.toNat_natCast, w1 (show 0 ≤ (i : Int) by omega) (show (i : Int) < 9223372036854775807 by omega)]
    refine Ev.pos (by omega) (Ev.pos (by omega) (Ev.pos (by omega) (Ev.known (fun _ => hw) ?_)))
    cases hb : bord u i
    · have h9 := ih acc (by omega)
      unfold brd; rw [if_neg (by rw [hb]; simp)]
      exact Ev.neg (by simp) h9
    · have h9 := ih (acc ++ [(i : Int)]) (by simp; omega)
      unfold brd; rw [if_pos hb]
      rw [List.append_assoc] at h9
      exact Ev.pos rfl (Ev.pos (by omega) h9)
def boR (u : ByteArray) : List Int × Bool := if good u = true then (brd u (u.size - 1) 1, true) else ([], false)
def ltR (u : ByteArray) : List Int × Bool := if good u = true then (lcOf (ch u), true) else ([], false)
theorem iBord_ev (u : ByteArray) : Ev (fun k => impl_BordersOf.f k u) (boR u) := by
  unfold impl_BordersOf.f boR
  refine Ev.known (fun _ => isWord_eq u) ?_
  cases hg : good u
  · exact Ev.neg (by simp) (Ev.now _)
  · exact Ev.pos rfl (by simpa using iBord_l0 u (good_size hg) (u.size - 1) 1 [] rfl (by omega) (by simp) (by omega))
theorem sBord_ev (u : ByteArray) : Ev (fun k => spec_BordersOf.f k u) (boR u) := by
  unfold spec_BordersOf.f boR
  refine Ev.bind (good_ev u) ?_
  cases hg : good u
  · exact Ev.neg (by simp) (Ev.now _)
  · exact Ev.pos rfl (by simpa using sBord_l0 u (good_size hg) (u.size - 1) 1 [] rfl (by omega) (by simp) (by omega))
theorem iLet_ev (u : ByteArray) : Ev (fun k => impl_LettersOf.f k u) (ltR u) := by
  unfold impl_LettersOf.f ltR
  refine Ev.known (fun _ => isWord_eq u) ?_
  cases hg : good u
  · exact Ev.neg (by simp) (Ev.now _)
  · exact Ev.pos rfl (Ev.bind (lettersOf_ev u) (Ev.now _))
theorem sLet_ev (u : ByteArray) : Ev (fun k => spec_LettersOf.f k u) (ltR u) := by
  unfold spec_LettersOf.f ltR
  refine Ev.bind (good_ev u) ?_
  cases hg : good u
  · exact Ev.neg (by simp) (Ev.now _)
  · exact Ev.pos rfl (Ev.bind (wdLetters_ev u (good_size hg) (good_all hg)) (Ev.now _))
theorem lc_sum : ∀ l : List UInt8, l.all isLetter = true → l.count 97 + l.count 98 + l.count 99 = l.length
  | [], _ => rfl
  | c :: l, h => by
    rw [List.all_cons, Bool.and_eq_true] at h
    have ih := lc_sum l h.2
    simp only [List.count_cons, List.length_cons]
    rcases letter_three c h.1 with rfl | rfl | rfl
    · simp; omega
    · simp; omega
    · simp; omega
theorem ySum_ev (u : ByteArray) (hg : good u = true) : Ev (fun k => laws_ySum.f k (lcOf (ch u))) (u.size : Int) := by
  have h := lc_sum (ch u) (good_all hg)
  have hs := ch_length u
  have h60 := good_size hg
  unfold lcOf
  generalize (ch u).count 97 = a at h
  generalize (ch u).count 98 = b at h
  generalize (ch u).count 99 = c at h
  have e1 : wrap64 (0 + (a : Int)) = (a : Int) := by rw [w64 (by omega) (by omega)]; omega
  have e2 : wrap64 ((a : Int) + (b : Int)) = (a : Int) + (b : Int) := w64 (by omega) (by omega)
  have e3 : wrap64 ((a : Int) + (b : Int) + (c : Int)) = (u.size : Int) := by rw [w64 (by omega) (by omega)]; omega
  refine ⟨4, fun k hk => ?_⟩
  obtain ⟨k, rfl⟩ : ∃ m, k = m + 4 := ⟨k - 4, by omega⟩
  have g1 : wrap64 1 = 1 := w64 (by omega) (by omega)
  have g2 : wrap64 2 = 2 := w64 (by omega) (by omega)
  have g3 : wrap64 3 = 3 := w64 (by omega) (by omega)
  rw [Int.zero_add] at e1
  simp [laws_ySum.f, laws_ySum.l0, rd, e1, e2, e3, g1, g2, g3]
theorem good_take (u : ByteArray) (hg : good u = true) (i : Nat) : good (u.extract 0 i) = true := by
  have h1 := good_size hg
  have h2 := List.all_eq_true.1 (good_all hg)
  unfold good
  rw [Bool.and_eq_true]
  refine ⟨decide_eq_true (by rw [ByteArray.size_extract]; omega), List.all_eq_true.2 fun c hc => h2 c ?_⟩
  have h3 : c ∈ ch (u.extract 0 i) := hc
  rw [ch_take] at h3
  exact List.mem_of_mem_take h3
theorem law_l0 {l : List Int} (hl : OkL l) (u : ByteArray) (hg : good u = true) : ∀ (d i : Nat) (pre : List Int), u.size - i = d → 1 ≤ i → pre ++ brd u d i = brd u (u.size - 1) 1 → i ≤ 100 → pre.length ≤ 100 → Ev (fun k => laws_FnWordsCompared.l0 k l u (brd u (u.size - 1) 1) (lcOf (ch u)) (pre.length : Int) (i : Int)) true
  | 0, i, pre, hd, h1, he, hi, hp => by
    have h60 := good_size hg
    simp only [brd, List.append_nil] at he
    refine Ev.succ ?_
    simp only [laws_FnWordsCompared.l0]
    exact Ev.neg (by omega) (Ev.pos (by rw [he]) (Ev.bind (ySum_ev u hg) (Ev.pos rfl (j4_ev hl))))
  | d + 1, i, pre, hd, h1, he, hi, hp => by
    have h60 := good_size hg
    have ih := fun pre he hp => law_l0 hl u hg d (i + 1) pre (by omega) (by omega) he (by omega) hp
    have hE : Ev (fun _ => impl_Ends.f u (u.extract 0 i)) (bord u i, true) := by
      have h9 := ie_ev u (u.extract 0 i)
      unfold enR at h9
      rw [if_pos (show both u (u.extract 0 i) = true by unfold both; rw [hg, good_take u hg i]; rfl), sfx_take u i (by omega)] at h9
      exact h9
    refine Ev.succ ?_
    simp only [laws_FnWordsCompared.l0, Int.toNat_natCast, w1 (show 0 ≤ (i : Int) by omega) (show (i : Int) < 9223372036854775807 by omega)]
    refine Ev.pos (by omega) (Ev.pos (by omega) (Ev.pos (by omega) (Ev.bind hE (Ev.pos rfl ?_))))
    rw [show brd u (d + 1) i = (if bord u i = true then (i : Int) :: brd u d (i + 1) else brd u d (i + 1)) from rfl] at he
    cases hb : bord u i
    · rw [if_neg (by rw [hb]; simp)] at he
      exact Ev.neg (by simp) (ih pre he hp)
    · rw [if_pos hb] at he
      have hlen : pre.length < (brd u (u.size - 1) 1).length := by rw [← he]; simp
      have hbl := brd_len u (u.size - 1) 1
      have hrd : rd (brd u (u.size - 1) 1) (pre.length : Int) = (i : Int) := by rw [← he]; simp [rd]
      have h9 := ih (pre ++ [(i : Int)]) (by rw [List.append_assoc]; exact he) (by simp; omega)
      rw [List.length_append, List.length_singleton] at h9
      simp only [w1 (show 0 ≤ (pre.length : Int) by omega) (show (pre.length : Int) < 9223372036854775807 by omega)]
      exact Ev.pos trivial (Ev.neg (by omega) (Ev.pos (by omega) (Ev.pos (by omega) (Ev.pos hrd h9))))
theorem j1_ev {l : List Int} (hl : OkL l) : Ev (fun k => laws_FnWordsCompared.j1 k l) true := by
  obtain ⟨u, hu⟩ := drawBorders_ev hl
  have hbl : (boR u).1.length ≤ 1048576 := by
    unfold boR
    split
    · rename_i hg
      have := brd_len u (u.size - 1) 1
      have := good_size hg
      simp only; omega
    · simp
  have hll : (ltR u).1.length ≤ 1048576 := by unfold ltR; split <;> simp [lcOf]
  have h22 : (ltR u).2 = (boR u).2 := by unfold ltR boR; split <;> rfl
  refine Ev.succ ?_
  simp only [laws_FnWordsCompared.j1]
  refine Ev.bind hu (Ev.bind (iBord_ev u) (Ev.bind (sBord_ev u) (Ev.bind (iLet_ev u) (Ev.bind (sLet_ev u) (Ev.bind (ySame_ev _ hbl) (Ev.bind (ySame_ev _ hll) (Ev.pos ⟨rfl, h22.symm, h22.symm, rfl, rfl⟩ (Ev.succ ?_))))))))
  simp only [laws_FnWordsCompared.j2]
  refine Ev.neg (by simp) ?_
  by_cases c : (boR u).2 = true
  · refine Ev.pos c ?_
    have hg : good u = true := by
      unfold boR at c
      split at c
      · assumption
      · cases c
    unfold boR ltR
    rw [if_pos hg, if_pos hg]
    exact law_l0 hl u hg (u.size - 1) 1 [] rfl (by omega) rfl (by omega) (by simp)
  · exact Ev.neg c (j4_ev hl)
theorem bg_both {s t : ByteArray} (h : both s t = true) : bgR s t = (pfx s t, true) := by unfold bgR; rw [if_pos h]
theorem en_both {s t : ByteArray} (h : both s t = true) : enR s t = (sfx s t, true) := by unfold enR; rw [if_pos h]
theorem le_both {s t : ByteArray} (h : both s t = true) : leR s t = (wless s t, true) := by unfold leR; rw [if_pos h]
theorem bg_2 (s t : ByteArray) : (bgR s t).2 = both s t := by unfold bgR; cases h : both s t <;> simp
theorem en_2 (s t : ByteArray) : (enR s t).2 = both s t := by unfold enR; cases h : both s t <;> simp
theorem le_2 (s t : ByteArray) : (leR s t).2 = both s t := by unfold leR; cases h : both s t <;> simp
theorem hits_any (s t : ByteArray) (ht : ch t ≠ []) (h : pfx s t = true ∨ sfx s t = true) : 1 ≤ hits (ch t) (ch s) := by
  rcases h with h | h
  · refine hits_pos _ _ (fun e => ht ?_) h
    unfold pfx at h
    rw [e] at h
    have := (List.isPrefixOf_iff_prefix.1 h)
    exact List.prefix_nil.1 this
  · unfold sfx at h
    rw [Bool.and_eq_true, beq_iff_eq] at h
    refine Nat.le_trans (hits_pos (ch t) ((ch s).drop (s.size - t.size)) (by rw [h.2]; exact ht) ?_) (hits_drop _ _ _)
    rw [h.2]
    exact List.isPrefixOf_iff_prefix.2 (List.prefix_refl _)
theorem nil_less (s t : ByteArray) (h : ch t = []) : wless s t = false := by
  have h0 : t.size = 0 := by rw [← ch_length, h]; rfl
  unfold wless
  have h1 : decide (s.size < t.size) = false := decide_eq_false (by omega)
  rw [h1, Bool.false_or]
  by_cases c : s.size = t.size
  · have h2 : ch s = [] := List.eq_nil_of_length_eq_zero (by rw [ch_length]; omega)
    show (decide (s.size = t.size) && Op.bytesLess (ch s) (ch t)) = false
    rw [h, h2]; simp [Op.bytesLess]
  · rw [decide_eq_false c]; rfl
theorem less_not (s t : ByteArray) (h : wless s t = true) : pfx s t = false ∧ sfx s t = false := by
  have hlen : s.size ≤ t.size := by
    unfold wless at h
    simp only [Bool.or_eq_true, decide_eq_true_eq, Bool.and_eq_true] at h
    rcases h with h | ⟨h, -⟩ <;> omega
  have hne : ch s ≠ ch t := fun e => by
    have e2 : s = t := ByteArray.ext (Array.toList_inj.1 e)
    rw [e2, wless_irrefl] at h; cases h
  constructor
  · rw [Bool.eq_false_iff]
    intro hp
    have h1 := List.isPrefixOf_iff_prefix.1 hp
    exact hne (h1.eq_of_length_le (by rw [ch_length, ch_length]; exact hlen)).symm
  · rw [Bool.eq_false_iff]
    intro hp
    unfold sfx at hp
    rw [Bool.and_eq_true, decide_eq_true_eq, beq_iff_eq] at hp
    have h0 : s.size - t.size = 0 := by omega
    rw [h0, List.drop_zero] at hp
    exact hne hp.2
theorem same_pfx (s t : ByteArray) (h : ch s = ch t) : pfx s t = true := by
  unfold pfx; rw [h]; exact List.isPrefixOf_iff_prefix.2 (List.prefix_refl _)
theorem co_2 {s t : ByteArray} (h : both s t = true) : (coR s t).2 = (t.toList != ([] : List UInt8)) := by
  unfold coR
  rw [if_pos h, toList_ch]
  by_cases c : ch t = []
  · rw [if_pos c, c]; rfl
  · rw [if_neg c]; simpa using c
theorem co_1 {s t : ByteArray} (h : both s t = true) (h2 : (coR s t).2 = true) (h3 : (pfx s t || sfx s t) = true) : ¬ (coR s t).1 = 0 := by
  have hc : ch t ≠ [] := by rw [co_2 h, toList_ch] at h2; simpa using h2
  have := hits_any s t hc (by simpa using h3)
  unfold coR
  rw [if_pos h, if_neg hc]
  simp only; omega
theorem j0_ev {l : List Int} (hl : OkL l) (s t : ByteArray) : Ev (fun k => laws_FnWordsCompared.j0 k l s t (bgR s t).1 (bgR s t).2 (enR s t).1 (coR s t).1 (coR s t).2 (leR s t).1 false) true := by
  refine Ev.succ ?_
  simp only [laws_FnWordsCompared.j0]
  refine Ev.neg (by simp) ?_
  rw [bg_2]
  cases hb : both s t
  · exact Ev.neg (by simp) (j1_ev hl)
  · have hb2 : both t s = true := by unfold both at hb ⊢; rw [Bool.and_comm]; exact hb
    have hco := co_2 hb
    have hco1 := co_1 hb
    refine Ev.pos rfl (Ev.bind (il_ev t s) ?_)
    rw [le_both hb2, le_both hb, bg_both hb, en_both hb]
    refine Ev.pos rfl (Ev.known (fun _ => yBegins_eq s t) ?_)
    refine Ev.pos ⟨rfl, hco, ?_, ?_, ?_, ?_, ?_, ?_⟩ (j1_ev hl)
    · simp only
      cases h1 : wless s t
      · rfl
      · cases h2 : wless t s
        · rfl
        · have := wless_trans _ _ _ h1 h2
          rw [wless_irrefl] at this; cases this
    · intro h1 h2; rw [toList_ch, toList_ch]; exact wless_total s t h1 h2
    · exact hco1
    · intro h1
      rw [hco, toList_ch] at h1
      exact nil_less s t (by simpa using h1)
    · intro _ h1; exact less_not s t h1
    · intro _ h1 h2; exact same_pfx s t (wless_total s t h1 h2)
theorem FnWordsCompared : laws_FnWordsCompared.Pure := by
  intro l0 l1 hm0 y0 hw0 hm1 y1 hw1
  have hl0 := okL_of hw0
  have hl1 := okL_of hw1
  refine Ev.rounds ?_
  unfold laws_FnWordsCompared.f
  obtain ⟨b, hbig⟩ : ∃ b, laws_big.f l0 l1 = some b := by unfold laws_big.f; split <;> exact ⟨_, rfl⟩
  refine Ev.known (fun _ => hbig) ?_
  cases b with
  | true => exact Ev.pos rfl (Ev.now _)
  | false =>
    obtain ⟨s, t, hd, hs, ht⟩ := drawBegins_ev hl0
    have hj := j0_ev hl1 s t
    have hI : ∀ u, impl_IsWord.f u = some (good u) := fun u => by unfold impl_IsWord.f; rw [isWord_eq]; rfl
    have hS : ∀ u, Ev (fun k => spec_IsWord.f k u) (good u) := fun u => by unfold spec_IsWord.f; exact Ev.bind (good_ev u) (Ev.now _)
    refine Ev.neg (by simp) (Ev.bind hd ?_)
    simp only
    refine Ev.bind (ib_ev s t) (Ev.bind (sb_ev s t) (Ev.bind (ie_ev s t) (Ev.bind (se_ev s t) (Ev.bind (ic_ev s t) (Ev.bind (sc_ev s t) (Ev.bind (il_ev s t) (Ev.bind (sl_ev s t) (Ev.known (fun _ => hI s) (Ev.known (fun _ => hI t) (Ev.bind (hS s) (Ev.pos ?_ hj)))))))))))
    exact ⟨rfl, rfl, rfl, by rw [en_2, bg_2], rfl, rfl, rfl, by rw [le_2, bg_2], by rw [en_2, bg_2], by rw [le_2, bg_2], by rw [bg_2]; rfl, rfl⟩
end Go.Proofs.YtahemjedodecgaaDoor.Pure
