-- Written by a program of this session (wip/xprint.py), which follows the kit's print; no kit file.
import Derived.Test.YtaglbacldonflaaDoorXFnExactMissingBehindx0
import Derived.Test.YtaglbacldonflaaDoorXFnExactMissingBehindx4
import Derived.Test.YtaglbacldonflaaDoorXFnExactMissingBehindx5
namespace Go.Proofs.YtaglbacldonflaaDoor.XFnExactMissingBehind
open Go.RowKit Go.Proofs.YtaglbacldonflaaDoor.Hand Go.Proofs.YtaglbacldonflaaDoorW.PrintWords Go.Proofs.YtaglbacldonflaaDoorW.PrintLast Go.Proofs.YtaglbacldonflaaDoorW.PrintMore
attribute [local go_sem] max2_int min2_int max_two min_two max_three min_three max_four min_four   -- for this text's walks alone
set_option linter.unusedVariables false
set_option linter.unusedSimpArgs false

-- impl_MissingBehind: function 20, by hand
set_option maxHeartbeats 8000000 in
theorem miss_clo (w : World) (Bt : Nat) (t : ByteArray) (ht : w.cell? ⟨Bt, 0, none⟩ = some (.string t)) (hB : Bt < w.heap.size) :
    PredAt Tryd.prog 55 #[.pointer (some ⟨Bt, 0, none⟩)] Value.string (begS t) w := fun W x hb => by
  have ht' : W.cell? ⟨Bt, 0, none⟩ = some (.string t) := (hb.cell (p := ⟨Bt, 0, none⟩) hB).trans ht
  have hc := fun W => Any.strings_HasPrefix Tryd.lays99 t x W
  change ∀ W, Calls Tryd.prog 56 _ _ fun e w' => e = .returned (.bool (begS t x)) ∧ w' = W at hc
  unfold FnGives
  generalize begS t x = bb at hc ⊢
  go_enter Tryd.func55, Tryd.ntmps55
  go_wp2_with (go_at_call 56; (refine (hc _).mono ?_); rintro e w' ⟨rfl, rfl⟩)
  go_ret
  exact ⟨rfl, 0, rfl⟩
theorem miss_new (W : World) (o : Obj) : (W.alloc o).heap[W.heap.size]? = some o := by unfold World.alloc; simp
theorem miss_zero (a : Addr) : a.add 0 = a := by cases a; simp [Addr.add]
/-- whether one of some words begins another one -/
theorem miss_has (A : Option Addr) (c : Nat) (out : List ByteArray) (w : World) (t : ByteArray) (hC : Kd.C Kd.string w A out.length out) :
    Calls Tryd.prog 54 #[.slice A out.length c, .func (.func 55) #[] #[.pointer (some ⟨w.heap.size, 0, none⟩)]] (w.alloc (.cells #[.string t] 9)) fun e w' => e = .returned (.bool (out.any (begS t))) ∧ ∃ q, w' = (w.alloc (.cells #[.string t] 9)).drewN q := by
  by_cases h0 : out.length = 0
  · have hnil : out = [] := List.eq_nil_of_length_eq_zero h0
    subst hnil
    have hc := AnyE.slices_ContainsFunc_empty Tryd.containsS A c (.func (.func 55) #[] #[.pointer (some ⟨w.heap.size, 0, none⟩)]) (w.alloc (.cells #[.string t] 9))
    change Calls Tryd.prog 54 _ _ _ at hc
    exact hc.mono fun e w' ⟨he, hw⟩ => ⟨by simpa using he, 0, hw⟩
  · obtain ⟨b, off, rfl, hb, hcells⟩ := strs_at hC (by omega)
    have hl9 : out.length ≤ 9223372036854775807 := (Kd.reads_of_C (d := ByteArray.empty) hC).2.1
    have hb2 : Below w.heap.size w (w.alloc (.cells #[.string t] 9)) := below_alloc (Below.refl _ _) _
    have hp := miss_clo (w.alloc (.cells #[.string t] 9)) w.heap.size t (cell_of_one (miss_new _ _)) (by simp)
    have hc := AnyE.slices_ContainsFunc Tryd.containsS Value.string (begS t) 55 #[.pointer (some ⟨w.heap.size, 0, none⟩)] (enters_of Tryd.func55 (by kernel_rfl) rfl) b off out.length c out (w.alloc (.cells #[.string t] 9)) hp (Nat.le_refl _) hl9
      (fun j hj => by
        have h2 := (hb2.cell (p := ⟨b, off + j, none⟩) hb).trans (hcells j hj)
        rw [h2]; simp [List.getD_eq_getElem?_getD, hj])
    rw [List.take_of_length_le (Nat.le_refl _)] at hc
    change Calls Tryd.prog 54 _ _ _ at hc
    exact hc
/-- what the words of a set leave behind a rest that they begin with -/
def missOf (rest : ByteArray) (l : List ByteArray) : List ByteArray := (l.filter fun w => begS w rest).map fun w => cutS w rest
/-- those that begin with none that is there -/
def missOut : List ByteArray → List ByteArray → List ByteArray
  | out, [] => out
  | out, t :: ts => missOut (if out.any (begS t) then out else out ++ [t]) ts
def impl_MissingBehind.l0 : Nat → List ByteArray → ByteArray → List ByteArray → Nat → Option (List ByteArray)
  | 0, _, _, _, _ => none
  | q + 1, l, s, list, i => if i < s.size then ((impl_countReadings.f q l (s.extract 0 i)).bind fun c => (if c = 0 then impl_MissingBehind.l0 q l s list (i + 1) else (if list.length + l.length ≤ 1099511627776 then impl_MissingBehind.l0 q l s (list ++ missOf (s.extract i s.size) l) (i + 1) else none))) else some list
theorem impl_MissingBehind.mono_l : ∀ k y0 y1 y2 y3, LeO (impl_MissingBehind.l0 k y0 y1 y2 y3) (impl_MissingBehind.l0 (k + 1) y0 y1 y2 y3)
  | 0 => fun _ _ _ _ r h => by simp [impl_MissingBehind.l0] at h
  | k + 1 => fun y0 y1 y2 y3 => by
    have ih := impl_MissingBehind.mono_l k
    unfold impl_MissingBehind.l0
    exact LeO.ite (LeO.bind (impl_countReadings.mono _ _ _) fun c => LeO.ite (ih _ _ _ _) (LeO.ite (ih _ _ _ _) (LeO.refl _))) (LeO.refl _)
def impl_MissingBehind.end_ (t : List ByteArray) : Option (List ByteArray × Bool) := if t.length ≤ 1099511627776 then (if (missOut [] t).length > 12 then some ([], false) else some (missOut [] t, true)) else none
def impl_MissingBehind.f (k : Nat) (l0 : List ByteArray) (a1 : ByteArray) : Option (List ByteArray × Bool) := if a1.size ≤ 1048576 then ((impl_isSet.f k l0).bind fun b => (if b = true then ((impl_isWord.f a1).bind fun d => (if d = true then ((impl_beginnings.f l0 a1).bind fun g => (if 0 < g.length then (if rdOf false g 0 = true then ((impl_countReadings.f k l0 a1).bind fun c => (if c > 0 then some ([⟨#[]⟩], true) else ((impl_MissingBehind.l0 k l0 a1 [] 0).bind fun list => ((impl_ordered.f list).bind fun t => impl_MissingBehind.end_ t)))) else some ([], false)) else none)) else some ([], false))) else some ([], false))) else none
theorem impl_MissingBehind.mono : ∀ a0 a1 k, LeO (impl_MissingBehind.f k a0 a1) (impl_MissingBehind.f (k + 1) a0 a1) := by
  intro a0 a1 k
  unfold impl_MissingBehind.f
  exact LeO.ite (LeO.bind (impl_isSet.mono _ _) fun b => LeO.ite (LeO.bind (LeO.refl _) fun d => LeO.ite (LeO.bind (LeO.refl _) fun g => LeO.ite (LeO.ite (LeO.bind (impl_countReadings.mono _ _ _) fun c => LeO.ite (LeO.refl _) (LeO.bind (impl_MissingBehind.mono_l _ _ _ _ _) fun list => LeO.refl _)) (LeO.refl _)) (LeO.refl _)) (LeO.refl _)) (LeO.refl _)) (LeO.refl _)
theorem missOf_take (rest : ByteArray) (l : List ByteArray) (j : Nat) (h : j < l.length) : missOf rest (l.take (j + 1)) = if begS (rdOf ByteArray.empty l (j : Int)) rest = true then missOf rest (l.take j) ++ [cutS (rdOf ByteArray.empty l (j : Int)) rest] else missOf rest (l.take j) := by
  have e : rdOf ByteArray.empty l (j : Int) = l[j] := by simp [rdOf, List.getD_eq_getElem?_getD, h]
  unfold missOf
  rw [e, List.take_add_one, List.getElem?_eq_getElem h]
  simp only [Option.toList_some, List.filter_append, List.map_append]
  split <;> rename_i hc
  · simp [hc]
  · simp [hc]
theorem missOf_len (rest : ByteArray) (l : List ByteArray) : (missOf rest l).length ≤ l.length := by unfold missOf; rw [List.length_map]; exact List.length_filter_le _ _
theorem missOut_len : ∀ (ts out : List ByteArray), (missOut out ts).length ≤ out.length + ts.length
  | [], out => by simp [missOut]
  | t :: ts, out => by
    rw [missOut]
    split
    · have := missOut_len ts out; simp; omega
    · have := missOut_len ts (out ++ [t]); simp at this ⊢; omega
set_option maxHeartbeats 4000000 in
set_option maxRecDepth 100000 in
theorem impl_MissingBehind.calls (k : Nat) (A0 : Option Addr) (c0 : Nat) (l0 : List ByteArray) (a1 : ByteArray) (r1 : List ByteArray) (r2 : Bool) (w : World) (hr0 : Kd.C Kd.string w A0 l0.length l0) (hc0 : l0.length ≤ c0) (h : impl_MissingBehind.f k l0 a1 = some (r1, r2)) :
    Calls Tryd.prog 20 #[.slice A0 l0.length c0, .string a1] w fun e w' => ∃ v0_ : Value, e = .returned (.tuple #[v0_, .bool r2]) ∧ Kd.R Kd.string 9 w' w.heap.size (fun _ => True) v0_ r1 ∧ Below w.heap.size w w' := by
  have HR0 := Aside0.mk hr0
  have HC0 := Aside0.mk hc0
  have infoS : (Tryd.prog.info? 9).map (fun i => (i.zero, i.size, i.bytes)) = some (some (.string ⟨#[]⟩), 1, 16) := by kernel_rfl
  unfold impl_MissingBehind.f at h
  split at h
  case isFalse => cases h
  rename_i hsz
  have HSZ := Aside0.mk hsz
  obtain ⟨b, A10, h1⟩ := Option.bind_eq_some_iff.mp h
  have A1 := Aside0.mk A10
  clear hr0 hc0 h A10
  cases b with
  | false =>
    obtain ⟨rfl, rfl⟩ : [] = r1 ∧ false = r2 := by simpa using h1
    clear h1
    go_enter Tryd.func20, Tryd.ntmps20
    go_wp2_with (go_at_call 32; (with_reducible refine (impl_isSet.calls k _ _ l0 false _ HR0.out HC0.out A1.out).mono ?_); rintro e w7 ⟨rfl, hb⟩; have HB := Aside0.mk hb; clear hb)
    go_ret2
    exact ⟨_, rfl, Kd.R_nil Kd.string _ _ _ _, HB.out⟩
  | true =>
    rw [if_pos rfl] at h1
    obtain ⟨d, A20, h2⟩ := Option.bind_eq_some_iff.mp h1
    have A2 := Aside0.mk A20
    clear A20 h1
    cases d with
    | false =>
      rw [if_neg (by simp)] at h2
      obtain ⟨rfl, rfl⟩ : [] = r1 ∧ false = r2 := by simpa using h2
      clear h2
      go_enter Tryd.func20, Tryd.ntmps20
      go_wp2_with (first | (go_at_call 32; (with_reducible refine (impl_isSet.calls k _ _ l0 true _ HR0.out HC0.out A1.out).mono ?_); rintro e w7 ⟨rfl, hb⟩; have HB := Aside0.mk hb; clear hb) | (go_at_call 49; (with_reducible refine (impl_isWord.calls a1 false _ A2.out).mono ?_); rintro e w8 ⟨rfl, hb⟩; have HB8 := Aside0.mk (below_step HB.out hb); clear hb))
      go_ret2
      exact ⟨_, rfl, Kd.R_nil Kd.string _ _ _ _, HB8.out⟩
    | true =>
      rw [if_pos rfl] at h2
      obtain ⟨g, A30, h3⟩ := Option.bind_eq_some_iff.mp h2
      have A3 := Aside0.mk A30
      clear A30 h2
      split at h3
      case isFalse => cases h3
      rename_i hg0
      have hg1 : (0 : Int) < (g.length : Int) := by omega
      cases hgb : rdOf false g 0 with
      | false =>
        rw [hgb, if_neg (by simp)] at h3
        have HG0 := Aside0.mk hgb
        obtain ⟨rfl, rfl⟩ : [] = r1 ∧ false = r2 := by simpa using h3
        clear h3 hgb
        go_enter Tryd.func20, Tryd.ntmps20
        go_wp2_with (first | (go_at_call 32; (with_reducible refine (impl_isSet.calls k _ _ l0 true _ HR0.out HC0.out A1.out).mono ?_); rintro e w7 ⟨rfl, hb⟩; have HB := Aside0.mk hb; clear hb) | (go_at_call 49; (with_reducible refine (impl_isWord.calls a1 true _ A2.out).mono ?_); rintro e w8 ⟨rfl, hb⟩; have HB8 := Aside0.mk (below_step HB.out hb); clear hb) | (go_at_call 50; (with_reducible refine (impl_beginnings.calls _ _ l0 a1 g _ (Kd.C_below HR0.out HB8.out) HC0.out A3.out).mono ?_); rintro e w9 ⟨v9, rfl, ho9, hb⟩; obtain ⟨A9, c9, e9⟩ := Kd.R_slice ho9; subst e9; have HB9 := Aside0.mk (below_step HB8.out hb); obtain ⟨ad9, e9, hx9⟩ := Kd.at_bool (Kd.R_reads' ho9).2.2 0 (by omega) (by omega); cases e9; rw [HG0.out] at hx9; rw [show ((0 : Int)).toNat = 0 from rfl, miss_zero] at hx9; clear hb ho9))
        go_ret2
        exact ⟨_, rfl, Kd.R_nil Kd.string _ _ _ _, HB9.out⟩
      | true =>
        rw [hgb, if_pos rfl] at h3
        have HG0 := Aside0.mk hgb
        clear hgb
        obtain ⟨c, A40, h4⟩ := Option.bind_eq_some_iff.mp h3
        have A4 := Aside0.mk A40
        clear A40 h3
        by_cases hcp : c > 0
        · rw [if_pos hcp] at h4
          obtain ⟨rfl, rfl⟩ : [⟨#[]⟩] = r1 ∧ true = r2 := by simpa using h4
          have hcb : decide (c > 0) = true := decide_eq_true hcp
          clear h4 hcp
          go_enter Tryd.func20, Tryd.ntmps20
          go_wp2_with (first | (go_at_call 32; (with_reducible refine (impl_isSet.calls k _ _ l0 true _ HR0.out HC0.out A1.out).mono ?_); rintro e w7 ⟨rfl, hb⟩; have HB := Aside0.mk hb; clear hb) | (go_at_call 49; (with_reducible refine (impl_isWord.calls a1 true _ A2.out).mono ?_); rintro e w8 ⟨rfl, hb⟩; have HB8 := Aside0.mk (below_step HB.out hb); clear hb) | (go_at_call 50; (with_reducible refine (impl_beginnings.calls _ _ l0 a1 g _ (Kd.C_below HR0.out HB8.out) HC0.out A3.out).mono ?_); rintro e w9 ⟨v9, rfl, ho9, hb⟩; obtain ⟨A9, c9, e9⟩ := Kd.R_slice ho9; subst e9; have HB9 := Aside0.mk (below_step HB8.out hb); obtain ⟨ad9, e9, hx9⟩ := Kd.at_bool (Kd.R_reads' ho9).2.2 0 (by omega) (by omega); cases e9; rw [HG0.out] at hx9; rw [show ((0 : Int)).toNat = 0 from rfl, miss_zero] at hx9; clear hb ho9) | (go_at_call 51; (with_reducible refine (impl_countReadings.calls k _ _ l0 a1 c _ (Kd.C_below HR0.out HB9.out) HC0.out A4.out).mono ?_); rintro e w10 ⟨rfl, hb⟩; have HB10 := Aside0.mk (below_step HB9.out hb); clear hb))
          go_ret2
          refine ⟨_, rfl, ?_, below_alloc HB10.out _⟩
          exact Kd.R_of_own ⟨by simp [encs], .inr ⟨w10.heap.size, 1, _, rfl, HB10.out.size, miss_new _ _, by simp, by unfold maxLen; omega, by simp, by simp [encs]⟩⟩ (fun _ _ => trivial)
        · rw [if_neg hcp] at h4
          have hcb : decide (c > 0) = false := decide_eq_false hcp
          obtain ⟨list, A50, h5⟩ := Option.bind_eq_some_iff.mp h4
          obtain ⟨tn, A60, h6⟩ := Option.bind_eq_some_iff.mp h5
          have A5 := Aside0.mk A50
          have A6 := Aside0.mk A60
          have H6 := Aside0.mk h6
          clear h4 h5 h6 A50 A60 hcp
          go_enter Tryd.func20, Tryd.ntmps20
          go_wp2_with (first | (go_at_call 32; (with_reducible refine (impl_isSet.calls k _ _ l0 true _ HR0.out HC0.out A1.out).mono ?_); rintro e w7 ⟨rfl, hb⟩; have HB := Aside0.mk hb; clear hb) | (go_at_call 49; (with_reducible refine (impl_isWord.calls a1 true _ A2.out).mono ?_); rintro e w8 ⟨rfl, hb⟩; have HB8 := Aside0.mk (below_step HB.out hb); clear hb) | (go_at_call 50; (with_reducible refine (impl_beginnings.calls _ _ l0 a1 g _ (Kd.C_below HR0.out HB8.out) HC0.out A3.out).mono ?_); rintro e w9 ⟨v9, rfl, ho9, hb⟩; obtain ⟨A9, c9, e9⟩ := Kd.R_slice ho9; subst e9; have HB9 := Aside0.mk (below_step HB8.out hb); obtain ⟨ad9, e9, hx9⟩ := Kd.at_bool (Kd.R_reads' ho9).2.2 0 (by omega) (by omega); cases e9; rw [HG0.out] at hx9; rw [show ((0 : Int)).toNat = 0 from rfl, miss_zero] at hx9; clear hb ho9) | (go_at_call 51; (with_reducible refine (impl_countReadings.calls k _ _ l0 a1 c _ (Kd.C_below HR0.out HB9.out) HC0.out A4.out).mono ?_); rintro e w10 ⟨rfl, hb⟩; have HB10 := Aside0.mk (below_step HB9.out hb); clear hb))
          rename World => W0
          go_loopg [6, 39] k (fun kq v6 v39 w' => ∃ (lst : List ByteArray) (i : Nat), v39 = .int .i64 (i : Int) ∧ Aside0 (i ≤ a1.size) ∧ Aside0 (impl_MissingBehind.l0 kq l0 a1 lst i = some list) ∧ Aside0 (kq ≤ k) ∧ Aside0 (Kd.R Kd.string 9 w' w.heap.size (fun _ => True) v6 lst) ∧ Aside0 (Below w.heap.size w w'))
          case atStart =>
            refine ⟨[], 0, rfl, ⟨Nat.zero_le _⟩, A5, ⟨Nat.le_refl _⟩, ⟨?_⟩, ⟨below_alloc HB10.out _⟩⟩
            exact Kd.R_of_own ⟨by simp [encs], .inr ⟨W0.heap.size, 0, _, rfl, HB10.out.size, miss_new _ _, by simp, by unfold maxLen; omega, by simp, by simp [encs]⟩⟩ (fun _ _ => trivial)
          case round =>
            clear A5 hx9
            obtain ⟨lst, i, rfl, HI, HA, HK1, HL, HB1⟩ := hrel
            obtain ⟨A6', c6', e6'⟩ := Kd.R_slice HL.out
            subst e6'
            cases gk with
            | zero => exact absurd HA.out (by simp [impl_MissingBehind.l0])
            | succ k1 =>
              have H := HA.out
              clear HA
              simp only [impl_MissingBehind.l0] at H
              by_cases c3 : i < a1.size
              · rw [if_pos c3] at H
                obtain ⟨cc, A70, h7⟩ := Option.bind_eq_some_iff.mp H
                have A7 := Aside0.mk A70
                have d1 : ((i : Int) < (a1.size : Int)) := by omega
                have d2 : decide ((i : Int) < (a1.size : Int)) = true := decide_eq_true d1
                have d3 : (0 : Int) ≤ (i : Int) := by omega
                have d4 : (i : Int) ≤ (a1.size : Int) := by omega
                have d5 : (i : Int) + 1 ≤ 9223372036854775807 := by have := HSZ.out; omega
                clear H A70
                by_cases c4 : cc = 0
                · rw [if_pos c4] at h7
                  have H7 := Aside0.mk h7
                  subst c4
                  clear h7
                  go_wp2_with (go_at_call 51; (with_reducible refine (impl_countReadings.calls k1 _ _ l0 (a1.extract 0 i) 0 _ (Kd.C_below HR0.out HB1.out) HC0.out A7.out).mono ?_); rintro e w11 ⟨rfl, hb⟩; have HB11 := Aside0.mk (below_step HB1.out hb); have HL11 := Aside0.mk (Kd.R_below HL.out hb); clear hb)
                  go_roundg k1
                  case measure => omega
                  case rel => exact ⟨lst, i + 1, by simp, ⟨c3⟩, H7, ⟨by have := HK1.out; omega⟩, HL11, HB11⟩
                · rw [if_neg c4] at h7
                  have c4b : decide (cc = 0) = false := decide_eq_false c4
                  have c4d : (cc == 0) = false := beq_eq_false_iff_ne.2 c4
                  clear c4
                  split at h7
                  case isFalse => cases h7
                  rename_i hroom
                  have HROOM := Aside0.mk hroom
                  have H7 := Aside0.mk h7
                  clear h7 hroom
                  obtain ⟨rest, hrest⟩ : ∃ rest, rest = a1.extract i a1.size := ⟨_, rfl⟩
                  have HREST := Aside0.mk hrest
                  have hl9 : l0.length ≤ 9223372036854775807 := (Kd.reads_of_C (d := ByteArray.empty) HR0.out).2.1
                  have HL9 := Aside0.mk hl9
                  clear hl9 hrest
                  go_wp2_with (go_at_call 51; (with_reducible refine (impl_countReadings.calls k1 _ _ l0 (a1.extract 0 i) cc _ (Kd.C_below HR0.out HB1.out) HC0.out A7.out).mono ?_); rintro e w11 ⟨rfl, hb⟩; have HB11 := Aside0.mk (below_step HB1.out hb); have HL11 := Aside0.mk (Kd.R_below HL.out hb); clear hb)
                  go_loopg [6, 50] l0.length (fun g v6 v50 w' => ∃ (j : Nat) (l2 : List ByteArray), v50 = .int .i64 (j : Int) ∧ Aside0 (j ≤ l0.length) ∧ Aside0 (l0.length - j ≤ g) ∧ Aside0 (l2 = lst ++ missOf rest (l0.take j)) ∧ Aside0 (Kd.R Kd.string 9 w' w.heap.size (fun _ => True) v6 l2) ∧ Aside0 (Below w.heap.size w w'))
                  case atStart => exact ⟨0, lst, rfl, ⟨Nat.zero_le _⟩, ⟨by omega⟩, ⟨by simp [missOf]⟩, HL11, HB11⟩
                  case round =>
                    clear d1 d2 c4b c4d
                    obtain ⟨j, l2, rfl, HJ, HG2, HL2E, HL2, HB2⟩ := hrel
                    by_cases c5 : j < l0.length
                    · have e1 : ((j : Int) < (l0.length : Int)) := by omega
                      have e2 : decide ((j : Int) < (l0.length : Int)) = true := decide_eq_true e1
                      have e3 : (0 : Int) ≤ (j : Int) := by omega
                      have e4 : (j : Int) + 1 ≤ 9223372036854775807 := by have := HL9.out; omega
                      obtain ⟨ad0, e0, hx0⟩ := Kd.at_string (Kd.C_below HR0.out HB2.out) (j : Int) e3 e1
                      cases e0
                      obtain ⟨s, hs⟩ : ∃ s, s = rdOf ByteArray.empty l0 (j : Int) := ⟨_, rfl⟩
                      have HTK := Aside0.mk (missOf_take rest l0 j c5)
                      have HMLN := Aside0.mk (missOf_len rest (l0.take j))
                      rw [← hs] at hx0 HTK
                      rw [Int.toNat_natCast] at hx0
                      clear hs
                      cases cA : begS s rest with
                      | true =>
                        rw [cA, if_pos rfl] at HTK
                        obtain ⟨t, ht⟩ : ∃ t, t = cutS s rest := ⟨_, rfl⟩
                        have HT := Aside0.mk ht
                        rw [← ht] at HTK
                        clear ht
                        go_wp2_with (first
                          | (go_at_call 52; (try rw [← HREST.out]); (with_reducible refine (cut_calls s rest _).mono ?_); rw [if_pos cA, cA, ← HT.out]; rintro e w' ⟨rfl, rfl⟩)
                          | ((with_reducible refine gate_builtin (b := .append) (xs := #[.tmp 63, .tmp 65]) rfl ?_); at_builtin; refine Kd.R_append Kd.string (w0 := w) w.heap.size rfl (.tmp 63) (.tmp 65) 22 9 (.string ⟨#[]⟩) 16 rfl Tryd.underlying22 infoS rfl (by decide) (by omega) u6 l2 t [.string t] (fun _ => True) (fun _ => False) rfl rfl ?aP (fun _ hk => hk.elim) ?aF ?aO ?aB ?aS ?aL ?_; (case aP => exact rfl); (case aF => exact fun _ _ => trivial); (case aO => exact HL2.out); (case aB => exact HB2.out); (case aS => exact HB2.out.size); (case aL => have h1 := HROOM.out; have h2 := HMLN.out; rw [HL2E.out, List.length_append]; rw [List.length_take] at h2; omega); intro v9 w9 ho9 hb9 hg9 hat9; have HO9 := Aside0.mk ho9; have HB9 := Aside0.mk hb9; clear ho9 hb9 hg9 hat9))
                        go_roundg (l0.length - (j + 1))
                        case measure => have := HG2.out; omega
                        case rel => exact ⟨j + 1, _, by simp, ⟨c5⟩, ⟨by omega⟩, ⟨by rw [HTK.out, HL2E.out, List.append_assoc]⟩, HO9, HB9⟩
                      | false =>
                        rw [cA, if_neg (by simp)] at HTK
                        go_wp2_with (go_at_call 52; (try rw [← HREST.out]); (with_reducible refine (cut_calls s rest _).mono ?_); rw [if_neg (by rw [cA]; simp), cA]; rintro e w' ⟨rfl, rfl⟩)
                        go_roundg (l0.length - (j + 1))
                        case measure => have := HG2.out; omega
                        case rel => exact ⟨j + 1, _, by simp, ⟨c5⟩, ⟨by omega⟩, ⟨by rw [HTK.out, HL2E.out]⟩, HL2, HB2⟩
                    · obtain rfl : j = l0.length := by have := HJ.out; omega
                      have e2 : decide ((l0.length : Int) < (l0.length : Int)) = false := decide_eq_false (by omega)
                      have e5 : ¬ ((l0.length : Int) < (l0.length : Int)) := by omega
                      rw [List.take_of_length_le (Nat.le_refl _)] at HL2E
                      clear c5
                      go_wp2
                      go_roundg k1
                      case measure => omega
                      case rel => exact ⟨l2, i + 1, by simp, ⟨c3⟩, ⟨by rw [HL2E.out, HREST.out]; exact H7.out⟩, ⟨by have := HK1.out; omega⟩, HL2, HB2⟩
              · rw [if_neg c3] at H
                obtain rfl := Option.some.inj H
                obtain rfl : i = a1.size := by have := HI.out; omega
                have d1 : ¬ ((a1.size : Int) < (a1.size : Int)) := by omega
                have d2 : decide ((a1.size : Int) < (a1.size : Int)) = false := decide_eq_false d1
                have h6 := H6.out
                unfold impl_MissingBehind.end_ at h6
                split at h6
                case isFalse => cases h6
                rename_i hroom
                have HROOM := Aside0.mk hroom
                have H7 := Aside0.mk h6
                clear H c3 h6 H6 hroom
                go_wp2_with (go_at_call 53; (with_reducible refine (impl_ordered.calls _ _ lst tn _ (Kd.R_reads' HL.out).2.2 (Kd.R_reads' HL.out).2.1 A6.out).mono ?_); rintro e w12 ⟨v12, rfl, ho12, hb12⟩; obtain ⟨At, ct, et⟩ := Kd.R_slice ho12; subst et; have HT12 := Aside0.mk (Kd.R_reads' ho12).2.2; have HB12 := Aside0.mk (below_step HB1.out hb12); clear ho12 hb12)
                go_loopg [12, 74] tn.length (fun g v12 v74 w' => ∃ (j : Nat) (out : List ByteArray), v74 = .int .i64 (j : Int) ∧ Aside0 (j ≤ tn.length) ∧ Aside0 (tn.length - j ≤ g) ∧ Aside0 (missOut out (tn.drop j) = missOut [] tn ∧ out.length ≤ j) ∧ Aside0 (Kd.R Kd.string 9 w' w12.heap.size (fun _ => True) v12 out) ∧ Aside0 (Below w12.heap.size w12 w'))
                case atStart =>
                  refine ⟨0, [], rfl, ⟨Nat.zero_le _⟩, ⟨by omega⟩, ⟨by simp⟩, ⟨?_⟩, ⟨below_alloc (Below.refl _ _) _⟩⟩
                  exact Kd.R_of_own ⟨by simp [encs], .inr ⟨w12.heap.size, 0, _, rfl, Nat.le_refl _, miss_new _ _, by simp, by unfold maxLen; omega, by simp, by simp [encs]⟩⟩ (fun _ _ => trivial)
                case round =>
                  clear d1 d2
                  obtain ⟨j, out, rfl, HJ, HG2, HM, HO, HB2⟩ := hrel
                  obtain ⟨Ao, co, eo⟩ := Kd.R_slice HO.out
                  subst eo
                  by_cases c5 : j < tn.length
                  · have e1 : ((j : Int) < (tn.length : Int)) := by omega
                    have e2 : decide ((j : Int) < (tn.length : Int)) = true := decide_eq_true e1
                    have e3 : (0 : Int) ≤ (j : Int) := by omega
                    have e4 : (j : Int) + 1 ≤ 9223372036854775807 := by have := HROOM.out; omega
                    obtain ⟨ad0, e0, hx0⟩ := Kd.at_string (Kd.C_below HT12.out HB2.out) (j : Int) e3 e1
                    cases e0
                    obtain ⟨t, ht⟩ : ∃ t, t = rdOf ByteArray.empty tn (j : Int) := ⟨_, rfl⟩
                    have hdrop : tn.drop j = t :: tn.drop (j + 1) := by
                      rw [List.drop_eq_getElem_cons c5, ht]; simp [rdOf, List.getD_eq_getElem?_getD, c5]
                    rw [← ht] at hx0
                    rw [Int.toNat_natCast] at hx0
                    have hm := HM.out.1
                    rw [hdrop, missOut] at hm
                    have hcon := miss_has Ao co out wr t (Kd.R_reads' HO.out).2.2
                    clear ht hdrop
                    cases hany : out.any (begS t) with
                    | true =>
                      rw [hany] at hcon
                      rw [hany, if_pos rfl] at hm
                      have HMM := Aside0.mk hm
                      clear hm hany
                      go_wp2_with (go_at_call 54; (with_reducible refine hcon.mono ?_); rintro e w14 ⟨rfl, q, hw14⟩; have HB14 := Aside0.mk (show Below w12.heap.size w12 w14 from by rw [hw14]; exact pw_below_drewN (below_alloc HB2.out _) q); have HO14 := Aside0.mk (show Kd.R Kd.string 9 w14 w12.heap.size (fun _ => True) (.slice Ao out.length co) out from by rw [hw14]; exact Kd.R_drewN (Kd.R_alloc HO.out _) q); have hx14 : w14.cell? ⟨wr.heap.size, 0, none⟩ = some (.string t) := (by rw [hw14]; exact cell_of_one (miss_new wr _)); clear hw14)
                      go_roundg (tn.length - (j + 1))
                      case measure => have := HG2.out; omega
                      case rel => exact ⟨j + 1, out, by simp, ⟨c5⟩, ⟨by omega⟩, ⟨HMM.out, by have := HM.out.2; omega⟩, HO14, HB14⟩
                    | false =>
                      rw [hany] at hcon
                      rw [hany, if_neg (by simp)] at hm
                      have HMM := Aside0.mk hm
                      clear hm hany
                      go_wp2_with (first
                        | (go_at_call 54; (with_reducible refine hcon.mono ?_); rintro e w14 ⟨rfl, q, hw14⟩; have HB14 := Aside0.mk (show Below w12.heap.size w12 w14 from by rw [hw14]; exact pw_below_drewN (below_alloc HB2.out _) q); have HO14 := Aside0.mk (show Kd.R Kd.string 9 w14 w12.heap.size (fun _ => True) (.slice Ao out.length co) out from by rw [hw14]; exact Kd.R_drewN (Kd.R_alloc HO.out _) q); have hx14 : w14.cell? ⟨wr.heap.size, 0, none⟩ = some (.string t) := (by rw [hw14]; exact cell_of_one (miss_new wr _)); clear hw14)
                        | ((with_reducible refine gate_builtin (b := .append) (xs := #[.tmp 82, .tmp 84]) rfl ?_); at_builtin; refine Kd.R_append Kd.string (w0 := w12) w12.heap.size rfl (.tmp 82) (.tmp 84) 22 9 (.string ⟨#[]⟩) 16 rfl Tryd.underlying22 infoS rfl (by decide) (by omega) (.slice Ao out.length co) out t [.string t] (fun _ => True) (fun _ => False) rfl rfl ?aP (fun _ hk => hk.elim) ?aF ?aO ?aB ?aS ?aL ?_; (case aP => exact rfl); (case aF => exact fun _ _ => trivial); (case aO => exact HO14.out); (case aB => exact HB14.out); (case aS => exact HB14.out.size); (case aL => have h1 := HROOM.out; have h2 := HM.out.2; omega); intro v9 w9 ho9 hb9 hg9 hat9; have HO9 := Aside0.mk ho9; have HB9 := Aside0.mk hb9; clear ho9 hb9 hg9 hat9))
                      go_roundg (tn.length - (j + 1))
                      case measure => have := HG2.out; omega
                      case rel => exact ⟨j + 1, out ++ [t], by simp, ⟨c5⟩, ⟨by omega⟩, ⟨HMM.out, by have := HM.out.2; simp; omega⟩, HO9, HB9⟩
                  · obtain rfl : j = tn.length := by have := HJ.out; omega
                    have e2 : decide ((tn.length : Int) < (tn.length : Int)) = false := decide_eq_false (by omega)
                    have e5 : ¬ ((tn.length : Int) < (tn.length : Int)) := by omega
                    have hm := HM.out.1
                    rw [List.drop_of_length_le (Nat.le_refl _), missOut] at hm
                    have h7 := H7.out
                    rw [← hm] at h7
                    clear c5 hm
                    split at h7
                    · rename_i hg
                      obtain ⟨rfl, rfl⟩ : [] = r1 ∧ false = r2 := by simpa using h7
                      have g1 : decide ((out.length : Int) > 12) = true := decide_eq_true (by omega)
                      have g2 : decide (12 < out.length) = true := decide_eq_true hg
                      clear h7 hg
                      go_wp2
                      go_ret2
                      exact ⟨_, rfl, Kd.R_nil Kd.string _ _ _ _, below_step HB12.out HB2.out⟩
                    · rename_i hg
                      obtain ⟨rfl, rfl⟩ : out = r1 ∧ true = r2 := by simpa using h7
                      have g1 : decide ((out.length : Int) > 12) = false := decide_eq_false (by omega)
                      have g2 : decide (12 < out.length) = false := decide_eq_false hg
                      clear h7 hg
                      go_wp2
                      go_ret2
                      exact ⟨_, rfl, Kd.R_lower HO.out HB12.out.size, below_step HB12.out HB2.out⟩

/-! ### laws_markText: function 57 -/
def laws_markText.l0 : Nat → Int → ByteArray → Option (ByteArray)
  | 0, _, _ => none
  | k + 1, x0, x3 => if x0 > 0 then ((some (([(wrap64 (48 + (Int.tmod x0 10))) % 256] : List Int) : List Int)).bind fun y239 => (if (strOfNums y239).size + x3.size ≤ 9223372036854775807 then (laws_markText.l0 k (wrap64 (Int.tdiv x0 10)) ((strOfNums y239) ++ x3)) else (none))) else (if 1 + x3.size ≤ 9223372036854775807 then (some ((⟨#[109]⟩ : ByteArray) ++ x3)) else (none))
def laws_markText.f (k : Nat) (a0 : Int) : Option (ByteArray) := if a0 ≤ 0 then (some (⟨#[109, 48]⟩ : ByteArray)) else (laws_markText.l0 k a0 (⟨#[]⟩ : ByteArray))
theorem laws_markText.mono_l : ∀ k, (∀ y0 y1, LeO (laws_markText.l0 k y0 y1) (laws_markText.l0 (k + 1) y0 y1))
  | 0 => fun _ _ r h => by simp [laws_markText.l0] at h
  | k + 1 => by
    have ih0 := laws_markText.mono_l k
    · intro y0 y1
      unfold laws_markText.l0
      repeat' first
      | (with_reducible exact ih0 _ _)
      | (with_reducible exact LeO.refl _)
      | (with_reducible exact LeO.none _)
      | (with_reducible refine LeO.ite ?_ ?_)
      | (with_reducible refine LeO.bind ?_ (fun _ => ?_))
      | exact ih0 _ _
      | exact LeO.none _
      | refine LeO.ite ?_ ?_
      | refine LeO.bind ?_ (fun _ => ?_)
theorem laws_markText.mono : ∀ a0 k, LeO (laws_markText.f k a0) (laws_markText.f (k + 1) a0) := by
  intro a0 k
  have ih0 := laws_markText.mono_l k
  unfold laws_markText.f
  repeat' first
      | (with_reducible exact ih0 _ _)
      | (with_reducible exact LeO.refl _)
      | (with_reducible exact LeO.none _)
      | (with_reducible refine LeO.ite ?_ ?_)
      | (with_reducible refine LeO.bind ?_ (fun _ => ?_))
      | exact ih0 _ _
      | exact LeO.none _
      | refine LeO.ite ?_ ?_
      | refine LeO.bind ?_ (fun _ => ?_)
set_option maxHeartbeats 8000000 in
set_option maxRecDepth 100000 in
theorem laws_markText.calls (k : Nat) (a0 : Int) (r : ByteArray) (w : World) (h : laws_markText.f k a0 = some r) :
    Calls Tryd.prog 57 #[.int .i64 a0] w fun e w' => e = .returned (.string r) ∧ Below w.heap.size w w' := by
  have HB := Aside0.mk (Below.refl w.heap.size w)
  have H : (if a0 ≤ 0 then (some (⟨#[109, 48]⟩ : ByteArray)) else (laws_markText.l0 k a0 (⟨#[]⟩ : ByteArray))) = some r := h
  clear h
  by_cases c2 : a0 ≤ 0
  · rw [if_pos c2] at H
    have c2b0 : decide (a0 ≤ 0) = true := decide_eq_true c2
    clear c2
    obtain rfl := Option.some.inj H
    go_enter Tryd.func57, Tryd.ntmps57
    go_wp2
    go_ret
    exact ⟨by first | rfl | (simp [errW_none, errW_some] <;> rfl) | (simp [*, errW_none, errW_some] <;> rfl), by repeat (first | (with_reducible first | exact HB.out | apply below_alloc | apply pw_below_drewN | apply below_drew1) | exact HB.out)⟩
  · rw [if_neg c2] at H
    have c2b0 : decide (a0 ≤ 0) = false := decide_eq_false c2
    clear c2
    have H' := Aside0.mk H
    clear H
    go_enter Tryd.func57, Tryd.ntmps57
    go_wp2
    go_loopg [0, 3] k (fun kq v0 v3 w' => ∃ (x0_1 : Int) (x3_1 : ByteArray), v0 = .int .i64 x0_1 ∧ v3 = .string x3_1 ∧ Aside0 (laws_markText.l0 kq x0_1 x3_1 = some r) ∧ Aside0 (kq ≤ k) ∧ Aside0 (Below w.heap.size w w'))
    case atStart => exact ⟨(a0), ((⟨#[]⟩ : ByteArray)), (by first | rfl | (simp; done) | (simp [*]; done) | (simp only [IntWalk.i64_left]; done) | (simp [IntWalk.i64_left]; done) | (simp [*, IntWalk.i64_left]; done)), (by first | rfl | (simp; done) | (simp [*]; done) | (simp only [IntWalk.i64_left]; done) | (simp [IntWalk.i64_left]; done) | (simp [*, IntWalk.i64_left]; done)), H', ⟨Nat.le_refl _⟩, ⟨by repeat (first | (with_reducible first | exact HB.out | apply below_alloc | apply pw_below_drewN | apply below_drew1) | exact HB.out)⟩⟩
    case round =>
      clear H'
      try clear c2
      try clear c2b0
      try clear p2
      obtain ⟨x0_1, x3_1, rfl, rfl, HA, HK1, HB⟩ := hrel
      cases gk with
      | zero => exact absurd HA.out (by simp [laws_markText.l0])
      | succ k1 =>
        have H := HA.out
        clear HA
        simp only [laws_markText.l0] at H
        by_cases c3 : x0_1 > 0
        · rw [if_pos c3] at H
          have c3b0 : decide (0 < x0_1) = true := decide_eq_true c3
          clear c3
          obtain ⟨y239, hy239⟩ : ∃ y_ : List Int, y_ = (([(wrap64 (48 + (Int.tmod x0_1 10))) % 256] : List Int)) := ⟨_, rfl⟩
          replace H : (if (strOfNums y239).size + x3_1.size ≤ 9223372036854775807 then (laws_markText.l0 k1 (wrap64 (Int.tdiv x0_1 10)) ((strOfNums y239) ++ x3_1)) else (none)) = some r := by first | (rw [hy239]; with_reducible exact H) | (have H2_ := (Option.bind_some _ _).symm.trans H; rw [hy239]; with_reducible exact H2_) | (have H2_ := (Option.bind_some _ _).symm.trans H; with_reducible exact H2_) | with_reducible exact H | (rw [hy239]; exact H) | exact H
          have Ny239 := Aside0.mk hy239
          clear hy239
          by_cases c4 : (strOfNums y239).size + x3_1.size ≤ 9223372036854775807
          · rw [if_pos c4] at H
            have c4b0 := eq_true c4
            have c4b1 : decide ((strOfNums y239).size + x3_1.size ≤ 9223372036854775807) = true := decide_eq_true c4
            try have c4b2 : (9223372036854775807 < (strOfNums y239).size + x3_1.size) = False := eq_false (Nat.not_lt.2 c4)
            have H' := Aside0.mk H
            clear H
            go_wp2_with (first | ((with_reducible refine gate_dst (N := 12) rfl ?_); refine Kd.R_lit (Kd.int .u8) _ 5 ?hg (N := 12) ?hd (xs := ([(wrap64 (48 + (Int.tmod x0_1 10))) % 256] : List Int)) (inner := [.int .u8 ((wrap64 (48 + (Int.tmod x0_1 10))) % 256)]) (ok := fun _ => True) (okp := fun _ => True) ?hr ?hp (fun _ hk => hk) trivial (Below.refl _ _) (Nat.le_refl _) (by simp) ?_; (case hd => rfl); (case hg => rfl); (case hr => first | (go_simp; done) | (go_simp; rfl)); (case hp => exact (Reps.one (show Kd.M (Kd.int .u8) _ _ _ ((wrap64 (48 + (Int.tmod x0_1 10))) % 256) [.int .u8 ((wrap64 (48 + (Int.tmod x0_1 10))) % 256)] from rfl) (Reps.none _ _))); intro v240 w5 ho6 hb hg_ hnew_; clear hg_ hnew_; (first | rw [← Ny239.out] at ho6 | (simp only [Int.reduceToNat] at ho6; rw [← Ny239.out] at ho6)); have n0_ := Aside0.mk (Kd.R_lower ho6 (below_size (by repeat (first | (with_reducible first | exact HB.out | apply below_alloc | apply pw_below_drewN | apply below_drew1) | exact HB.out)))); have n1_ := Aside0.mk (below_step (by repeat (first | (with_reducible first | exact HB.out | apply below_alloc | apply pw_below_drewN | apply below_drew1) | exact HB.out)) hb); clear HB; have HO241 := n0_; have HB := n1_; clear n0_ n1_; clear hb ho6; have hcv7 := own_string (P := Tryd.prog) Tryd.underlying89 Tryd.underlying5 Tryd.underlying9 (Kd.own_of_R HO241.out)))
            go_roundg k1
            case measure => have := HK1.out; omega
            case rel => exact ⟨(wrap64 (Int.tdiv x0_1 10)), ((strOfNums y239) ++ x3_1), (by first | rfl | (simp; done) | (simp [*]; done) | (simp only [IntWalk.i64_left]; done) | (simp [IntWalk.i64_left]; done) | (simp [*, IntWalk.i64_left]; done)), (by first | rfl | (simp; done) | (simp [*]; done) | (simp only [IntWalk.i64_left]; done) | (simp [IntWalk.i64_left]; done) | (simp [*, IntWalk.i64_left]; done)), H', ⟨by have := HK1.out; omega⟩, ⟨by repeat (first | (with_reducible first | exact HB.out | apply below_alloc | apply pw_below_drewN | apply below_drew1) | exact HB.out)⟩⟩
          · rw [if_neg c4] at H
            exact absurd H (by simp)
        · rw [if_neg c3] at H
          have c3b0 : decide (0 < x0_1) = false := decide_eq_false c3
          clear c3
          by_cases c8 : 1 + x3_1.size ≤ 9223372036854775807
          · rw [if_pos c8] at H
            have c8b0 := eq_true c8
            have c8b1 : decide (1 + x3_1.size ≤ 9223372036854775807) = true := decide_eq_true c8
            try have c8b2 : (9223372036854775807 < 1 + x3_1.size) = False := eq_false (Nat.not_lt.2 c8)
            obtain rfl := Option.some.inj H
            go_wp2
            go_ret
            exact ⟨by first | rfl | (simp [errW_none, errW_some] <;> rfl) | (simp [*, errW_none, errW_some] <;> rfl), by repeat (first | (with_reducible first | exact HB.out | apply below_alloc | apply pw_below_drewN | apply below_drew1) | exact HB.out)⟩
          · rw [if_neg c8] at H
            exact absurd H (by simp)

/-! ### laws_markStringS: function 21 -/
def laws_markStringS.l0 : Nat → List ByteArray → Int → Int → Option (Int × List ByteArray)
  | 0, _, _, _ => none
  | k + 1, x0, x1, x5 => if x5 < (x0.length : Int) then ((laws_markText.f k x1).bind fun t242 => (if 0 ≤ x5 then (laws_markStringS.l0 k (x0.set (x5 : Int).toNat t242) (wrap64 (x1 + 1)) (wrap64 (x5 + 1))) else (none))) else (some (x1, x0))
def laws_markStringS.f (k : Nat) (l0 : List ByteArray) (a1 : Int) : Option (Int × List ByteArray) := laws_markStringS.l0 k l0 a1 0
theorem laws_markStringS.mono_l : ∀ k, (∀ y0 y1 y2, LeO (laws_markStringS.l0 k y0 y1 y2) (laws_markStringS.l0 (k + 1) y0 y1 y2))
  | 0 => fun _ _ _ r h => by simp [laws_markStringS.l0] at h
  | k + 1 => by
    have ih0 := laws_markStringS.mono_l k
    · intro y0 y1 y2
      unfold laws_markStringS.l0
      repeat' first
      | (with_reducible exact ih0 _ _ _)
      | (with_reducible exact laws_markText.mono _ _)
      | (with_reducible exact LeO.refl _)
      | (with_reducible exact LeO.none _)
      | (with_reducible refine LeO.ite ?_ ?_)
      | (with_reducible refine LeO.bind ?_ (fun _ => ?_))
      | exact ih0 _ _ _
      | exact laws_markText.mono _ _
      | exact LeO.none _
      | refine LeO.ite ?_ ?_
      | refine LeO.bind ?_ (fun _ => ?_)
theorem laws_markStringS.mono : ∀ a0 a1 k, LeO (laws_markStringS.f k a0 a1) (laws_markStringS.f (k + 1) a0 a1) := by
  intro a0 a1 k
  have ih0 := laws_markStringS.mono_l k
  unfold laws_markStringS.f
  repeat' first
      | (with_reducible exact ih0 _ _ _)
      | (with_reducible exact laws_markText.mono _ _)
      | (with_reducible exact LeO.refl _)
      | (with_reducible exact LeO.none _)
      | (with_reducible refine LeO.ite ?_ ?_)
      | (with_reducible refine LeO.bind ?_ (fun _ => ?_))
      | exact ih0 _ _ _
      | exact laws_markText.mono _ _
      | exact LeO.none _
      | refine LeO.ite ?_ ?_
      | refine LeO.bind ?_ (fun _ => ?_)
set_option maxHeartbeats 8000000 in
set_option maxRecDepth 100000 in
theorem laws_markStringS.calls (k : Nat) (P0_ : Nat → Prop) (u9000_ : Value) (l0 : List ByteArray) (a1 : Int) (r1 : Int) (r2 : List ByteArray) (w0 w : World) (hB : Below w0.heap.size w0 w) (ho0 : Kd.R Kd.string 9 w w0.heap.size P0_ u9000_ l0) (h : laws_markStringS.f k l0 a1 = some (r1, r2)) :
    Calls Tryd.prog 21 #[u9000_, .int .i64 a1] w fun e w' => e = .returned (.int .i64 r1) ∧ Kd.R Kd.string 9 w' w0.heap.size (fun k_ => (P0_ k_ ∨ w.heap.size ≤ k_)) u9000_ r2 ∧ Below w0.heap.size w0 w' ∧ Kept w w' (fun k_ => P0_ k_) := by
  have HO0 := Aside0.mk (show Kd.R Kd.string 9 w w0.heap.size (fun k_ => (P0_ k_ ∨ w.heap.size ≤ k_)) u9000_ l0 from Kd.R_mono ho0 (fun k_ hk => (.inl hk)))
  have HK := Aside0.mk (Kept.refl w (fun k_ => P0_ k_))
  have HW0 := Aside0.mk hB.size
  have HB := Aside0.mk hB
  clear hB
  have H : (laws_markStringS.l0 k l0 a1 0) = some (r1, r2) := h
  clear h
  have H' := Aside0.mk H
  clear H
  go_enter Tryd.func21, Tryd.ntmps21
  go_wp2
  go_loopg [1, 5] k (fun kq v1 v5 w' => ∃ (x0_1 : List ByteArray) (x1_1 : Int) (x5_1 : Int), v1 = .int .i64 x1_1 ∧ v5 = .int .i64 x5_1 ∧ Aside0 (laws_markStringS.l0 kq x0_1 x1_1 x5_1 = some (r1, r2)) ∧ Aside0 (kq ≤ k) ∧ Aside0 (Kd.R Kd.string 9 w' w0.heap.size (fun k_ => (P0_ k_ ∨ w.heap.size ≤ k_)) u9000_ x0_1) ∧ Aside0 (Kept w w' (fun k_ => P0_ k_)) ∧ Aside0 (Below w0.heap.size w0 w'))
  case atStart => exact ⟨(l0), (a1), (0), (by first | rfl | (simp; done) | (simp [*]; done) | (simp only [IntWalk.i64_left]; done) | (simp [IntWalk.i64_left]; done) | (simp [*, IntWalk.i64_left]; done)), (by first | rfl | (simp; done) | (simp [*]; done) | (simp only [IntWalk.i64_left]; done) | (simp [IntWalk.i64_left]; done) | (simp [*, IntWalk.i64_left]; done)), H', ⟨Nat.le_refl _⟩, ⟨by (with_reducible repeat (first | apply Kd.R_alloc | apply Kd.R_drewN | apply Kd.R_drew)); exact HO0.out⟩, ⟨by repeat (first | (with_reducible first | exact HK.out | apply Kept.alloc | apply Kept.drewN | apply Kept.drew) | exact HK.out)⟩, ⟨by repeat (first | (with_reducible first | exact HB.out | apply below_alloc | apply pw_below_drewN | apply below_drew1) | exact HB.out)⟩⟩
  case round =>
    clear H'
    try clear c2
    try clear p2
    obtain ⟨x0_1, x1_1, x5_1, rfl, rfl, HA, HK1, HO_0, HK, HB⟩ := hrel
    cases gk with
    | zero => exact absurd HA.out (by simp [laws_markStringS.l0])
    | succ k1 =>
      have H := HA.out
      clear HA
      simp only [laws_markStringS.l0] at H
      by_cases c3 : x5_1 < (x0_1.length : Int)
      · rw [if_pos c3] at H
        have c3b0 : decide (x5_1 < (x0_1.length : Int)) = true := decide_eq_true c3
        clear c3
        replace H := Option.bind_eq_some_iff.mp H
        obtain ⟨t242, A40, H⟩ := H
        replace H : (if 0 ≤ x5_1 then (laws_markStringS.l0 k1 (x0_1.set (x5_1 : Int).toNat t242) (wrap64 (x1_1 + 1)) (wrap64 (x5_1 + 1))) else (none)) = some (r1, r2) := H
        have A4 := Aside0.mk A40
        clear A40
        by_cases c5 : 0 ≤ x5_1
        · rw [if_pos c5] at H
          have c5b0 : decide (0 ≤ x5_1) = true := decide_eq_true c5
          clear c5
          obtain ⟨y243, hy243⟩ : ∃ y_ : List ByteArray, y_ = (x0_1.set (x5_1 : Int).toNat t242) := ⟨_, rfl⟩
          replace H : (laws_markStringS.l0 k1 y243 (wrap64 (x1_1 + 1)) (wrap64 (x5_1 + 1))) = some (r1, r2) := by first | (rw [hy243]; with_reducible exact H) | (have H2_ := (Option.bind_some _ _).symm.trans H; rw [hy243]; with_reducible exact H2_) | (have H2_ := (Option.bind_some _ _).symm.trans H; with_reducible exact H2_) | with_reducible exact H | (rw [hy243]; exact H) | exact H
          have Ny243 := Aside0.mk hy243
          clear hy243
          have H' := Aside0.mk H
          clear H
          obtain ⟨Ao7, co7, eo7⟩ := Kd.R_slice HO_0.out
          subst eo7
          go_wp2_with (first | ((with_reducible refine gate_callee (f := 57) rfl ?_); refine goesL_ (some 15) rfl rfl Tryd.func57 (by kernel_rfl) rfl #[.int .i64 x1_1] rfl (by (try simp only [List.map_toArray, List.map_cons, List.map_nil]); first | done | rfl | (simp only [List.length_drop, List.length_take]; rfl)) ?_; (with_reducible refine (laws_markText.calls k1 x1_1 t242 _ A4.out).mono ?_); rintro e w8 ⟨rfl, hb⟩; refine ⟨_, rfl, ?_⟩; have n0_ := Aside0.mk (Kd.R_below (by (with_reducible repeat (first | apply Kd.R_alloc | apply Kd.R_drewN | apply Kd.R_drew)); exact HO_0.out) hb); have n1_ := Aside0.mk (Kept.below (S := (fun k_ => P0_ k_)) (by repeat (first | (with_reducible first | exact HK.out | apply Kept.alloc | apply Kept.drewN | apply Kept.drew) | exact HK.out)) hb); have n2_ := Aside0.mk (below_step (by repeat (first | (with_reducible first | exact HB.out | apply below_alloc | apply pw_below_drewN | apply below_drew1) | exact HB.out)) hb); clear HO_0; clear HK; clear HB; have HO_0 := n0_; have HK := n1_; have HB := n2_; clear n0_ n1_ n2_; (try clear hb); (try clear hb2); (try clear hk); (try clear hi); have p6 : 0 ≤ (x5_1 : Int) := of_decide_eq_true (by first | (with_reducible assumption) | assumption); have q6 : (x5_1 : Int) < ((x0_1.length : Int) : Int) := of_decide_eq_true (by first | (with_reducible assumption) | assumption); obtain ⟨go6, co6, eo6, gb6, gl6, cl6, HG6⟩ := Kd.R_form HO_0.out (by omega); (first | cases eo6 | (injection eo6 with ea_ en_ ec_; (first | subst ea_ | (injection ea_ with ea_; subst ea_)); subst ec_; clear en_)); have GB6 := Aside0.mk gb6; have GG6 := Aside0.mk HG6; clear gb6 gl6 HG6; have HMgo6 := Aside0.mk (show (P0_ go6 ∨ w.heap.size ≤ go6) from (HO_0.out.1 _ rfl)); obtain ⟨hx6_0, hf6_0⟩ := Kd.R_celln (⟨#[]⟩ : ByteArray) HO_0.out (x5_1 : Int) p6 q6; replace p6 := eq_true p6; replace q6 := eq_true q6; obtain ⟨hy9_, hz9_⟩ := Kd.R_celln (⟨#[]⟩ : ByteArray) HO_0.out (x5_1 : Int) (of_decide_eq_true (by first | (with_reducible assumption) | assumption)) (of_decide_eq_true (by first | (with_reducible assumption) | assumption)); have HP9 := Kd.R_putg HO_0.out (x5_1 : Int) t242) | ((with_reducible refine gate_store (t := 9) (p := 16) rfl ?_); refine store_event (t := 9) (p := 16) (v := ?vo_w10) (w1 := (w8.setCell ⟨go6, (x5_1 : Int).toNat, none⟩ (.string t242))) ?hg ?ho ?hn ?hr ?_; (case ho => rfl); (case hg => rfl); (case hn => rfl); (case hr => first | (go_simp; done) | (go_simp; rfl)); intro w10 hw; have hg : w8.grownBy w10 (some go6) := (by rw [hw]; exact HP9.2); have hp_ : Kd.R Kd.string 9 w10 w0.heap.size (fun k_ => (P0_ k_ ∨ w.heap.size ≤ k_)) (.slice (some ⟨go6, 0, none⟩) x0_1.length co7) y243 := (by rw [hw, Ny243.out]; exact HP9.1); clear HP9; have n0_ := Aside0.mk (hp_); have n1_ := Aside0.mk ((by rw [hw]; exact below_set (HB.out) GB6.out : Below w0.heap.size w0 w10)); have n2_ := Aside0.mk (Kept.of_grown (S := (fun k_ => P0_ k_)) hg (by repeat (first | (with_reducible first | exact HK.out | apply Kept.alloc | apply Kept.drewN | apply Kept.drew) | exact HK.out)) (fun k_ e_ => (HO_0.out.1 k_ e_))); clear HO_0; clear HB; clear HK; have HO_0 := n0_; have HB := n1_; have HK := n2_; clear n0_ n1_ n2_; clear hg hw hp_))
          go_roundg k1
          case measure => have := HK1.out; omega
          case rel => exact ⟨(y243), (wrap64 (x1_1 + 1)), (wrap64 (x5_1 + 1)), (by first | rfl | (simp; done) | (simp [*]; done) | (simp only [IntWalk.i64_left]; done) | (simp [IntWalk.i64_left]; done) | (simp [*, IntWalk.i64_left]; done)), (by first | rfl | (simp; done) | (simp [*]; done) | (simp only [IntWalk.i64_left]; done) | (simp [IntWalk.i64_left]; done) | (simp [*, IntWalk.i64_left]; done)), H', ⟨by have := HK1.out; omega⟩, ⟨by (with_reducible repeat (first | apply Kd.R_alloc | apply Kd.R_drewN | apply Kd.R_drew)); exact HO_0.out⟩, ⟨by repeat (first | (with_reducible first | exact HK.out | apply Kept.alloc | apply Kept.drewN | apply Kept.drew) | exact HK.out)⟩, ⟨by repeat (first | (with_reducible first | exact HB.out | apply below_alloc | apply pw_below_drewN | apply below_drew1) | exact HB.out)⟩⟩
        · rw [if_neg c5] at H
          exact absurd H (by simp)
      · rw [if_neg c3] at H
        have c3b0 : decide (x5_1 < (x0_1.length : Int)) = false := decide_eq_false c3
        clear c3
        simp only [Option.some.injEq, Prod.mk.injEq] at H
        obtain ⟨rfl, rfl⟩ := H
        obtain ⟨Ao11, co11, eo11⟩ := Kd.R_slice HO_0.out
        subst eo11
        go_wp2
        go_ret
        exact ⟨by first | rfl | (simp [errW_none, errW_some] <;> rfl) | (simp [*, errW_none, errW_some] <;> rfl), by (with_reducible repeat (first | apply Kd.R_alloc | apply Kd.R_drewN | apply Kd.R_drew)); exact HO_0.out, by repeat (first | (with_reducible first | exact HB.out | apply below_alloc | apply pw_below_drewN | apply below_drew1) | exact HB.out), by repeat (first | (with_reducible first | exact HK.out | apply Kept.alloc | apply Kept.drewN | apply Kept.drew) | exact HK.out)⟩

/-! ### laws_heldStringS: function 22 -/
def laws_heldStringS.l0 : Nat → List ByteArray → Int → Int → Option (Int)
  | 0, _, _, _ => none
  | k + 1, x0, x1, x5 => if x5 < (x0.length : Int) then (if 0 ≤ x5 then ((laws_markText.f k x1).bind fun t245 => (if (rdOf ByteArray.empty x0 x5).toList = t245.toList then (laws_heldStringS.l0 k x0 (wrap64 (x1 + 1)) (wrap64 (x5 + 1))) else (some (-1)))) else (none)) else (some x1)
def laws_heldStringS.f (k : Nat) (l0 : List ByteArray) (a1 : Int) : Option (Int) := laws_heldStringS.l0 k l0 a1 0
theorem laws_heldStringS.mono_l : ∀ k, (∀ y0 y1 y2, LeO (laws_heldStringS.l0 k y0 y1 y2) (laws_heldStringS.l0 (k + 1) y0 y1 y2))
  | 0 => fun _ _ _ r h => by simp [laws_heldStringS.l0] at h
  | k + 1 => by
    have ih0 := laws_heldStringS.mono_l k
    · intro y0 y1 y2
      unfold laws_heldStringS.l0
      repeat' first
      | (with_reducible exact ih0 _ _ _)
      | (with_reducible exact laws_markText.mono _ _)
      | (with_reducible exact LeO.refl _)
      | (with_reducible exact LeO.none _)
      | (with_reducible refine LeO.ite ?_ ?_)
      | (with_reducible refine LeO.bind ?_ (fun _ => ?_))
      | exact ih0 _ _ _
      | exact laws_markText.mono _ _
      | exact LeO.none _
      | refine LeO.ite ?_ ?_
      | refine LeO.bind ?_ (fun _ => ?_)
theorem laws_heldStringS.mono : ∀ a0 a1 k, LeO (laws_heldStringS.f k a0 a1) (laws_heldStringS.f (k + 1) a0 a1) := by
  intro a0 a1 k
  have ih0 := laws_heldStringS.mono_l k
  unfold laws_heldStringS.f
  repeat' first
      | (with_reducible exact ih0 _ _ _)
      | (with_reducible exact laws_markText.mono _ _)
      | (with_reducible exact LeO.refl _)
      | (with_reducible exact LeO.none _)
      | (with_reducible refine LeO.ite ?_ ?_)
      | (with_reducible refine LeO.bind ?_ (fun _ => ?_))
      | exact ih0 _ _ _
      | exact laws_markText.mono _ _
      | exact LeO.none _
      | refine LeO.ite ?_ ?_
      | refine LeO.bind ?_ (fun _ => ?_)
set_option maxHeartbeats 8000000 in
set_option maxRecDepth 100000 in
theorem laws_heldStringS.calls (k : Nat) (A0 : Option Addr) (c0 : Nat) (l0 : List ByteArray) (a1 : Int) (r : Int) (w : World) (hr0 : Kd.C Kd.string w A0 l0.length l0) (hc0 : l0.length ≤ c0) (h : laws_heldStringS.f k l0 a1 = some r) :
    Calls Tryd.prog 22 #[.slice A0 l0.length c0, .int .i64 a1] w fun e w' => e = .returned (.int .i64 r) ∧ Below w.heap.size w w' := by
  have HR0 := Aside0.mk hr0
  have HC0 := Aside0.mk hc0
  clear hr0 hc0
  have HB := Aside0.mk (Below.refl w.heap.size w)
  have H : (laws_heldStringS.l0 k l0 a1 0) = some r := h
  clear h
  have H' := Aside0.mk H
  clear H
  go_enter Tryd.func22, Tryd.ntmps22
  go_wp2
  go_loopg [1, 5] k (fun kq v1 v5 w' => ∃ (x1_1 : Int) (x5_1 : Int), v1 = .int .i64 x1_1 ∧ v5 = .int .i64 x5_1 ∧ Aside0 (laws_heldStringS.l0 kq l0 x1_1 x5_1 = some r) ∧ Aside0 (kq ≤ k) ∧ Aside0 (Below w.heap.size w w'))
  case atStart => exact ⟨(a1), (0), (by first | rfl | (simp; done) | (simp [*]; done) | (simp only [IntWalk.i64_left]; done) | (simp [IntWalk.i64_left]; done) | (simp [*, IntWalk.i64_left]; done)), (by first | rfl | (simp; done) | (simp [*]; done) | (simp only [IntWalk.i64_left]; done) | (simp [IntWalk.i64_left]; done) | (simp [*, IntWalk.i64_left]; done)), H', ⟨Nat.le_refl _⟩, ⟨by repeat (first | (with_reducible first | exact HB.out | apply below_alloc | apply pw_below_drewN | apply below_drew1) | exact HB.out)⟩⟩
  case round =>
    clear H'
    try clear c2
    try clear p2
    obtain ⟨x1_1, x5_1, rfl, rfl, HA, HK1, HB⟩ := hrel
    cases gk with
    | zero => exact absurd HA.out (by simp [laws_heldStringS.l0])
    | succ k1 =>
      have H := HA.out
      clear HA
      simp only [laws_heldStringS.l0] at H
      by_cases c3 : x5_1 < (l0.length : Int)
      · rw [if_pos c3] at H
        have c3b0 : decide (x5_1 < (l0.length : Int)) = true := decide_eq_true c3
        clear c3
        by_cases c4 : 0 ≤ x5_1
        · rw [if_pos c4] at H
          have c4b0 : decide (0 ≤ x5_1) = true := decide_eq_true c4
          clear c4
          replace H := Option.bind_eq_some_iff.mp H
          obtain ⟨t245, A50, H⟩ := H
          replace H : (if (rdOf ByteArray.empty l0 x5_1).toList = t245.toList then (laws_heldStringS.l0 k1 l0 (wrap64 (x1_1 + 1)) (wrap64 (x5_1 + 1))) else (some (-1))) = some r := H
          have A5 := Aside0.mk A50
          clear A50
          by_cases c6 : (rdOf ByteArray.empty l0 x5_1).toList = t245.toList
          · rw [if_pos c6] at H
            have c6b0 : ((rdOf ByteArray.empty l0 x5_1).toList == t245.toList) = true := beq_iff_eq.mpr c6
            have c6b1 : ((rdOf ByteArray.empty l0 x5_1).toList != t245.toList) = false := bne_eq_false_iff_eq.mpr c6
            clear c6
            have H' := Aside0.mk H
            clear H
            try go_wp2
            have n0_ := Aside0.mk (below_drew1 HB.out)
            clear HB
            have HB := n0_
            clear n0_
            have p244 : 0 ≤ (x5_1 : Int) := of_decide_eq_true (by first | (with_reducible assumption) | assumption)
            have q244 : x5_1 < (l0.length : Int) := of_decide_eq_true (by first | (with_reducible assumption) | assumption)
            obtain ⟨ad244, e244, hx244_0⟩ := Kd.at_string HR0.out x5_1 p244 q244
            have hw244_0 := hx244_0
            cases e244
            replace hx244_0 := (HB.out.cell (World.block_lt_of_cell? w _ hx244_0)).trans hx244_0
            replace p244 := eq_true p244
            replace q244 := eq_true q244
            refine start_ (n := 7) (S := fun w' => w'.cell? (ad244.add (x5_1).toNat) = some (.string (rdOf ByteArray.empty l0 x5_1))) (ds := []) #[false, false, false, false, false, false, false] (by kernel_rfl) rfl rfl (((HB.out.cell (World.block_lt_of_cell? w _ hw244_0)).trans hw244_0)) (fun hHeld => ?_)
            generalize wr.drew = w7 at HB hx244_0 hHeld ⊢
            refine pure_ (i := 0) (N := some 12) (v := ?_) (a' := ?_) #[true, false, false, false, false, false, false] rfl rfl (by kernel_rfl) (fun _ _ _ h => h) (Or.inl ⟨by rfl, ?_⟩) ?_ ?_
            rotate_left
            · intro w'
              go_simp
              with_reducible rfl
            rotate_left
            · simp only [Act.put, List.setIfInBounds_toArray, List.set_cons_zero, List.set_cons_succ, i64_w, i32_w]
              rfl
            refine pure_ (i := 1) (N := some 13) (v := ?_) (a' := ?_) #[true, true, false, false, false, false, false] rfl rfl (by kernel_rfl) (fun _ _ _ h => h) (Or.inl ⟨by rfl, ?_⟩) ?_ ?_
            rotate_left
            · intro w'
              go_simp
              with_reducible rfl
            rotate_left
            · simp only [Act.put, List.setIfInBounds_toArray, List.set_cons_zero, List.set_cons_succ, i64_w, i32_w]
              rfl
            refine pure_ (i := 2) (N := some 14) (v := ?_) (a' := ?_) #[true, true, true, false, false, false, false] rfl rfl (by kernel_rfl) (fun _ _ _ h => h) (Or.inl ⟨by rfl, ?_⟩) ?_ ?_
            rotate_left
            · intro w'
              go_simp
              with_reducible rfl
            rotate_left
            · simp only [Act.put, List.setIfInBounds_toArray, List.set_cons_zero, List.set_cons_succ, i64_w, i32_w]
              rfl
            refine pure_ (i := 4) (N := some 16) (v := ?_) (a' := ?_) #[true, true, true, false, true, false, false] rfl rfl (by kernel_rfl) (fun _ _ _ h => h) (Or.inl ⟨by rfl, ?_⟩) ?_ ?_
            rotate_left
            · intro w'
              go_simp
              with_reducible rfl
            rotate_left
            · simp only [Act.put, List.setIfInBounds_toArray, List.set_cons_zero, List.set_cons_succ, i64_w, i32_w]
              rfl
            refine take_ (i := 3) (N := some 15) (v := ?_) (a' := ?_) #[true, true, true, true, true, false, false] rfl rfl (by kernel_rfl) (fun _ _ _ h => h) (Or.inl ⟨by rfl, ?_⟩) hHeld ?_ ?_
            rotate_left
            · intro w' s0
              go_simp
              with_reducible rfl
            rotate_left
            · simp only [Act.put, List.setIfInBounds_toArray, List.set_cons_zero, List.set_cons_succ, i64_w, i32_w]
              rfl
            refine one_ (i := 5) (N := some 17) #[true, true, true, true, true, true, false] rfl rfl (by kernel_rfl) (by decide) (fun K hK => ?_)
            refine goes_ Tryd.func57 (by kernel_rfl) rfl #[.int .i64 x1_1] (by rfl) rfl rfl (by (try simp only [List.map_toArray, List.map_cons, List.map_nil]); first | done | rfl | (simp only [List.length_drop, List.length_take]; rfl)) ?_
            with_reducible refine (laws_markText.calls k1 x1_1 t245 _ A5.out).mono ?_
            rintro e w8 ⟨rfl, hb⟩
            refine ⟨_, rfl, ?_⟩
            have n0_ := Aside0.mk (below_step (by repeat (first | (with_reducible first | exact HB.out | apply below_alloc | apply pw_below_drewN | apply below_drew1) | exact HB.out)) hb)
            clear HB
            have HB := n0_
            clear n0_
            (try clear hb)
            (try clear hb2)
            (try clear hk)
            (try clear hi)
            refine hK.out _ _ (((HB.out.cell (World.block_lt_of_cell? w _ hw244_0)).trans hw244_0)) (fun hHeld => ?_)
            clear hK K
            refine norm_ (a' := ?_) ?_ ?_
            rotate_left
            · show Act.put _ (some 17) _ = _
              simp only [Act.put, List.setIfInBounds_toArray, List.set_cons_zero, List.set_cons_succ, i64_w, i32_w]
              rfl
            refine pure_ (i := 6) (N := some 18) (v := ?_) (a' := ?_) #[true, true, true, true, true, true, true] rfl rfl (by kernel_rfl) (fun _ _ _ h => h) (Or.inl ⟨by rfl, ?_⟩) ?_ ?_
            rotate_left
            · intro w'
              go_simp
              with_reducible rfl
            rotate_left
            · simp only [Act.put, List.setIfInBounds_toArray, List.set_cons_zero, List.set_cons_succ, i64_w, i32_w]
              rfl
            refine done_ (by kernel_rfl) ?_
            try go_wp2
            go_roundg k1
            case measure => have := HK1.out; omega
            case rel => exact ⟨(wrap64 (x1_1 + 1)), (wrap64 (x5_1 + 1)), (by first | rfl | (simp; done) | (simp [*]; done) | (simp only [IntWalk.i64_left]; done) | (simp [IntWalk.i64_left]; done) | (simp [*, IntWalk.i64_left]; done)), (by first | rfl | (simp; done) | (simp [*]; done) | (simp only [IntWalk.i64_left]; done) | (simp [IntWalk.i64_left]; done) | (simp [*, IntWalk.i64_left]; done)), H', ⟨by have := HK1.out; omega⟩, ⟨by repeat (first | (with_reducible first | exact HB.out | apply below_alloc | apply pw_below_drewN | apply below_drew1) | exact HB.out)⟩⟩
          · rw [if_neg c6] at H
            have c6b0 : ((rdOf ByteArray.empty l0 x5_1).toList == t245.toList) = false := beq_eq_false_iff_ne.mpr c6
            have c6b1 : ((rdOf ByteArray.empty l0 x5_1).toList != t245.toList) = true := bne_iff_ne.mpr c6
            obtain rfl := Option.some.inj H
            try go_wp2
            have n0_ := Aside0.mk (below_drew1 HB.out)
            clear HB
            have HB := n0_
            clear n0_
            have p244 : 0 ≤ (x5_1 : Int) := of_decide_eq_true (by first | (with_reducible assumption) | assumption)
            have q244 : x5_1 < (l0.length : Int) := of_decide_eq_true (by first | (with_reducible assumption) | assumption)
            obtain ⟨ad244, e244, hx244_0⟩ := Kd.at_string HR0.out x5_1 p244 q244
            have hw244_0 := hx244_0
            cases e244
            replace hx244_0 := (HB.out.cell (World.block_lt_of_cell? w _ hx244_0)).trans hx244_0
            replace p244 := eq_true p244
            replace q244 := eq_true q244
            refine start_ (n := 7) (S := fun w' => w'.cell? (ad244.add (x5_1).toNat) = some (.string (rdOf ByteArray.empty l0 x5_1))) (ds := []) #[false, false, false, false, false, false, false] (by kernel_rfl) rfl rfl (((HB.out.cell (World.block_lt_of_cell? w _ hw244_0)).trans hw244_0)) (fun hHeld => ?_)
            generalize wr.drew = w9 at HB hx244_0 hHeld ⊢
            refine pure_ (i := 0) (N := some 12) (v := ?_) (a' := ?_) #[true, false, false, false, false, false, false] rfl rfl (by kernel_rfl) (fun _ _ _ h => h) (Or.inl ⟨by rfl, ?_⟩) ?_ ?_
            rotate_left
            · intro w'
              go_simp
              with_reducible rfl
            rotate_left
            · simp only [Act.put, List.setIfInBounds_toArray, List.set_cons_zero, List.set_cons_succ, i64_w, i32_w]
              rfl
            refine pure_ (i := 1) (N := some 13) (v := ?_) (a' := ?_) #[true, true, false, false, false, false, false] rfl rfl (by kernel_rfl) (fun _ _ _ h => h) (Or.inl ⟨by rfl, ?_⟩) ?_ ?_
            rotate_left
            · intro w'
              go_simp
              with_reducible rfl
            rotate_left
            · simp only [Act.put, List.setIfInBounds_toArray, List.set_cons_zero, List.set_cons_succ, i64_w, i32_w]
              rfl
            refine pure_ (i := 2) (N := some 14) (v := ?_) (a' := ?_) #[true, true, true, false, false, false, false] rfl rfl (by kernel_rfl) (fun _ _ _ h => h) (Or.inl ⟨by rfl, ?_⟩) ?_ ?_
            rotate_left
            · intro w'
              go_simp
              with_reducible rfl
            rotate_left
            · simp only [Act.put, List.setIfInBounds_toArray, List.set_cons_zero, List.set_cons_succ, i64_w, i32_w]
              rfl
            refine pure_ (i := 4) (N := some 16) (v := ?_) (a' := ?_) #[true, true, true, false, true, false, false] rfl rfl (by kernel_rfl) (fun _ _ _ h => h) (Or.inl ⟨by rfl, ?_⟩) ?_ ?_
            rotate_left
            · intro w'
              go_simp
              with_reducible rfl
            rotate_left
            · simp only [Act.put, List.setIfInBounds_toArray, List.set_cons_zero, List.set_cons_succ, i64_w, i32_w]
              rfl
            refine take_ (i := 3) (N := some 15) (v := ?_) (a' := ?_) #[true, true, true, true, true, false, false] rfl rfl (by kernel_rfl) (fun _ _ _ h => h) (Or.inl ⟨by rfl, ?_⟩) hHeld ?_ ?_
            rotate_left
            · intro w' s0
              go_simp
              with_reducible rfl
            rotate_left
            · simp only [Act.put, List.setIfInBounds_toArray, List.set_cons_zero, List.set_cons_succ, i64_w, i32_w]
              rfl
            refine one_ (i := 5) (N := some 17) #[true, true, true, true, true, true, false] rfl rfl (by kernel_rfl) (by decide) (fun K hK => ?_)
            refine goes_ Tryd.func57 (by kernel_rfl) rfl #[.int .i64 x1_1] (by rfl) rfl rfl (by (try simp only [List.map_toArray, List.map_cons, List.map_nil]); first | done | rfl | (simp only [List.length_drop, List.length_take]; rfl)) ?_
            with_reducible refine (laws_markText.calls k1 x1_1 t245 _ A5.out).mono ?_
            rintro e w10 ⟨rfl, hb⟩
            refine ⟨_, rfl, ?_⟩
            have n0_ := Aside0.mk (below_step (by repeat (first | (with_reducible first | exact HB.out | apply below_alloc | apply pw_below_drewN | apply below_drew1) | exact HB.out)) hb)
            clear HB
            have HB := n0_
            clear n0_
            (try clear hb)
            (try clear hb2)
            (try clear hk)
            (try clear hi)
            refine hK.out _ _ (((HB.out.cell (World.block_lt_of_cell? w _ hw244_0)).trans hw244_0)) (fun hHeld => ?_)
            clear hK K
            refine norm_ (a' := ?_) ?_ ?_
            rotate_left
            · show Act.put _ (some 17) _ = _
              simp only [Act.put, List.setIfInBounds_toArray, List.set_cons_zero, List.set_cons_succ, i64_w, i32_w]
              rfl
            refine pure_ (i := 6) (N := some 18) (v := ?_) (a' := ?_) #[true, true, true, true, true, true, true] rfl rfl (by kernel_rfl) (fun _ _ _ h => h) (Or.inl ⟨by rfl, ?_⟩) ?_ ?_
            rotate_left
            · intro w'
              go_simp
              with_reducible rfl
            rotate_left
            · simp only [Act.put, List.setIfInBounds_toArray, List.set_cons_zero, List.set_cons_succ, i64_w, i32_w]
              rfl
            refine done_ (by kernel_rfl) ?_
            try go_wp2
            go_ret
            exact ⟨by first | rfl | (simp [errW_none, errW_some] <;> rfl) | (simp [*, errW_none, errW_some] <;> rfl), by repeat (first | (with_reducible first | exact HB.out | apply below_alloc | apply pw_below_drewN | apply below_drew1) | exact HB.out)⟩
        · rw [if_neg c4] at H
          exact absurd H (by simp)
      · rw [if_neg c3] at H
        have c3b0 : decide (x5_1 < (l0.length : Int)) = false := decide_eq_false c3
        clear c3
        obtain rfl := Option.some.inj H
        go_wp2
        go_ret
        exact ⟨by first | rfl | (simp [errW_none, errW_some] <;> rfl) | (simp [*, errW_none, errW_some] <;> rfl), by repeat (first | (with_reducible first | exact HB.out | apply below_alloc | apply pw_below_drewN | apply below_drew1) | exact HB.out)⟩

end Go.Proofs.YtaglbacldonflaaDoor.XFnExactMissingBehind
