/- Proved by hand: whether a word can meet in a set: a search with a map of the words that were met. -/
import Derived.Shelf.Small.Wraps
import Derived.Test.YtoemhhfkbclbiaaDoorShelfC
import Derived.Test.YtoemhhfkbclbiaaDoorHandMapBool
import Derived.Test.YtoemhhfkbclbiaaDoorWMore
import Derived.WalkKit
import Derived.KernelRfl
import Derived.WalkSpells
namespace Go.Proofs.YtoemhhfkbclbiaaDoor.Hand
open Go.RowKit Go.Shelf Go.Proofs.YtoemhhfkbclbiaaDoorW.PrintWords Go.Proofs.YtoemhhfkbclbiaaDoorW.PrintLast Go.Proofs.YtoemhhfkbclbiaaDoorW.PrintMore
set_option linter.unusedVariables false
set_option linter.unusedSimpArgs false
/-- a text without a beginning -/
def cutS (s p : ByteArray) : ByteArray := ⟨(s.data.toList.drop p.size).toArray⟩
def begS (s p : ByteArray) : Bool := p.data.toList.isPrefixOf s.data.toList
/-- what two texts leave of each other, if one begins with the other -/
def cutP (now s : ByteArray) : Option ByteArray := if begS now s = true then some (cutS now s) else if begS s now = true then some (cutS s now) else none
def cmIn (now : ByteArray) : List ByteArray → List ByteArray → List ByteArray → Option (List ByteArray × List ByteArray)
  | [], list, met => some (list, met)
  | s :: l, list, met => match cutP now s with
    | none => cmIn now l list met
    | some t => if t.size = 0 then none else (if inS met t = true then cmIn now l list met else cmIn now l (list ++ [t]) (met ++ [t]))
theorem cmIn_none (now s : ByteArray) (l a b : List ByteArray) (h : cutP now s = none) : cmIn now (s :: l) a b = cmIn now l a b := by rw [cmIn, h]
theorem cmIn_some (now s t : ByteArray) (l a b : List ByteArray) (h : cutP now s = some t) : cmIn now (s :: l) a b = if t.size = 0 then none else (if inS b t = true then cmIn now l a b else cmIn now l (a ++ [t]) (b ++ [t])) := by rw [cmIn, h]
def cmFits (l list met : List ByteArray) : Bool := decide (list.length + l.length ≤ 1099511627776) && decide (met.length + l.length ≤ 1099511627776) && list.all (fun s => decide (s.size ≤ 1099511627776)) && l.all (fun s => decide (s.size ≤ 1099511627776))
def impl_canMeet.l0 : Nat → List ByteArray → List ByteArray → List ByteArray → Option Bool
  | 0, _, _, _ => none
  | k + 1, l, list, met => if list.length = 0 then some false else (if cmFits l list met = true then (match cmIn (list.getD (list.length - 1) ByteArray.empty) l (list.take (list.length - 1)) met with | none => some true | some r => impl_canMeet.l0 k l r.1 r.2) else none)
def impl_canMeet.f (k : Nat) (l0 : List ByteArray) (a1 : ByteArray) : Option Bool := if a1.size ≤ 1099511627776 then impl_canMeet.l0 k l0 [a1] [a1] else none
theorem impl_canMeet.mono_l : ∀ k y0 y1 y2, LeO (impl_canMeet.l0 k y0 y1 y2) (impl_canMeet.l0 (k + 1) y0 y1 y2)
  | 0 => fun _ _ _ r h => by simp [impl_canMeet.l0] at h
  | k + 1 => fun y0 y1 y2 => by
    have ih := impl_canMeet.mono_l k
    unfold impl_canMeet.l0
    refine LeO.ite (LeO.refl _) (LeO.ite ?_ (LeO.refl _))
    cases cmIn (y1.getD (y1.length - 1) ByteArray.empty) y0 (y1.take (y1.length - 1)) y2 with
    | none => exact LeO.refl _
    | some r => exact ih _ _ _
theorem impl_canMeet.mono : ∀ a0 a1 k, LeO (impl_canMeet.f k a0 a1) (impl_canMeet.f (k + 1) a0 a1) := by
  intro a0 a1 k
  unfold impl_canMeet.f
  exact LeO.ite (impl_canMeet.mono_l _ _ _ _) (LeO.refl _)
theorem cut_calls (s p : ByteArray) (w : World) : Calls Tryd.prog 76 #[.string s, .string p] w fun e w' => e = .returned (.tuple #[.string (if begS s p = true then cutS s p else s), .bool (begS s p)]) ∧ w' = w := by
  have h := Any.strings_CutPrefix Tryd.lays103 s p w
  change Calls Tryd.prog 76 _ _ _ at h
  have e1 : Lib.hasPrefix s.data.toList p.data.toList = begS s p := rfl
  have e2 : (⟨(Lib.trimPrefix s.data.toList p.data.toList).toArray⟩ : ByteArray) = if begS s p = true then cutS s p else s := by
    by_cases hb : begS s p = true
    · rw [if_pos hb]
      unfold Lib.trimPrefix cutS
      rw [if_pos (by rw [e1]; exact hb)]
      rw [show p.data.toList.length = p.size from Array.length_toList]
    · rw [if_neg hb]
      unfold Lib.trimPrefix
      rw [if_neg (by rw [e1]; exact hb)]
  rw [e1, e2] at h
  exact h
theorem cutS_le (s p : ByteArray) : (cutS s p).size ≤ s.size := by
  show (cutS s p).data.size ≤ s.data.size
  unfold cutS
  simp
theorem cm_grown {B : Nat} {a w W : World} {b : Nat} (h : Go.RowKit.Below B a w) (hg : w.grownBy W (some b)) (hb : B ≤ b) (hB : B ≤ w.heap.size) : Go.RowKit.Below B a W :=
  ⟨hg.os.trans h.os, hg.tape.trans h.tape, hg.output.trans h.output, Nat.le_trans h.size hg.size, fun k hk => (hg.block k (Nat.lt_of_lt_of_le hk hB) (fun e => by injection e with e; omega)).trans (h.block k hk)⟩
set_option maxHeartbeats 2000000 in
set_option maxRecDepth 100000 in
theorem impl_canMeet.calls (k : Nat) (A0 : Option Addr) (c0 : Nat) (l0 : List ByteArray) (a1 : ByteArray) (r : Bool) (w : World) (hr0 : Kd.C Kd.string w A0 l0.length l0) (hc0 : l0.length ≤ c0) (h : impl_canMeet.f k l0 a1 = some r) :
    Calls Tryd.prog 49 #[.slice A0 l0.length c0, .string a1] w fun e w' => e = .returned (.bool r) ∧ Go.RowKit.Below w.heap.size w w' := by
  have HR0 := Aside0.mk hr0
  have HC0 := Aside0.mk hc0
  unfold impl_canMeet.f at h
  split at h
  case isFalse => cases h
  rename_i hsz
  have H' := Aside0.mk h
  have HSZ := Aside0.mk hsz
  have hl9 : l0.length ≤ 9223372036854775807 := (Kd.reads_of_C (d := ByteArray.empty) hr0).2.1
  have HL9 := Aside0.mk hl9
  have infoS : (Tryd.prog.info? 9).map (fun i => (i.zero, i.size, i.bytes)) = some (some (.string ⟨#[]⟩), 1, 16) := by kernel_rfl
  have hz1 : (w.alloc (.cells #[.string a1] 9)).heap.size = w.heap.size + 1 := by simp
  have hm0 := met_made ((w.alloc (.cells #[.string a1] 9)))
  obtain ⟨w1, hput, hm1, hg1⟩ := met_put hm0 a1 (by unfold maxLen; omega) (by unfold maxLen; omega)
  rw [hz1] at hput hm1 hg1
  have HM1 := Aside0.mk hm1
  have HG1 := Aside0.mk hg1
  clear hr0 hc0 h hl9 hsz hm0 hm1 hg1 hz1
  have hmm := @run_makeMap Tryd.prog
  go_enter Tryd.func49, Tryd.ntmps49
  go_wp2
  go_loopg [5] k (fun kq v5 w' => ∃ (list met : List ByteArray) (n : Nat), Aside0 (impl_canMeet.l0 kq l0 list met = some r) ∧ Aside0 (kq ≤ k) ∧ Aside0 (Met w' (w.heap.size + 1) n met ∧ n ≤ met.length) ∧ Aside0 (Kd.R Kd.string 9 w' w.heap.size (fun k_ => k_ ≠ w.heap.size + 1) v5 list) ∧ Aside0 (Go.RowKit.Below w.heap.size w w'))
  case atStart =>
    have hbl : w1.heap[w.heap.size]? = some (.cells #[.string a1] 9 (0, 0)) := by
      rw [HG1.out.block _ (by simp; omega) (by simp)]
      rw [Below.heap_alloc _ _ _ (by simp)]
      unfold World.alloc; simp
    refine ⟨[a1], [a1], 1, H', ⟨Nat.le_refl _⟩, ⟨HM1.out, by simp⟩, ⟨?_⟩, ⟨?_⟩⟩
    · refine Kd.R_of_own ⟨by simp [encs], .inr ⟨w.heap.size, 1, _, rfl, Nat.le_refl _, hbl, by simp, by unfold maxLen; omega, by simp, by simp [encs]⟩⟩ (fun k_ hk => ?_)
      have : w.heap.size = k_ := by simpa [Value.ownBlock] using hk
      omega
    · exact cm_grown (below_alloc (below_alloc (Below.refl _ _) _) _) HG1.out (by omega) (by simp; omega)
  case round =>
    clear H' hput HM1 HG1 hmm
    obtain ⟨list, met, n, HA, HK1, HM, HL, HB⟩ := hrel
    rename World => W0
    obtain ⟨A5, c5, e5⟩ := Kd.R_slice HL.out
    subst e5
    cases gk with
    | zero => exact absurd HA.out (by simp [impl_canMeet.l0])
    | succ k1 =>
      have H := HA.out
      clear HA
      simp only [impl_canMeet.l0] at H
      by_cases c1 : list.length = 0
      · rw [if_pos c1] at H
        have c1b : decide (0 < list.length) = false := decide_eq_false (by omega)
        have c1c : ¬ (0 < list.length) := by omega
        obtain rfl := Option.some.inj H
        clear H
        go_wp2
        go_ret
        exact ⟨rfl, HB.out⟩
      · rw [if_neg c1] at H
        by_cases c2 : cmFits l0 list met = true
        · rw [if_pos c2] at H
          obtain ⟨m, hm⟩ : ∃ m, list.length = m + 1 := ⟨list.length - 1, by omega⟩
          rw [hm, Nat.add_sub_cancel] at H
          have hf := c2
          unfold cmFits at hf
          simp only [Bool.and_eq_true, decide_eq_true_eq, List.all_eq_true] at hf
          obtain ⟨⟨⟨hf1, hf2⟩, hf3⟩, hf4⟩ := hf
          obtain ⟨now, hnow⟩ : ∃ now, now = list.getD m ByteArray.empty := ⟨_, rfl⟩
          rw [← hnow] at H
          have hns : now.size ≤ 1099511627776 := by
            rw [hnow, List.getD_eq_getElem?_getD, List.getElem?_eq_getElem (by omega)]
            exact hf3 _ (List.getElem_mem _)
          have hrd : ∀ i : Nat, (rdOf ByteArray.empty l0 (i : Int)).size ≤ 1099511627776 := fun i => by
            unfold rdOf
            rw [Int.toNat_natCast, List.getD_eq_getElem?_getD]
            cases hq : l0[i]? with
            | none => simp [ByteArray.size_empty]
            | some s => simpa using hf4 s (List.mem_of_getElem? hq)
          have F4 := Aside0.mk hrd
          have FN := Aside0.mk hns
          have FIT := Aside0.mk (show list.length + l0.length ≤ 1099511627776 ∧ met.length + l0.length ≤ 1099511627776 from ⟨hf1, hf2⟩)
          have hlist := HL.out
          rw [hm] at hlist
          have c1b : decide (0 < m + 1) = true := decide_eq_true (by omega)
          have hx5 := Kd.at_string (Kd.R_reads' hlist).2.2 (m : Int) (by omega) (by rw [hm]; omega)
          obtain ⟨ad5, e5, hx5⟩ := hx5
          cases e5
          rw [Int.toNat_natCast, show rdOf ByteArray.empty list (m : Int) = now from by rw [hnow]; simp [rdOf]] at hx5
          obtain ⟨i0, hi0, _, hsz0, _⟩ := info_parts infoS
          have hroom : m + 1 ≤ c5 := (Kd.R_reads' hlist).2.1
          have hcut := cut_to (P := Tryd.prog) 31 9 .i64 Tryd.underlying31 hi0 (some ad5) (m + 1) c5 (m : Int) (by omega) (by omega) hroom
          rw [Int.toNat_natCast] at hcut
          have HTAKE := Aside0.mk (Kd.R_take (m := m) hlist (by omega))
          have H'' := Aside0.mk H
          have m0 : (0 : Int) ≤ (m : Int) := by omega
          have m3 : (m : Int) ≤ 9223372036854775807 := by omega
          have m4 : wrap64 (m : Int) = (m : Int) := by unfold wrap64; omega
          have m1 : (m : Int) < (m : Int) + 1 := by omega
          have m2 : (m : Int) ≤ (m : Int) + 1 := by omega
          have HMm := Aside0.mk hm
          rw [hm]
          clear H hf1 hf2 hf3 hf4 hnow hns hrd hlist c2 c1 HL
          go_wp2
          go_loopg [5, 33] l0.length (fun g v5 v33 w' => ∃ (i : Nat) (lst mt : List ByteArray) (n1 : Nat), v33 = .int .i64 (i : Int) ∧ Aside0 (i ≤ l0.length) ∧ Aside0 (l0.length - i ≤ g) ∧ Aside0 (cmIn now (l0.drop i) lst mt = cmIn now l0 (list.take m) met) ∧ Aside0 (Met w' (w.heap.size + 1) n1 mt ∧ n1 ≤ mt.length) ∧ Aside0 (Kd.R Kd.string 9 w' w.heap.size (fun k_ => k_ ≠ w.heap.size + 1) v5 lst) ∧ Aside0 (Go.RowKit.Below w.heap.size w w') ∧ Aside0 (lst.length ≤ list.length + i ∧ mt.length ≤ met.length + i))
          case atStart => exact ⟨0, list.take m, met, n, rfl, ⟨Nat.zero_le _⟩, ⟨by omega⟩, ⟨by rw [List.drop_zero]⟩, HM, HTAKE, HB, ⟨by rw [List.length_take]; omega⟩⟩
          case round =>
            clear hcut hx5 m0 m1 m2 m3 m4 c1b hroom
            obtain ⟨i, lst, mt, n1, rfl, HI, HG, HCM, HM1, HL1, HB1, HBD⟩ := hrel
            obtain ⟨A6, c6, e6⟩ := Kd.R_slice HL1.out
            subst e6
            by_cases c3 : i < l0.length
            · have c3a : ((i : Int) < (l0.length : Int)) := by omega
              have c3b : decide ((i : Int) < (l0.length : Int)) = true := decide_eq_true c3a
              have c3c : (0 : Int) ≤ (i : Int) := by omega
              have c3d : (i : Int) + 1 ≤ 9223372036854775807 := by have := HL9.out; omega
              obtain ⟨ad0, e0, hx0⟩ := Kd.at_string (Kd.C_below HR0.out HB1.out) (i : Int) c3c c3a
              cases e0
              have F4i := Aside0.mk (F4.out i)
              obtain ⟨s, hs⟩ : ∃ s, s = rdOf ByteArray.empty l0 (i : Int) := ⟨_, rfl⟩
              rw [← hs] at hx0 F4i
              rw [Int.toNat_natCast] at hx0
              have hdrop : l0.drop i = s :: l0.drop (i + 1) := by
                rw [List.drop_eq_getElem_cons c3, hs]; simp [rdOf, List.getD_eq_getElem?_getD, c3]
              have HC := HCM.out
              rw [hdrop] at HC
              clear hs hdrop HCM
              cases cA : begS now s with
              | true =>
                have hcp : cutP now s = some (cutS now s) := by unfold cutP; rw [if_pos cA]
                rw [cmIn_some _ _ _ _ _ _ hcp] at HC
                obtain ⟨t, ht⟩ : ∃ t, t = cutS now s := ⟨_, rfl⟩
                have HTS := Aside0.mk (show t.size ≤ 1099511627776 from by rw [ht]; exact Nat.le_trans (cutS_le _ _) FN.out)
                rw [← ht] at HC
                have HT := Aside0.mk ht
                clear ht hcp
                have hsz9 : t.size ≤ maxLen := by have := HTS.out; unfold maxLen; omega
                by_cases c6 : t.size = 0
                · rw [if_pos c6] at HC
                  have c6b : t.toList = [] := by rw [ByteArray.toList_eq]; exact List.eq_nil_of_length_eq_zero (show t.data.toList.length = 0 from by rw [Array.length_toList]; exact c6)
                  have c6c : (t.toList == ([] : List UInt8)) = true := by rw [c6b]; rfl
                  have HT9 := H''.out
                  rw [← HC] at HT9
                  obtain rfl := Option.some.inj HT9
                  clear HC HT9
                  go_wp2_with ((go_at_call 76; (with_reducible refine (cut_calls now s _).mono ?_); rw [if_pos cA, cA]; rintro e w' ⟨rfl, rfl⟩; rw [← HT.out]))
                  go_ret
                  exact ⟨rfl, HB1.out⟩
                · rw [if_neg c6] at HC
                  have c6b : ¬ t.toList = [] := by rw [ByteArray.toList_eq]; intro e; exact c6 (by have : t.data.toList.length = 0 := by rw [e]; rfl
                                                                                                   rw [Array.length_toList] at this; exact this)
                  have c6c : (t.toList == ([] : List UInt8)) = false := beq_eq_false_iff_ne.2 c6b
                  have hlook := met_look HM1.out.1 t hsz9
                  cases c7 : inS mt t with
                  | true =>
                    rw [c7] at hlook HC
                    go_wp2_with ((go_at_call 76; (with_reducible refine (cut_calls now s _).mono ?_); rw [if_pos cA, cA]; rintro e w' ⟨rfl, rfl⟩; rw [← HT.out]))
                    go_roundg (l0.length - (i + 1))
                    case measure => have := HG.out; omega
                    case rel => exact ⟨i + 1, lst, mt, n1, by simp, ⟨c3⟩, ⟨by omega⟩, ⟨HC⟩, HM1, HL1, HB1, ⟨by have := HBD.out; omega⟩⟩
                  | false =>
                    rw [c7] at hlook HC
                    obtain ⟨w2, hput, hm2, hg2⟩ := met_put HM1.out.1 t hsz9 (by have := HBD.out; have := HM1.out.2; have := FIT.out; unfold maxLen; omega)
                    have HM2 := Aside0.mk hm2
                    have HG2 := Aside0.mk hg2
                    have HL2 := Aside0.mk (Kd.R_grown HL1.out hg2 (fun k_ hk e => hk (by injection e)))
                    have HB2 := Aside0.mk (cm_grown HB1.out hg2 (by omega) HB1.out.size)
                    clear hm2 hg2
                    go_wp2_with (first | (go_at_call 76; (with_reducible refine (cut_calls now s _).mono ?_); rw [if_pos cA, cA]; rintro e w' ⟨rfl, rfl⟩; rw [← HT.out]) | ((with_reducible refine gate_builtin (b := .append) (xs := #[.tmp 65, .tmp 67]) rfl ?_); at_builtin; refine Kd.R_append Kd.string (w0 := w) w.heap.size rfl (.tmp 65) (.tmp 67) 31 9 (.string ⟨#[]⟩) 16 rfl Tryd.underlying31 infoS rfl (by decide) (by omega) _ lst t [.string t] (fun k_ => k_ ≠ w.heap.size + 1) (fun _ => False) rfl rfl ?aP (fun _ hk => hk.elim) ?aF ?aO ?aB ?aS ?aL ?_; (case aP => exact rfl); (case aF => exact fun k_ hk e => absurd HM2.out.lt (Nat.not_lt.2 (e ▸ hk))); (case aO => exact HL2.out); (case aB => exact HB2.out); (case aS => exact HB2.out.size); (case aL => have := HBD.out; have := FIT.out; omega); intro v9 w9 ho9 hb9 hg9 hat9; obtain ⟨A9, c9, e9⟩ := Kd.R_slice ho9; subst e9; have HM9 := Aside0.mk (HM2.out.kept hg9 (fun e => HL2.out.1 _ e.symm rfl)); have HL9 := Aside0.mk ho9; have HB9 := Aside0.mk hb9; clear ho9 hb9 hg9 hat9))
                    go_roundg (l0.length - (i + 1))
                    case measure => have := HG.out; omega
                    case rel => exact ⟨i + 1, lst ++ [t], mt ++ [t], n1 + 1, by simp, ⟨c3⟩, ⟨by omega⟩, ⟨by simpa using HC⟩, ⟨HM9.out, by have := HM1.out.2; simp; omega⟩, ⟨by have h9 := HL9.out; rw [List.length_append, List.length_singleton] at h9; exact h9⟩, HB9, ⟨by have := HBD.out; simp; omega⟩⟩
              | false =>
                cases cB : begS s now with
                | true =>
                  have hcp : cutP now s = some (cutS s now) := by unfold cutP; rw [if_neg (by rw [cA]; simp), if_pos cB]
                  rw [cmIn_some _ _ _ _ _ _ hcp] at HC
                  obtain ⟨t, ht⟩ : ∃ t, t = cutS s now := ⟨_, rfl⟩
                  have HTS := Aside0.mk (show t.size ≤ 1099511627776 from by rw [ht]; exact Nat.le_trans (cutS_le _ _) F4i.out)
                  rw [← ht] at HC
                  have HT := Aside0.mk ht
                  clear ht hcp
                  have hsz9 : t.size ≤ maxLen := by have := HTS.out; unfold maxLen; omega
                  by_cases c6 : t.size = 0
                  · rw [if_pos c6] at HC
                    have c6b : t.toList = [] := by rw [ByteArray.toList_eq]; exact List.eq_nil_of_length_eq_zero (show t.data.toList.length = 0 from by rw [Array.length_toList]; exact c6)
                    have c6c : (t.toList == ([] : List UInt8)) = true := by rw [c6b]; rfl
                    have HT9 := H''.out
                    rw [← HC] at HT9
                    obtain rfl := Option.some.inj HT9
                    clear HC HT9
                    go_wp2_with (first | (go_at_call 76; (with_reducible refine (cut_calls now s _).mono ?_); rw [if_neg (by rw [cA]; simp), cA]; rintro e w' ⟨rfl, rfl⟩) | (go_at_call 76; (with_reducible refine (cut_calls s now _).mono ?_); rw [if_pos cB, cB]; rintro e w' ⟨rfl, rfl⟩; rw [← HT.out]))
                    go_ret
                    exact ⟨rfl, HB1.out⟩
                  · rw [if_neg c6] at HC
                    have c6b : ¬ t.toList = [] := by rw [ByteArray.toList_eq]; intro e; exact c6 (by have : t.data.toList.length = 0 := by rw [e]; rfl
                                                                                                     rw [Array.length_toList] at this; exact this)
                    have c6c : (t.toList == ([] : List UInt8)) = false := beq_eq_false_iff_ne.2 c6b
                    have hlook := met_look HM1.out.1 t hsz9
                    cases c7 : inS mt t with
                    | true =>
                      rw [c7] at hlook HC
                      go_wp2_with (first | (go_at_call 76; (with_reducible refine (cut_calls now s _).mono ?_); rw [if_neg (by rw [cA]; simp), cA]; rintro e w' ⟨rfl, rfl⟩) | (go_at_call 76; (with_reducible refine (cut_calls s now _).mono ?_); rw [if_pos cB, cB]; rintro e w' ⟨rfl, rfl⟩; rw [← HT.out]))
                      go_roundg (l0.length - (i + 1))
                      case measure => have := HG.out; omega
                      case rel => exact ⟨i + 1, lst, mt, n1, by simp, ⟨c3⟩, ⟨by omega⟩, ⟨HC⟩, HM1, HL1, HB1, ⟨by have := HBD.out; omega⟩⟩
                    | false =>
                      rw [c7] at hlook HC
                      obtain ⟨w2, hput, hm2, hg2⟩ := met_put HM1.out.1 t hsz9 (by have := HBD.out; have := HM1.out.2; have := FIT.out; unfold maxLen; omega)
                      have HM2 := Aside0.mk hm2
                      have HG2 := Aside0.mk hg2
                      have HL2 := Aside0.mk (Kd.R_grown HL1.out hg2 (fun k_ hk e => hk (by injection e)))
                      have HB2 := Aside0.mk (cm_grown HB1.out hg2 (by omega) HB1.out.size)
                      clear hm2 hg2
                      go_wp2_with (first | (go_at_call 76; (with_reducible refine (cut_calls now s _).mono ?_); rw [if_neg (by rw [cA]; simp), cA]; rintro e w' ⟨rfl, rfl⟩) | (go_at_call 76; (with_reducible refine (cut_calls s now _).mono ?_); rw [if_pos cB, cB]; rintro e w' ⟨rfl, rfl⟩; rw [← HT.out]) | ((with_reducible refine gate_builtin (b := .append) (xs := #[.tmp 65, .tmp 67]) rfl ?_); at_builtin; refine Kd.R_append Kd.string (w0 := w) w.heap.size rfl (.tmp 65) (.tmp 67) 31 9 (.string ⟨#[]⟩) 16 rfl Tryd.underlying31 infoS rfl (by decide) (by omega) _ lst t [.string t] (fun k_ => k_ ≠ w.heap.size + 1) (fun _ => False) rfl rfl ?aP (fun _ hk => hk.elim) ?aF ?aO ?aB ?aS ?aL ?_; (case aP => exact rfl); (case aF => exact fun k_ hk e => absurd HM2.out.lt (Nat.not_lt.2 (e ▸ hk))); (case aO => exact HL2.out); (case aB => exact HB2.out); (case aS => exact HB2.out.size); (case aL => have := HBD.out; have := FIT.out; omega); intro v9 w9 ho9 hb9 hg9 hat9; obtain ⟨A9, c9, e9⟩ := Kd.R_slice ho9; subst e9; have HM9 := Aside0.mk (HM2.out.kept hg9 (fun e => HL2.out.1 _ e.symm rfl)); have HL9 := Aside0.mk ho9; have HB9 := Aside0.mk hb9; clear ho9 hb9 hg9 hat9))
                      go_roundg (l0.length - (i + 1))
                      case measure => have := HG.out; omega
                      case rel => exact ⟨i + 1, lst ++ [t], mt ++ [t], n1 + 1, by simp, ⟨c3⟩, ⟨by omega⟩, ⟨by simpa using HC⟩, ⟨HM9.out, by have := HM1.out.2; simp; omega⟩, ⟨by have h9 := HL9.out; rw [List.length_append, List.length_singleton] at h9; exact h9⟩, HB9, ⟨by have := HBD.out; simp; omega⟩⟩
                | false =>
                  have hcp : cutP now s = none := by unfold cutP; rw [if_neg (by rw [cA]; simp), if_neg (by rw [cB]; simp)]
                  rw [cmIn_none _ _ _ _ _ hcp] at HC
                  clear hcp
                  go_wp2_with (first | (go_at_call 76; (with_reducible refine (cut_calls now s _).mono ?_); rw [if_neg (by rw [cA]; simp), cA]; rintro e w' ⟨rfl, rfl⟩) | (go_at_call 76; (with_reducible refine (cut_calls s now _).mono ?_); rw [if_neg (by rw [cB]; simp), cB]; rintro e w' ⟨rfl, rfl⟩))
                  go_roundg (l0.length - (i + 1))
                  case measure => have := HG.out; omega
                  case rel => exact ⟨i + 1, lst, mt, n1, by simp, ⟨c3⟩, ⟨by omega⟩, ⟨HC⟩, HM1, HL1, HB1, ⟨by have := HBD.out; omega⟩⟩
            · obtain rfl : i = l0.length := by have := HI.out; omega
              have c3b : decide ((l0.length : Int) < (l0.length : Int)) = false := decide_eq_false (by omega)
              have c3d : ¬ ((l0.length : Int) < (l0.length : Int)) := by omega
              have HC := HCM.out
              rw [List.drop_of_length_le (Nat.le_refl _)] at HC
              have HT9 := H''.out
              rw [← HC] at HT9
              have H9 := Aside0.mk (show impl_canMeet.l0 k1 l0 lst mt = some r from HT9)
              clear c3 HC HT9
              go_wp2
              go_roundg k1
              case measure => omega
              case rel => exact ⟨lst, mt, n1, H9, ⟨by have := HK1.out; omega⟩, HM1, HL1, HB1⟩
        · rw [if_neg c2] at H; cases H
end Go.Proofs.YtoemhhfkbclbiaaDoor.Hand
