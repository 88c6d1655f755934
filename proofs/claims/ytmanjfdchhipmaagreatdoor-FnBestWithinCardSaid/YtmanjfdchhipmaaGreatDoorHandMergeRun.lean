-- by wip/shake.py
import Derived.Test.YtmanjfdchhipmaaGreatDoorHandSortI
import Derived.Test.YtmanjfdchhipmaaGreatDoorVAll
import Derived.WalkKit
import Derived.KernelRfl
import Derived.WalkSpells
namespace Go.Proofs.YtmanjfdchhipmaaGreatDoor.Hand
open Go.RowKit Go.Shelf Go.Sort Go.Proofs.YtmanjfdchhipmaaGreatDoorW.PrintWords Go.Proofs.YtmanjfdchhipmaaGreatDoorW.PrintLast Go.Proofs.YtmanjfdchhipmaaGreatDoorW.PrintMore
set_option linter.unusedVariables false
set_option linter.unusedSimpArgs false
def sumW : List Int → Int → Int
 | [], s => s
 | x :: xs, s => sumW xs (wrap64 (s + x))
def impl_mergeRun.l0 : Nat → Nat → List Int → List Int → Nat → Option (List Int)
 | 0, _, _, _, _ => none
 | q + 1, many, list, out, take => if 1 < list.length then (if take ≤ list.length ∧ list.length ≤ 1099511627776 ∧ out.length ≤ 1099511627776 then impl_mergeRun.l0 q many (sortI (list.drop take ++ [sumW (list.take take) 0])) (out ++ [sumW (list.take take) 0]) many else none) else some out
def impl_mergeRun.f (k : Nat) (l0 : List Int) (a1 : Int) : Option (List Int) := if (l0.length ≤ 1099511627776 ∧ 0 < l0.length) ∧ 0 ≤ a1 ∧ a1 ≤ 1099511627776 then impl_mergeRun.l0 k a1.toNat (sortI l0) [] (if a1 = 3 ∧ l0.length % 2 = 0 then 2 else a1.toNat) else none
theorem impl_mergeRun.mono_l : ∀ k y0 y1 y2 y3, LeO (impl_mergeRun.l0 k y0 y1 y2 y3) (impl_mergeRun.l0 (k + 1) y0 y1 y2 y3)
 | 0 => fun _ _ _ _ r h => by simp [impl_mergeRun.l0] at h
 | k + 1 => fun y0 y1 y2 y3 => by
  have ih := impl_mergeRun.mono_l k
  unfold impl_mergeRun.l0
  exact LeO.ite (LeO.ite (ih _ _ _ _) (LeO.refl _)) (LeO.refl _)
theorem impl_mergeRun.mono : ∀ a0 a1 k, LeO (impl_mergeRun.f k a0 a1) (impl_mergeRun.f (k + 1) a0 a1) := by
 intro a0 a1 k
 unfold impl_mergeRun.f
 exact LeO.ite (impl_mergeRun.mono_l _ _ _ _ _) (LeO.refl _)
theorem mr_new (W : World) (o : Obj) : (W.alloc o).heap[W.heap.size]? = some o := by unfold World.alloc; simp
theorem ints_in {w : World} {A0 : Option Addr} {c0 : Nat} {l0 : List Int} (hr0 : Kd.C (Kd.int .i64) w A0 l0.length l0) : IntsI w.heap.size w (.slice A0 l0.length c0) l0 := by
 by_cases h0 : l0.length = 0
 ·exact .inl ⟨A0, c0, by rw [h0], List.eq_nil_of_length_eq_zero h0⟩
 ·obtain ⟨-, -, hc⟩ := Kd.reads_of_C (d := (0 : Int)) hr0
  obtain ⟨⟨b, off, spot⟩, rfl, hcell⟩ := hc (by omega)
  have hz := hcell 0 (by omega)
  have hb : b < w.heap.size := by
   rcases Nat.lt_or_ge b w.heap.size with h' | h'
   ·exact h'
   ·simp [Addr.add, World.cell?, Array.getElem?_eq_none h'] at hz
  have hsp : spot = none := by
   cases spot with
   | none => rfl
   | some x =>
    simp only [Addr.add, World.cell?, if_true, Option.isSome_some] at hz
    split at hz <;> cases hz
  subst hsp
  refine .inr ⟨b, off, c0, rfl, hb, fun j hj => ?_⟩
  have hj' := hcell j hj
  rw [Addr.add_lit] at hj'
  simpa [List.getD_eq_getElem?_getD] using hj'
theorem sorted_values' (A0 : Option Addr) (c0 : Nat) (l0 : List Int) (w : World) (hr0 : Kd.C (Kd.int .i64) w A0 l0.length l0) (hlen : l0.length ≤ 1099511627776) (h0 : 0 < l0.length) :
  Calls Tryz.prog 42 #[.func (.func 92) #[] #[.pointer (some ⟨w.heap.size, 0, none⟩)]] (w.alloc (.cells #[.slice A0 l0.length c0] 24)) fun e w' => Go.RowKit.Below w.heap.size w w' ∧ ∃ g cap cur, e = .returned (.slice (some ⟨g, 0, none⟩) l0.length cap) ∧ RowAt w' w.heap.size g 0 cap cur (sortI l0) ∧ cap = cur.size := by
 have hb1 : Go.RowKit.Below w.heap.size w (w.alloc (.cells #[.slice A0 l0.length c0] 24)) := (Below.refl _ w).alloc (Nat.le_refl _) _
 have hI := ints_in (c0 := c0) hr0
 refine (sorted_calls' w.heap.size (.slice A0 l0.length c0) l0 hlen (w.alloc (.cells #[.slice A0 l0.length c0] 24)) (by simp) (by go_simp) ((hI.below hb1).imp id (by
  rintro ⟨b, off, cap, e, hb, hc⟩; exact ⟨b, off, cap, e, by simp; omega, hc⟩))).mono ?_
 rintro e w' ⟨hb, ⟨rfl, -⟩ | ⟨g, cap, cur, rfl, hR, hz⟩⟩
 ·simp at h0
 ·have hbase := hR.base
  refine ⟨hb1.trans (hb.mono (by simp)), g, cap, cur, rfl, ⟨by simp at hbase; omega, hR.blk, hR.len, hR.fits, hR.small, hR.cells⟩, hz⟩
theorem sorted_values (A0 : Option Addr) (c0 : Nat) (l0 : List Int) (w : World) (hr0 : Kd.C (Kd.int .i64) w A0 l0.length l0) (hlen : l0.length ≤ 1099511627776) (h0 : 0 < l0.length) :
  Calls Tryz.prog 42 #[.func (.func 92) #[] #[.pointer (some ⟨w.heap.size, 0, none⟩)]] (w.alloc (.cells #[.slice A0 l0.length c0] 24)) fun e w' => Go.RowKit.Below w.heap.size w w' ∧ ∃ g cap cur, e = .returned (.slice (some ⟨g, 0, none⟩) l0.length cap) ∧ RowAt w' w.heap.size g 0 cap cur (sortI l0) := by
 refine (sorted_values' A0 c0 l0 w hr0 hlen h0).mono ?_
 rintro e w' ⟨h1, g, cap, cur, h2, h3, -⟩
 exact ⟨h1, g, cap, cur, h2, h3⟩
set_option maxHeartbeats 2000000 in
set_option maxRecDepth 100000 in
theorem impl_mergeRun.calls (k : Nat) (A0 : Option Addr) (c0 : Nat) (l0 : List Int) (a1 : Int) (r : List Int) (w : World) (hr0 : Kd.C (Kd.int .i64) w A0 l0.length l0) (hc0 : l0.length ≤ c0) (h : impl_mergeRun.f k l0 a1 = some r) :
  Calls Tryz.prog 95 #[.slice A0 l0.length c0, .int .i64 a1] w fun e w' => ∃ v0_ : Value, e = .returned (v0_) ∧ Kd.R (Kd.int .i64) 3 w' w.heap.size (fun _ => True) v0_ r ∧ Go.RowKit.Below w.heap.size w w' := by
 unfold impl_mergeRun.f at h
 split at h
 case isFalse => cases h
 rename_i hcond
 obtain ⟨⟨hlen, hpos⟩, ha0, ha1⟩ := hcond
 obtain ⟨many, rfl⟩ : ∃ n : Nat, a1 = (n : Int) := ⟨a1.toNat, by omega⟩
 rw [Int.toNat_natCast] at h
 have H' := Aside0.mk h
 have hV := values_callsI A0 l0.length c0 w
 have hS := sorted_values A0 c0 l0 w hr0 hlen hpos
 have HLEN := Aside0.mk hlen
 have HMANY := Aside0.mk ha1
 clear h hr0 hc0 hlen hpos ha0 ha1
 obtain ⟨take, htake⟩ : ∃ take : Nat, take = if (many : Int) = 3 ∧ l0.length % 2 = 0 then 2 else many := ⟨_, rfl⟩
 rw [← htake] at H'
 obtain ⟨b1, hb1⟩ : ∃ b : Bool, decide ((many : Int) = 3) = b := ⟨_, rfl⟩
 obtain ⟨b2, hb2⟩ : ∃ b : Bool, ((l0.length : Int) % 2 == 0) = b := ⟨_, rfl⟩
 have htk : take = if b1 = true ∧ b2 = true then 2 else many := by
  rw [htake, ← hb1, ← hb2]
  have e : ((many : Int) = 3 ∧ l0.length % 2 = 0) ↔ (decide ((many : Int) = 3) = true ∧ ((l0.length : Int) % 2 == 0) = true) := by
   rw [decide_eq_true_eq, beq_iff_eq]
   constructor
   ·rintro ⟨h1, h2⟩; exact ⟨h1, by omega⟩
   ·rintro ⟨h1, h2⟩; exact ⟨h1, by omega⟩
  by_cases c : (many : Int) = 3 ∧ l0.length % 2 = 0
  ·rw [if_pos c, if_pos (e.1 c)]
  ·rw [if_neg c, if_neg (fun h => c (e.2 h))]
 have hb3 : ((many : Int) = 3) = (b1 = true) := by rw [← hb1]; simp
 have hb4 : ((many : Int) == 3) = b1 := by rw [← hb1]; by_cases h : (many : Int) = 3 <;> simp [h]
 clear htake
 cases b1 <;> cases b2
 all_goals
  simp only [Bool.false_eq_true, false_and, and_false, and_self, if_true, if_false, eq_self] at htk hb3
  have HTK := Aside0.mk htk
  clear htk
  go_enter Tryz.func95, Tryz.ntmps95
  go_wp2_with (first
   | (go_at_call 43; refine hV.mono ?_; rintro e w' ⟨rfl, rfl⟩)
   | (go_at_call 42; refine hS.mono ?_; rintro e w2 ⟨hb, g, cap, cur, rfl, hR⟩; have HB2 := Aside0.mk hb; have HR2 := Aside0.mk hR; clear hb hR))
  rename World => W0
  go_loopg [5, 6, 7] k (fun kq v5 v6 v7 w' => ∃ (list out : List Int) (tk g off cap : Nat) (cur : Array Value), v5 = .slice (some ⟨g, off, none⟩) list.length cap ∧ v7 = .int .i64 (tk : Int) ∧ Aside0 (impl_mergeRun.l0 kq many list out tk = some r) ∧ Aside0 (kq ≤ k) ∧ Aside0 (RowAt w' w.heap.size g off cap cur list) ∧ Aside0 (Kd.R (Kd.int .i64) 3 w' w.heap.size (fun k_ => k_ ≠ g) v6 out) ∧ Aside0 (Go.RowKit.Below w.heap.size w w'))
  case atStart =>
   refine ⟨sortI l0, [], take, g, 0, cap, cur, by rw [sortI_length], by first | (rw [HTK.out]; done) | (rw [HTK.out]; rfl), H', ⟨Nat.le_refl _⟩, ⟨HR2.out.move (Below.heap_alloc _ _ _ HR2.out.lt)⟩, ⟨?_⟩, ⟨below_alloc HB2.out _⟩⟩
   refine Kd.R_of_own ⟨by simp [encs], .inr ⟨W0.heap.size, 0, _, rfl, HB2.out.size, mr_new _ _, by simp, by unfold maxLen; omega, by simp, by simp [encs]⟩⟩ (fun k_ hk => ?_)
   have := HR2.out.lt
   have : W0.heap.size = k_ := by simpa [Value.ownBlock] using hk
   omega
  case round =>
   clear H' HB2 HR2 hV hS
   obtain ⟨list, out, tk, g, off, cap, cur, rfl, rfl, HA, HK1, HR, HO, HB⟩ := hrel
   obtain ⟨A6, c6, e6⟩ := Kd.R_slice HO.out
   subst e6
   cases gk with
   | zero => exact absurd HA.out (by simp [impl_mergeRun.l0])
   | succ k1 =>
    have H := HA.out
    clear HA
    simp only [impl_mergeRun.l0] at H
    by_cases d1 : 1 < list.length
    ·rw [if_pos d1] at H
     split at H
     case isFalse => cases H
     rename_i hroom
     obtain ⟨hr1, hr2, hr3⟩ := hroom
     have HROOM := Aside0.mk (And.intro hr1 (And.intro hr2 hr3))
     obtain ⟨S, hS⟩ : ∃ S, S = sumW (list.take tk) 0 := ⟨_, rfl⟩
     rw [← hS] at H
     have H7 := Aside0.mk H
     have HSS := Aside0.mk hS
     have d1a : decide ((list.length : Int) > 1) = true := decide_eq_true (by omega)
     have d1b : decide (1 < list.length) = true := decide_eq_true d1
     obtain ⟨i0, hi, hz0, hz1, hz2⟩ := info_parts infoInt
     have hcut1 := cut_to (P := Tryz.prog) 24 3 .i64 Tryz.underlying24 hi (some ⟨g, off, none⟩) list.length cap (tk : Int) (by omega) (by omega) HR.out.len
     rw [Int.toNat_natCast] at hcut1
     obtain ⟨off', hcut2, hR2⟩ := HR.out.cut tk hr1
     have HRC := Aside0.mk hR2
     have k1a : (0 : Int) ≤ (tk : Int) := by omega
     have k1b : (tk : Int) ≤ (list.length : Int) := by omega
     have k1c : (tk : Int) ≤ (cap : Int) := by have := HR.out.len; omega
     clear hr1 hr2 hr3 H hS hR2 hi hz0 hz1 hz2 d1
     go_wp2
     go_loopg [8, 31] tk (fun g8 v8 v31 w' => ∃ (j : Nat) (s : Int), v31 = .int .i64 (j : Int) ∧ v8 = .int .i64 s ∧ w' = wr ∧ Aside0 (j ≤ tk) ∧ Aside0 (tk - j ≤ g8) ∧ Aside0 (sumW ((list.take tk).drop j) s = S))
     case atStart => exact ⟨0, 0, rfl, rfl, rfl, ⟨Nat.zero_le _⟩, ⟨by omega⟩, ⟨by rw [List.drop_zero, HSS.out]⟩⟩
     case round =>
      obtain ⟨j, s, rfl, rfl, rfl, HJ, HG, HS⟩ := hrel
      have htl : (list.take tk).length = tk := by rw [List.length_take]; have := HROOM.out.1; omega
      by_cases c5 : j < tk
      ·have hjl : j < list.length := by have := HROOM.out.1; omega
       have e1 : ((j : Int) < (tk : Int)) := by omega
       have e2 : decide ((j : Int) < (tk : Int)) = true := decide_eq_true e1
       have e3 : (0 : Int) ≤ (j : Int) := by omega
       have e4 : (j : Int) + 1 ≤ 9223372036854775807 := by have := HROOM.out.2.1; omega
       obtain ⟨x, hx⟩ : ∃ x, x = list.getD j 0 := ⟨_, rfl⟩
       have hx0 := HR.out.cell j hjl
       have hdrop : (list.take tk).drop j = x :: (list.take tk).drop (j + 1) := by
        rw [List.drop_eq_getElem_cons (by omega), hx]; simp [List.getD_eq_getElem?_getD, hjl]
       have hs := HS.out
       rw [hdrop, sumW] at hs
       have HS' := Aside0.mk hs
       rw [← hx] at hx0
       clear hx hdrop hs HS htl hjl
       go_wp2
       go_roundg (tk - (j + 1))
       case measure => have := HG.out; omega
       case rel => exact ⟨j + 1, _, by simp, rfl, rfl, ⟨c5⟩, ⟨by omega⟩, HS'⟩
      ·obtain rfl : j = tk := by have := HJ.out; omega
       have e2 : decide ((j : Int) < (j : Int)) = false := decide_eq_false (by omega)
       have e5 : ¬ ((j : Int) < (j : Int)) := by omega
       have hs := HS.out
       rw [List.drop_of_length_le (by omega), sumW] at hs
       subst hs
       have hbase := Nat.le_of_lt (Nat.lt_of_le_of_lt HR.out.base HR.out.lt)
       have HBASE := Aside0.mk hbase
       clear c5 htl HS hcut1 k1b k1c hbase
       go_wp2_with (first
        | ((with_reducible refine gate_builtin (b := .append) (xs := #[.tmp 39, .tmp 41]) rfl ?_); at_builtin; refine Kd.R_append (Kd.int .i64) (w0 := w) w.heap.size rfl (.tmp 39) (.tmp 41) 24 3 (.int .i64 0) 8 rfl Tryz.underlying24 infoInt rfl (by decide) (by omega) (.slice A6 out.length c6) out s [.int .i64 s] (fun k_ => k_ ≠ g) (fun _ => False) rfl rfl ?aP (fun _ hk => hk.elim) ?aF ?aO ?aB ?aS ?aL ?_; (case aP => exact rfl); (case aF => exact fun k_ hk e => absurd HR.out.lt (Nat.not_lt.2 (e ▸ hk))); (case aO => exact HO.out); (case aB => exact HB.out); (case aS => exact HBASE.out); (case aL => have := HROOM.out.2.2; omega); intro v9 w9 ho9 hb9 hg9 hat9; have HO9 := Aside0.mk ho9; have HB9 := Aside0.mk hb9; have HR9 := Aside0.mk (HRC.out.move (hg9.block g HRC.out.lt (fun e => HO.out.1 g e.symm rfl))); clear ho9 hb9 hg9 hat9)
        | ((with_reducible refine gate_builtin (b := .append) (xs := #[.tmp 45, .tmp 47]) rfl ?_); at_builtin; refine RowAt.append HR9.out s (list.length - j) (by rw [List.length_drop]) rfl (.tmp 45) (.tmp 47) rfl rfl rfl HB9.out ?aL ?_; (case aL => have := HROOM.out.2.1; rw [List.length_drop]; omega); intro g1 off1 cap1 cur1 w1 hR1 hb1 hg1 hat1 hz1; have HR1 := Aside0.mk hR1; have HB1 := Aside0.mk hb1; have HO1 := Aside0.mk (Kd.R_mono (ok' := fun k_ => k_ ≠ g1) (Kd.R_grown (Kd.R_bound HO9.out) hg1 (fun k_ hk e => hk.1 (by injection e))) (fun k_ hk => by intro h9; rcases hat1 with e | e; (exact hk.1 (h9.trans e)); (have := hk.2.2.1; omega))); clear hR1 hb1 hg1 hat1 hz1)
        | (go_at_call 91; (with_reducible refine (HR1.out.sort (list.length - j + 1) (by simp) (by have := HROOM.out.2.1; rw [List.length_append, List.length_drop]; simp; omega)).mono ?_); rintro e w2 ⟨rfl, ⟨cur2, hR2⟩, hg2⟩; have HR3 := Aside0.mk hR2; have HG3 := Aside0.mk hg2; clear hR2 hg2))
       go_roundg k1
       case measure => omega
       case rel => exact ⟨_, out ++ [s], many, g1, off1, cap1, cur2, by rw [sortI_length]; simp, rfl, H7, ⟨by have := HK1.out; omega⟩, HR3, ⟨Kd.R_grown HO1.out HG3.out (fun k_ hk e => hk (by injection e))⟩, ⟨HG3.out.os.trans HB1.out.os, HG3.out.tape.trans HB1.out.tape, HG3.out.output.trans HB1.out.output, Nat.le_trans HB1.out.size HG3.out.size, fun k_ hk_ => (HG3.out.block k_ (Nat.lt_of_lt_of_le hk_ HB1.out.size) (fun e => by injection e with e; have := HR1.out.base; omega)).trans (HB1.out.block k_ hk_)⟩⟩
    ·rw [if_neg d1] at H
     obtain rfl := Option.some.inj H
     have d1a : decide ((list.length : Int) > 1) = false := decide_eq_false (by omega)
     have d1b : decide (1 < list.length) = false := decide_eq_false d1
     clear H
     go_wp2
     go_ret
     exact ⟨_, rfl, Kd.R_mono HO.out (fun _ _ => trivial), HB.out⟩
end Go.Proofs.YtmanjfdchhipmaaGreatDoor.Hand
