-- by wip/shake.py
import Derived.Test.YtmanjfdchhipmaaGreatDoorXFnBestWithinx0
import Derived.Test.YtmanjfdchhipmaaGreatDoorXFnBestWithinx1
import Derived.Test.YtmanjfdchhipmaaGreatDoorXFnBestWithinx2
namespace Go.Proofs.YtmanjfdchhipmaaGreatDoor.XFnBestWithin
set_option maxHeartbeats 8000000
set_option maxRecDepth 100000
open Go.RowKit Go.Proofs.YtmanjfdchhipmaaGreatDoor.Hand Go.Proofs.YtmanjfdchhipmaaGreatDoorW.PrintWords Go.Proofs.YtmanjfdchhipmaaGreatDoorW.PrintLast Go.Proofs.YtmanjfdchhipmaaGreatDoorW.PrintMore
attribute [local go_sem] max2_int min2_int max_two min_two max_three min_three max_four min_four   -- for this text's walks alone
set_option linter.unusedVariables false
set_option linter.unusedSimpArgs false
open Go.Proofs.YtmanjfdchhipmaaGreatDoor.Hand Go.Maps
theorem impl_BestWithin.lawK : Keyed Tryz.prog 72 := Keyed.of_law (deep_law_laid (P := Tryz.prog) (by kernel_rfl) (m := 2) (by omega) (of_decide_eq_true (by kernel_rfl)) (by kernel_rfl) (by kernel_rfl))
theorem impl_BestWithin.key3 (a b c : Int) (ha : (Lit.int .i64 a).wf = true) (hb : (Lit.int .i64 b).wf = true) (hc : (Lit.int .i64 c).wf = true) : ∃ l, keyOf Tryz.prog 72 (.agg #[.int .i64 a, .int .i64 b, .int .i64 c]) = some l := by
 have hk : Tryz.prog.keyType 72 = true := by kernel_rfl
 have hsz : ∃ m, Tryz.prog.types.size = m + 1 := ⟨Tryz.prog.types.size - 1, by kernel_rfl⟩
 have hint : Tryz.prog.underlying 3 = some (.int .i64) := Tryz.underlying3
 have hcell : Tryz.prog.cellsOf 3 = 1 := by kernel_rfl
 have hcs : Tryz.prog.cellsOf 72 = 3 := by kernel_rfl
 obtain ⟨m, hm⟩ := hsz
 unfold keyOf
 simp only [Tryz.underlying72]
 rw [if_pos (by simp [hk, Value.formed, Tryz.underlying72, hcs]), hm]
 unfold Program.keyLits
 simp only [Tryz.underlying72, Value.cells]
 rw [if_pos (by rw [hcs]; exact ⟨rfl, by kernel_rfl⟩)]
 simp [hcell, Program.keyLits, hint, ha, hb, hc]
mutual
def impl_BestWithin.least : Nat → List Int → Int → Int → Nat → Int → Int → Option Int
 | 0, _, _, _, _, _, _ => none
 | q + 1, ws, many, most, k, from_, left => if k = ws.length then some 0 else (if k < ws.length ∧ ws.length ≤ 12 ∧ most ≤ 11 ∧ 1 ≤ from_ ∧ from_ ≤ 12 ∧ (Lit.int .i64 left).wf = true then impl_BestWithin.loop q ws many most k left (-1) from_ else none)
def impl_BestWithin.loop : Nat → List Int → Int → Int → Nat → Int → Int → Int → Option Int
 | 0, _, _, _, _, _, _, _ => none
 | q + 1, ws, many, most, k, left, best, l => if l ≤ most then ((impl_power.f q many (wrap64 (most - l))).bind fun part => if left < part then impl_BestWithin.loop q ws many most k left best (wrap64 (l + 1)) else ((impl_BestWithin.least q ws many most (k + 1) l (wrap64 (left - part))).bind fun rest => if rest ≥ 0 ∧ (best < 0 ∨ wrap64 (rest + wrap64 (rd ws k * l)) < best) then impl_BestWithin.loop q ws many most k left (wrap64 (rest + wrap64 (rd ws k * l))) (wrap64 (l + 1)) else impl_BestWithin.loop q ws many most k left best (wrap64 (l + 1)))) else some best
end
theorem impl_BestWithin.mono_l : ∀ q, (∀ ws many most k from_ left, LeO (impl_BestWithin.least q ws many most k from_ left) (impl_BestWithin.least (q + 1) ws many most k from_ left)) ∧ (∀ ws many most k left best l, LeO (impl_BestWithin.loop q ws many most k left best l) (impl_BestWithin.loop (q + 1) ws many most k left best l))
 | 0 => ⟨fun _ _ _ _ _ _ r h => by simp [impl_BestWithin.least] at h, fun _ _ _ _ _ _ _ r h => by simp [impl_BestWithin.loop] at h⟩
 | q + 1 => by
  obtain ⟨ih1, ih2⟩ := impl_BestWithin.mono_l q
  refine ⟨fun ws many most k from_ left => ?_, fun ws many most k left best l => ?_⟩
  ·unfold impl_BestWithin.least
   exact LeO.ite (LeO.refl _) (LeO.ite (ih2 _ _ _ _ _ _ _) (LeO.refl _))
  ·unfold impl_BestWithin.loop
   exact LeO.ite (LeO.bind (impl_power.mono _ _ _) fun part => LeO.ite (ih2 _ _ _ _ _ _ _) (LeO.bind (ih1 _ _ _ _ _ _) fun rest => LeO.ite (ih2 _ _ _ _ _ _ _) (ih2 _ _ _ _ _ _ _))) (LeO.refl _)
theorem impl_BestWithin.least_le {ws : List Int} {many most : Int} {k : Nat} {from_ left : Int} {q q' : Nat} (hq : q ≤ q') {r : Int} (h : impl_BestWithin.least q ws many most k from_ left = some r) : impl_BestWithin.least q' ws many most k from_ left = some r := by
 induction hq with
 | refl => exact h
 | step _ ih => exact (impl_BestWithin.mono_l _).1 _ _ _ _ _ _ _ ih
theorem impl_BestWithin.least_one {ws : List Int} {many most : Int} {k : Nat} {from_ left : Int} {q q' : Nat} {r r' : Int} (h : impl_BestWithin.least q ws many most k from_ left = some r) (h' : impl_BestWithin.least q' ws many most k from_ left = some r') : r = r' := by
 rcases Nat.le_total q q' with e | e
 ·exact Option.some.inj ((impl_BestWithin.least_le e h).symm.trans h')
 ·exact Option.some.inj (h.symm.trans (impl_BestWithin.least_le e h'))
def impl_BestWithin.known (ws : List Int) (many most : Int) (key : Value) (v : Int) : Prop := ∃ (k : Nat) (from_ left : Int) (q : Nat), key = .agg #[.int .i64 (k : Int), .int .i64 from_, .int .i64 left] ∧ impl_BestWithin.least q ws many most k from_ left = some v
structure BwBox (w : World) (ws : List Int) (many most : Int) (g cap : Nat) (cur : Array Value) (Bl Bm Bo Ba Bf M n : Nat) : Prop where
 hl : w.cell? ⟨Bl, 0, none⟩ = some (.slice (some ⟨g, 0, none⟩) ws.length cap)
 hm : w.cell? ⟨Bm, 0, none⟩ = some (.map (some M))
 ho : w.cell? ⟨Bo, 0, none⟩ = some (.int .i64 most)
 ha : w.cell? ⟨Ba, 0, none⟩ = some (.int .i64 many)
 hf : w.cell? ⟨Bf, 0, none⟩ = some (.func (.func 45) #[] #[.pointer (some ⟨Bl, 0, none⟩), .pointer (some ⟨Bm, 0, none⟩), .pointer (some ⟨Bo, 0, none⟩), .pointer (some ⟨Ba, 0, none⟩), .pointer (some ⟨Bf, 0, none⟩)])
 ne : Bl ≠ M ∧ Bm ≠ M ∧ Bo ≠ M ∧ Ba ≠ M ∧ Bf ≠ M ∧ g ≠ M
 lt : Bl < w.heap.size ∧ Bm < w.heap.size ∧ Bo < w.heap.size ∧ Ba < w.heap.size ∧ Bf < w.heap.size
 row : RowAt w 0 g 0 cap cur ws
 memo : Memo Tryz.prog 72 3 w M n (impl_BestWithin.known ws many most)
theorem bw_cell {w w' : World} {b : Nat} (h : w'.heap[b]? = w.heap[b]?) : w'.cell? ⟨b, 0, none⟩ = w.cell? ⟨b, 0, none⟩ := by
 unfold World.cell?
 simp only [h]
theorem BwBox.turn {w w' : World} {ws : List Int} {many most : Int} {g cap : Nat} {cur : Array Value} {Bl Bm Bo Ba Bf M n n' : Nat} (h : BwBox w ws many most g cap cur Bl Bm Bo Ba Bf M n) (hg : w.grownBy w' (some M)) (hm : Memo Tryz.prog 72 3 w' M n' (impl_BestWithin.known ws many most)) : BwBox w' ws many most g cap cur Bl Bm Bo Ba Bf M n' := by
 obtain ⟨n1, n2, n3, n4, n5, n6⟩ := h.ne
 obtain ⟨l1, l2, l3, l4, l5⟩ := h.lt
 have hb : ∀ k, k < w.heap.size → k ≠ M → w'.heap[k]? = w.heap[k]? := fun k hk hne => hg.block k hk (fun e => hne (by injection e))
 have hs := hg.size
 exact ⟨(bw_cell (hb _ l1 n1)).trans h.hl, (bw_cell (hb _ l2 n2)).trans h.hm, (bw_cell (hb _ l3 n3)).trans h.ho, (bw_cell (hb _ l4 n4)).trans h.ha, (bw_cell (hb _ l5 n5)).trans h.hf, h.ne, ⟨by omega, by omega, by omega, by omega, by omega⟩, h.row.move (hb _ h.row.lt n6), hm⟩
theorem BwBox.same {w w' : World} {ws : List Int} {many most : Int} {g cap : Nat} {cur : Array Value} {Bl Bm Bo Ba Bf M n : Nat} (h : BwBox w ws many most g cap cur Bl Bm Bo Ba Bf M n) (hb : Below w.heap.size w w') : BwBox w' ws many most g cap cur Bl Bm Bo Ba Bf M n :=
 h.turn ⟨hb.os, hb.tape, hb.output, hb.size, fun k hk _ => hb.block k hk⟩ (h.memo.move (hb.block _ h.memo.lt))
theorem BwBox.fresh {w w' : World} {M : Option Nat} (hb : Below w.heap.size w w') : w.grownBy w' M := ⟨hb.os, hb.tape, hb.output, hb.size, fun k hk _ => hb.block k hk⟩
theorem bw_trans {w w1 w2 : World} {M : Option Nat} (h : w.grownBy w1 M) (k : w1.grownBy w2 M) : w.grownBy w2 M :=
 ⟨k.os.trans h.os, k.tape.trans h.tape, k.output.trans h.output, Nat.le_trans h.size k.size, fun i hi hne => (k.block i (Nat.lt_of_lt_of_le hi h.size) hne).trans (h.block i hi hne)⟩
theorem bw_wf {n : Int} (h1 : -9223372036854775808 ≤ n) (h2 : n ≤ 9223372036854775807) : (Lit.int .i64 n).wf = true := by
 simp only [Lit.wf, IntKind.min, IntKind.max, IntKind.signed, IntKind.bits, Bool.and_eq_true, decide_eq_true_eq, if_true]
 omega
theorem impl_BestWithin.least_calls : ∀ (q : Nat) (ws : List Int) (many most : Int) (g cap : Nat) (cur : Array Value) (Bl Bm Bo Ba Bf M n k : Nat) (from_ left r : Int) (w : World),
  BwBox w ws many most g cap cur Bl Bm Bo Ba Bf M n → n + 12 ^ (ws.length - k) ≤ 4611686018427387904 → k ≤ ws.length → impl_BestWithin.least q ws many most k from_ left = some r →
  Calls Tryz.prog 45 #[.agg #[.int .i64 (k : Int), .int .i64 from_, .int .i64 left], .pointer (some ⟨Bl, 0, none⟩), .pointer (some ⟨Bm, 0, none⟩), .pointer (some ⟨Bo, 0, none⟩), .pointer (some ⟨Ba, 0, none⟩), .pointer (some ⟨Bf, 0, none⟩)] w fun e w' => e = .returned (.int .i64 r) ∧ w.grownBy w' (some M) ∧ Memo Tryz.prog 72 3 w' M (n + 12 ^ (ws.length - k)) (impl_BestWithin.known ws many most) := by
 intro q
 induction q using Nat.strongRecOn with
 | _ q ih =>
  intro ws many most g cap cur Bl Bm Bo Ba Bf M n k from_ left r w hbox hn hk h
  have BOX0 := Aside0.mk hbox
  have hb1 : Below w.heap.size w (w.alloc (.cells #[.int .i64 (k : Int), .int .i64 from_, .int .i64 left] 72)) := below_alloc (Below.refl _ _) _
  have BOX := Aside0.mk (hbox.same hb1)
  have HB1 := Aside0.mk hb1
  have HN := Aside0.mk hn
  have hcl := BOX.out.hl
  cases q with
  | zero => exact absurd h (by simp [impl_BestWithin.least])
  | succ q =>
   simp only [impl_BestWithin.least] at h
   by_cases c1 : k = ws.length
   ·rw [if_pos c1] at h
    obtain rfl := Option.some.inj h
    have c1a : ((k : Int) = (ws.length : Int)) = True := eq_true (by omega)
    have c1c : ((k : Int) == (ws.length : Int)) = true := beq_iff_eq.2 (by omega)
    clear hbox hn h hk c1 hb1
    go_enter Tryz.func45, Tryz.ntmps45
    go_wp2
    go_ret
    exact ⟨rfl, BwBox.fresh HB1.out, (BOX.out.memo).mono (Nat.le_add_right _ _)⟩
   ·rw [if_neg c1] at h
    split at h
    case isFalse => cases h
    rename_i hgd
    have HGD := Aside0.mk hgd
    have H := Aside0.mk h
    have HORIG := Aside0.mk h
    obtain ⟨kl, hkey⟩ := impl_BestWithin.key3 (k : Int) from_ left (bw_wf (by omega) (by omega)) (bw_wf (by omega) (by omega)) hgd.2.2.2.2.2
    have c1a : ((k : Int) = (ws.length : Int)) = False := eq_false (by omega)
    have c1c : ((k : Int) == (ws.length : Int)) = false := beq_eq_false_iff_ne.2 (by omega)
    have hcm := BOX.out.hm
    have hz : (zeroValue 3).run Tryz.prog (w.alloc (.cells #[.int .i64 (k : Int), .int .i64 from_, .int .i64 left] 72)) = .ok (.int .i64 0) (w.alloc (.cells #[.int .i64 (k : Int), .int .i64 from_, .int .i64 left] 72)) := by kernel_rfl
    have hlook := memo_look impl_BestWithin.lawK Tryz.underlying69 Tryz.underlying3 hz BOX.out.memo hkey
    clear hbox hn h hk c1 hb1 hgd hz
    rcases hlook with hrun | ⟨v, hv, hrun⟩
    ·have HKEY := Aside0.mk hkey
     obtain ⟨fn, hfn⟩ : ∃ m : Nat, from_ = (m : Int) := ⟨from_.toNat, by have := HGD.out; omega⟩
     subst hfn
     have HD := Aside0.mk (show ws.length - k = (ws.length - (k + 1)) + 1 from by have := HGD.out; omega)
     obtain ⟨D, hD⟩ : ∃ D, D = 12 ^ (ws.length - (k + 1)) := ⟨_, rfl⟩
     have HDD := Aside0.mk hD
     have HD2 := Aside0.mk (show 12 ^ (ws.length - k) = 12 * D from by rw [HD.out, Nat.pow_succ, ← HDD.out]; omega)
     have HD1 := Aside0.mk (show 1 ≤ D from by rw [HDD.out]; exact Nat.pow_pos (by omega))
     have HN2 := Aside0.mk (show n + 12 * D ≤ 4611686018427387904 from by rw [← HD2.out]; exact HN.out)
     rw [HD2.out]
     have HML := Aside0.mk (show M < w.heap.size from BOX0.out.memo.lt)
     clear hkey hD
     go_enter Tryz.func45, Tryz.ntmps45
     go_wp2
     go_loopg [10, 11] q (fun kq v10 v11 w' => ∃ (best : Int) (l n' : Nat), v10 = .int .i64 best ∧ v11 = .int .i64 (l : Int) ∧ Aside0 (1 ≤ l ∧ l ≤ 12 ∧ (Lit.int .i64 best).wf = true) ∧ Aside0 (impl_BestWithin.loop kq ws many most k left best (l : Int) = some r) ∧ Aside0 (kq ≤ q) ∧ Aside0 (w.grownBy w' (some M)) ∧ Aside0 (w'.heap[w.heap.size]? = some (.cells #[.int .i64 (k : Int), .int .i64 (fn : Int), .int .i64 left] 72 (0, 0))) ∧ Aside0 (n' + D ≤ n + l * D) ∧ Aside0 (BwBox w' ws many most g cap cur Bl Bm Bo Ba Bf M n'))
     case atStart => exact ⟨-1, fn, n, rfl, rfl, ⟨by have := HGD.out; omega, by have := HGD.out; omega, by decide⟩, H, ⟨Nat.le_refl _⟩, ⟨BwBox.fresh HB1.out⟩, ⟨mr_new _ _⟩, ⟨Nat.add_le_add_left (Nat.le_mul_of_pos_left _ (by have := HGD.out; omega)) _⟩, BOX⟩
     case round =>
      clear hrun hcl hcm H
      obtain ⟨best, l, n', rfl, rfl, HL, HA, HK1, HG, HS, HNN, BX⟩ := hrel
      cases gk with
      | zero => exact absurd HA.out (by simp [impl_BestWithin.loop])
      | succ k1 =>
       have H := HA.out
       clear HA
       simp only [impl_BestWithin.loop] at H
       have hco := BX.out.ho
       have hca := BX.out.ha
       by_cases d1 : (l : Int) ≤ most
       ·rw [if_pos d1] at H
        have d1b : decide ((l : Int) ≤ most) = true := decide_eq_true d1
        replace H := Option.bind_eq_some_iff.mp H
        obtain ⟨part, A1, H⟩ := H
        have A1 := Aside0.mk A1
        have hl11 : l ≤ 11 := by have := HGD.out; omega
        have e1 : Aside0 (wrap64 ((l : Int) + 1) = ((l + 1 : Nat) : Int)) := ⟨by unfold wrap64; omega⟩
        rw [e1.out] at H
        have hL11 := Aside0.mk hl11
        have hle : (l : Int) + 1 ≤ 9223372036854775807 := by omega
        have hpow := fun W => impl_power.calls k1 many (wrap64 (most - (l : Int))) part W A1.out
        clear d1 hl11
        have hs0 : ∀ m, (wr.drewN m).cell? ⟨w.heap.size, 0, none⟩ = some (.int .i64 (k : Int)) := fun _ => blk_cell HS.out 0
        have hs2 : ∀ m, (wr.drewN m).cell? ⟨w.heap.size, 2, none⟩ = some (.int .i64 left) := fun _ => blk_cell HS.out 2
        by_cases d2 : left < part
        ·rw [if_pos d2] at H
         have H7 := Aside0.mk H
         have d2b : decide (left < part) = true := decide_eq_true d2
         clear H d2
         go_wp2_with (go_at_call 46; (with_reducible refine (hpow _).mono ?_); rintro e w7 ⟨rfl, ⟨nd, rfl⟩⟩; have hs2' := hs2 nd)
         go_roundg k1
         case measure => have := HK1.out; omega
         case rel => exact ⟨best, l + 1, n', rfl, by simp, ⟨by omega, by have := hL11.out; omega, HL.out.2.2⟩, H7, ⟨by have := HK1.out; omega⟩, ⟨bw_trans HG.out (BwBox.fresh (pw_below_drewN (Below.refl _ _) _))⟩, HS, ⟨by have := HNN.out; rw [Nat.add_mul]; omega⟩, ⟨BX.out.same (pw_below_drewN (Below.refl _ _) _)⟩⟩
        ·rw [if_neg d2] at H
         have d2b : decide (left < part) = false := decide_eq_false d2
         replace H := Option.bind_eq_some_iff.mp H
         obtain ⟨rest, A2, H⟩ := H
         have A2 := Aside0.mk A2
         have HX := Aside0.mk H
         clear H d2
         have ek : ((k + 1 : Nat) : Int) = (k : Int) + 1 := by omega
         have hke : (k : Int) + 1 ≤ 9223372036854775807 := by have := HGD.out; omega
         have hcall := fun W (hbx : BwBox W ws many most g cap cur Bl Bm Bo Ba Bf M n') => ih k1 (by have := HK1.out; omega) ws many most g cap cur Bl Bm Bo Ba Bf M n' (k + 1) (l : Int) (wrap64 (left - part)) rest W hbx (by rw [← HDD.out]; have := HNN.out; have := HN2.out; have := Nat.mul_le_mul_right D HL.out.2.1; omega) (by have := HGD.out; omega) A2.out
         rw [← HDD.out, ek] at hcall
         clear ek
         obtain ⟨x, hxx⟩ : ∃ x, x = rd ws (k : Int) := ⟨_, rfl⟩
         rw [← hxx] at HX
         have HXX := Aside0.mk hxx
         clear hxx
         have c1d : (0 : Int) ≤ (k : Int) := by omega
         have c1e : (k : Int) < (ws.length : Int) := by have := HGD.out; omega
         have H := HX.out
         clear HX
         by_cases d3 : rest ≥ 0
         ·have d3b : decide (0 ≤ rest) = true := decide_eq_true d3
          by_cases d4 : best < 0
          ·have d4b : decide (best < 0) = true := decide_eq_true d4
           rw [if_pos ⟨d3, .inl d4⟩] at H
           have H7 := Aside0.mk H
           clear H d3 d4
           go_wp2_with (first
            | (go_at_call 46; (with_reducible refine (hpow _).mono ?_); rintro e w7 ⟨rfl, ⟨nd, rfl⟩⟩; have hs0' := hs0 nd; have hs2' := hs2 nd; have BX2 := Aside0.mk (BX.out.same (pw_below_drewN (Below.refl _ _) nd)); have hcf2 := BX2.out.hf)
            | (go_at_call 45; (with_reducible refine (hcall _ BX2.out).mono ?_); rintro e w9 ⟨rfl, hg9, hm9⟩; have HG9 := Aside0.mk hg9; have BX9 := Aside0.mk (BX2.out.turn hg9 hm9); have HS9 := Aside0.mk ((hg9.block w.heap.size (blk_lt HS.out) (fun e_ => by injection e_ with e_; have := HML.out; omega)).trans HS.out); have hs9 : w9.cell? ⟨w.heap.size, 0, none⟩ = some (.int .i64 (k : Int)) := blk_cell HS9.out 0; have hcl9 := BX9.out.hl; have hx9 : w9.cell? ⟨g, k, none⟩ = some (.int .i64 x) := (by have := BX9.out.row.cell k (by have := HGD.out; omega); rw [Nat.zero_add] at this; rw [this, HXX.out]; rfl); clear hg9 hm9))
           go_roundg k1
           case measure => have := HK1.out; omega
           case rel => exact ⟨_, l + 1, n' + D, rfl, by simp, ⟨by omega, by have := hL11.out; omega, wrap64_wf _⟩, H7, ⟨by have := HK1.out; omega⟩, ⟨bw_trans HG.out (bw_trans (BwBox.fresh (pw_below_drewN (Below.refl _ _) _)) HG9.out)⟩, HS9, ⟨by have := HNN.out; rw [Nat.add_mul]; omega⟩, BX9⟩
          ·have d4b : decide (best < 0) = false := decide_eq_false d4
           by_cases d5 : wrap64 (rest + wrap64 (x * (l : Int))) < best
           ·have d5b : decide (wrap64 (rest + wrap64 (x * (l : Int))) < best) = true := decide_eq_true d5
            rw [if_pos ⟨d3, .inr d5⟩] at H
            have H7 := Aside0.mk H
            clear H d3 d4 d5
            go_wp2_with (first
             | (go_at_call 46; (with_reducible refine (hpow _).mono ?_); rintro e w7 ⟨rfl, ⟨nd, rfl⟩⟩; have hs0' := hs0 nd; have hs2' := hs2 nd; have BX2 := Aside0.mk (BX.out.same (pw_below_drewN (Below.refl _ _) nd)); have hcf2 := BX2.out.hf)
             | (go_at_call 45; (with_reducible refine (hcall _ BX2.out).mono ?_); rintro e w9 ⟨rfl, hg9, hm9⟩; have HG9 := Aside0.mk hg9; have BX9 := Aside0.mk (BX2.out.turn hg9 hm9); have HS9 := Aside0.mk ((hg9.block w.heap.size (blk_lt HS.out) (fun e_ => by injection e_ with e_; have := HML.out; omega)).trans HS.out); have hs9 : w9.cell? ⟨w.heap.size, 0, none⟩ = some (.int .i64 (k : Int)) := blk_cell HS9.out 0; have hcl9 := BX9.out.hl; have hx9 : w9.cell? ⟨g, k, none⟩ = some (.int .i64 x) := (by have := BX9.out.row.cell k (by have := HGD.out; omega); rw [Nat.zero_add] at this; rw [this, HXX.out]; rfl); clear hg9 hm9))
            go_roundg k1
            case measure => have := HK1.out; omega
            case rel => exact ⟨_, l + 1, n' + D, rfl, by simp, ⟨by omega, by have := hL11.out; omega, wrap64_wf _⟩, H7, ⟨by have := HK1.out; omega⟩, ⟨bw_trans HG.out (bw_trans (BwBox.fresh (pw_below_drewN (Below.refl _ _) _)) HG9.out)⟩, HS9, ⟨by have := HNN.out; rw [Nat.add_mul]; omega⟩, BX9⟩
           ·have d5b : decide (wrap64 (rest + wrap64 (x * (l : Int))) < best) = false := decide_eq_false d5
            rw [if_neg (fun q_ => q_.2.elim d4 d5)] at H
            have H7 := Aside0.mk H
            clear H d3 d4 d5
            go_wp2_with (first
             | (go_at_call 46; (with_reducible refine (hpow _).mono ?_); rintro e w7 ⟨rfl, ⟨nd, rfl⟩⟩; have hs0' := hs0 nd; have hs2' := hs2 nd; have BX2 := Aside0.mk (BX.out.same (pw_below_drewN (Below.refl _ _) nd)); have hcf2 := BX2.out.hf)
             | (go_at_call 45; (with_reducible refine (hcall _ BX2.out).mono ?_); rintro e w9 ⟨rfl, hg9, hm9⟩; have HG9 := Aside0.mk hg9; have BX9 := Aside0.mk (BX2.out.turn hg9 hm9); have HS9 := Aside0.mk ((hg9.block w.heap.size (blk_lt HS.out) (fun e_ => by injection e_ with e_; have := HML.out; omega)).trans HS.out); have hs9 : w9.cell? ⟨w.heap.size, 0, none⟩ = some (.int .i64 (k : Int)) := blk_cell HS9.out 0; have hcl9 := BX9.out.hl; have hx9 : w9.cell? ⟨g, k, none⟩ = some (.int .i64 x) := (by have := BX9.out.row.cell k (by have := HGD.out; omega); rw [Nat.zero_add] at this; rw [this, HXX.out]; rfl); clear hg9 hm9))
            go_roundg k1
            case measure => have := HK1.out; omega
            case rel => exact ⟨best, l + 1, n' + D, rfl, by simp, ⟨by omega, by have := hL11.out; omega, HL.out.2.2⟩, H7, ⟨by have := HK1.out; omega⟩, ⟨bw_trans HG.out (bw_trans (BwBox.fresh (pw_below_drewN (Below.refl _ _) _)) HG9.out)⟩, HS9, ⟨by have := HNN.out; rw [Nat.add_mul]; omega⟩, BX9⟩
         ·have d3b : decide (0 ≤ rest) = false := decide_eq_false d3
          rw [if_neg (fun q_ => d3 q_.1)] at H
          have H7 := Aside0.mk H
          clear H d3
          go_wp2_with (first
           | (go_at_call 46; (with_reducible refine (hpow _).mono ?_); rintro e w7 ⟨rfl, ⟨nd, rfl⟩⟩; have hs0' := hs0 nd; have hs2' := hs2 nd; have BX2 := Aside0.mk (BX.out.same (pw_below_drewN (Below.refl _ _) nd)); have hcf2 := BX2.out.hf)
           | (go_at_call 45; (with_reducible refine (hcall _ BX2.out).mono ?_); rintro e w9 ⟨rfl, hg9, hm9⟩; have HG9 := Aside0.mk hg9; have BX9 := Aside0.mk (BX2.out.turn hg9 hm9); have HS9 := Aside0.mk ((hg9.block w.heap.size (blk_lt HS.out) (fun e_ => by injection e_ with e_; have := HML.out; omega)).trans HS.out); have hs9 : w9.cell? ⟨w.heap.size, 0, none⟩ = some (.int .i64 (k : Int)) := blk_cell HS9.out 0; have hcl9 := BX9.out.hl; have hx9 : w9.cell? ⟨g, k, none⟩ = some (.int .i64 x) := (by have := BX9.out.row.cell k (by have := HGD.out; omega); rw [Nat.zero_add] at this; rw [this, HXX.out]; rfl); clear hg9 hm9))
          go_roundg k1
          case measure => have := HK1.out; omega
          case rel => exact ⟨best, l + 1, n' + D, rfl, by simp, ⟨by omega, by have := hL11.out; omega, HL.out.2.2⟩, H7, ⟨by have := HK1.out; omega⟩, ⟨bw_trans HG.out (bw_trans (BwBox.fresh (pw_below_drewN (Below.refl _ _) _)) HG9.out)⟩, HS9, ⟨by have := HNN.out; rw [Nat.add_mul]; omega⟩, BX9⟩
       ·rw [if_neg d1] at H
        obtain rfl := Option.some.inj H
        have d1b : decide ((l : Int) ≤ most) = false := decide_eq_false d1
        have hcm := BX.out.hm
        have hs0 : wr.cell? ⟨w.heap.size, 0, none⟩ = some (.int .i64 (k : Int)) := blk_cell HS.out 0
        have hs1 : wr.cell? ⟨w.heap.size, 1, none⟩ = some (.int .i64 (fn : Int)) := blk_cell HS.out 1
        have hs2 : wr.cell? ⟨w.heap.size, 2, none⟩ = some (.int .i64 left) := blk_cell HS.out 2
        obtain ⟨w2, hput, hm2, hg2⟩ := memo_put impl_BestWithin.lawK Tryz.underlying69 Tryz.underlying3 BX.out.memo (by have := HNN.out; have := HN2.out; have := HD1.out; have := Nat.mul_le_mul_right D HL.out.2.1; unfold maxLen; omega) HKEY.out HL.out.2.2 ⟨k, fn, left, q + 1, rfl, by simp only [impl_BestWithin.least]; rw [if_neg (by have := HGD.out; omega), if_pos HGD.out]; exact HORIG.out⟩
        have HM2 := Aside0.mk hm2
        have HG2 := Aside0.mk hg2
        clear hm2 hg2 d1
        go_wp2
        go_ret
        exact ⟨rfl, bw_trans HG.out HG2.out, HM2.out.mono (by have := HNN.out; have := HD1.out; have := Nat.mul_le_mul_right D HL.out.2.1; omega)⟩
    ·obtain ⟨k', f', l', q', hkk, hv2⟩ := hv
     simp only [Value.agg.injEq, Array.mk.injEq, List.cons.injEq, Value.int.injEq, true_and, and_true] at hkk
     obtain ⟨e1, rfl, rfl⟩ := hkk
     obtain rfl : k = k' := by omega
     obtain rfl : r = v := impl_BestWithin.least_one (q := q + 1) (by simp only [impl_BestWithin.least]; rw [if_neg (by have := HGD.out; omega), if_pos HGD.out]; exact H.out) hv2
     clear hkey hv2 e1
     go_enter Tryz.func45, Tryz.ntmps45
     go_wp2
     go_ret
     exact ⟨rfl, BwBox.fresh HB1.out, (BOX.out.memo).mono (Nat.le_add_right _ _)⟩
theorem bw_makeMap {P : Program} {w : World} {ops : Array Oper} {rest : List Oper} {o : Oper} {a : Act} {Q : Exit → Act → World → Prop} (hg : o.guard = none) (t : TypeId) (hop : o.op = Op.makeMap t none)
  (hK : wpList P ops Q rest (a.put o.dst (.map (some w.heap.size))) (w.alloc (.map #[] 0))) : wpList P ops Q (o :: rest) a w := by
 refine wpList_plain hg fun K' hK' => ?_
 unfold Oper.wp
 simp [execOp, hop, run_makeMap, Result.andThen]
 exact hK' _ _ hK
theorem bw_twelve {n : Nat} (h : n ≤ 12) : 0 + 12 ^ (n - 0) ≤ 4611686018427387904 := by
 have : 12 ^ n ≤ 12 ^ 12 := Nat.pow_le_pow_right (by omega) h
 have e : (12 : Nat) ^ 12 = 8916100448256 := by decide
 rw [Nat.sub_zero]
 omega
theorem bw_end {w W W' : World} {M : Nat} (hb : Below w.heap.size w W) (hg : W.grownBy W' (some M)) (hM : w.heap.size ≤ M) : Below w.heap.size w W' :=
 ⟨hg.os.trans hb.os, hg.tape.trans hb.tape, hg.output.trans hb.output, Nat.le_trans hb.size hg.size, fun k hk => (hg.block k (Nat.lt_of_lt_of_le hk hb.size) (fun e => by injection e with e; omega)).trans (hb.block k hk)⟩
theorem bw_R {w : World} {base g cap n : Nat} {cur : Array Value} {xs : List Int} (h : RowAt w base g 0 cap cur xs) (hz : cap = cur.size) (hn : n = xs.length) : Kd.R (Kd.int .i64) 3 w base (fun k => k = g) (.slice (some ⟨g, 0, none⟩) n cap) xs := by
 subst hn
 refine Kd.R_of_own ⟨by simp [encs], .inr ⟨g, cap, cur, rfl, h.base, h.blk, h.len, h.small, by omega, ?_⟩⟩ (fun k hk => by simpa [Value.ownBlock] using hk.symm)
 apply List.ext_getElem?
 intro j
 rw [Nat.mul_one]
 by_cases hj : j < xs.length
 ·rw [List.getElem?_take_of_lt hj]
  have := h.cells j hj
  rw [Nat.zero_add] at this
  simpa [encs, List.getD_eq_getElem?_getD, hj] using this
 ·rw [List.getElem?_eq_none (by rw [List.length_take]; omega), List.getElem?_eq_none (by simp [encs]; omega)]
theorem BwBox.start {w : World} {ws : List Int} {many most : Int} {g cap : Nat} {cur : Array Value} {Bl Bo Ba : Nat} (T U : TypeId) (hl : w.cell? ⟨Bl, 0, none⟩ = some (.slice (some ⟨g, 0, none⟩) ws.length cap)) (ho : w.cell? ⟨Bo, 0, none⟩ = some (.int .i64 most)) (ha : w.cell? ⟨Ba, 0, none⟩ = some (.int .i64 many)) (l1 : Bl < w.heap.size) (l2 : Bo < w.heap.size) (l3 : Ba < w.heap.size) (hr : RowAt w 0 g 0 cap cur ws) :
  BwBox (((w.alloc (.map #[] 0)).alloc (.cells #[.map (some w.heap.size)] T)).alloc (.cells #[.func (.func 45) #[] #[.pointer (some ⟨Bl, 0, none⟩), .pointer (some ⟨w.heap.size + 1, 0, none⟩), .pointer (some ⟨Bo, 0, none⟩), .pointer (some ⟨Ba, 0, none⟩), .pointer (some ⟨w.heap.size + 1 + 1, 0, none⟩)]] U)) ws many most g cap cur Bl (w.heap.size + 1) Bo Ba (w.heap.size + 1 + 1) w.heap.size 0 := by
 have s1 : ∀ (W : World) (o : Obj), (W.alloc o).heap.size = W.heap.size + 1 := fun W o => by simp
 have n1 : ∀ (W : World) (o : Obj) (i : Nat), i = W.heap.size → (W.alloc o).heap[i]? = some o := fun W o i e => by rw [e]; unfold World.alloc; simp
 have o1 : ∀ (W : World) (o : Obj) (i : Nat), i < W.heap.size → (W.alloc o).heap[i]? = W.heap[i]? := fun W o i h => Below.heap_alloc W o i h
 have hb : ∀ q1 q2 q3 : Obj, Below w.heap.size w (((w.alloc q1).alloc q2).alloc q3) := fun q1 q2 q3 => below_alloc (below_alloc (below_alloc (Below.refl _ _) _) _) _
 have hg := hr.lt
 refine ⟨((hb _ _ _).cell (p := ⟨Bl, 0, none⟩) l1).trans hl, ?_, ((hb _ _ _).cell (p := ⟨Bo, 0, none⟩) l2).trans ho, ((hb _ _ _).cell (p := ⟨Ba, 0, none⟩) l3).trans ha, ?_, ⟨by omega, by omega, by omega, by omega, by omega, by omega⟩, ⟨by simp only [s1]; omega, by simp only [s1]; omega, by simp only [s1]; omega, by simp only [s1]; omega, by simp only [s1]; omega⟩, hr.move ((hb _ _ _).block _ hg), ?_⟩
 ·refine cell_of_one (t := T) ?_
  rw [o1 _ _ _ (by simp only [s1]; omega), n1 _ _ _ (by simp only [s1])]
 ·refine cell_of_one (t := U) ?_
  rw [n1 _ _ _ (by simp only [s1])]
 ·refine (memo_made w).move ?_
  rw [o1 _ _ _ (by simp only [s1]; omega), o1 _ _ _ (by simp only [s1]; omega)]
def impl_BestWithin.f (k : Nat) (l0 : List Int) (a1 : Int) (a2 : Int) : Option (Int × Bool) := (impl_areWeights.f k l0).bind fun b1 => if b1 = true then ((impl_areLetters.f a1).bind fun b2 => if b2 = true then ((impl_in.f a2 1 11).bind fun b3 => if b3 = true then (if 0 < l0.length ∧ l0.length ≤ 12 then ((slices_Reverse_int_int.f k (sortI l0)).bind fun ws => (impl_power.f k a1 a2).bind fun p => (impl_BestWithin.least k ws a1 a2 0 1 p).bind fun c => some (if c < 0 then 0 else c, decide (0 ≤ c))) else none) else some (0, false)) else some (0, false)) else some (0, false)
theorem impl_BestWithin.mono : ∀ a0 a1 a2 k, LeO (impl_BestWithin.f k a0 a1 a2) (impl_BestWithin.f (k + 1) a0 a1 a2) := fun _ _ _ k => by
 unfold impl_BestWithin.f
 exact LeO.bind (impl_areWeights.mono _ _) fun _ => LeO.ite (LeO.bind (LeO.refl _) fun _ => LeO.ite (LeO.bind (LeO.refl _) fun _ => LeO.ite (LeO.ite (LeO.bind (slices_Reverse_int_int.mono _ _) fun _ => LeO.bind (impl_power.mono _ _ _) fun _ => LeO.bind ((impl_BestWithin.mono_l k).1 _ _ _ _ _ _) fun _ => LeO.refl _) (LeO.refl _)) (LeO.refl _)) (LeO.refl _)) (LeO.refl _)
set_option maxHeartbeats 1000000 in
set_option maxRecDepth 100000 in
theorem impl_BestWithin.calls (k : Nat) (A0 : Option Addr) (c0 : Nat) (l0 : List Int) (a1 : Int) (a2 : Int) (r1 : Int) (r2 : Bool) (w : World) (hr0 : Kd.C (Kd.int .i64) w A0 l0.length l0) (hc0 : l0.length ≤ c0) (h : impl_BestWithin.f k l0 a1 a2 = some (r1, r2)) :
  Calls Tryz.prog 7 #[.slice A0 l0.length c0, .int .i64 a1, .int .i64 a2] w fun e w' => e = .returned (.tuple #[.int .i64 r1, .bool r2]) ∧ Below w.heap.size w w' := by
 have HR0 := Aside0.mk hr0
 have HC0 := Aside0.mk hc0
 obtain ⟨W1, hW1⟩ : ∃ W, W = (w.alloc (.cells #[.int .i64 a1] 3)).alloc (.cells #[.int .i64 a2] 3) := ⟨_, rfl⟩
 have HW1 := Aside0.mk hW1
 have HB1 := Aside0.mk (show Below w.heap.size w ((w.alloc (.cells #[.int .i64 a1] 3)).alloc (.cells #[.int .i64 a2] 3)) from below_alloc (below_alloc (Below.refl _ _) _) _)
 unfold impl_BestWithin.f at h
 replace h := Option.bind_eq_some_iff.mp h
 obtain ⟨b1, A1, h⟩ := h
 have A1 := Aside0.mk A1
 clear hr0 hc0 hW1
 cases b1 with
 | false =>
  obtain ⟨rfl, rfl⟩ : 0 = r1 ∧ false = r2 := by simpa using h
  clear h
  go_enter Tryz.func7, Tryz.ntmps7
  go_wp2_with (go_at_call 39; (with_reducible refine (impl_areWeights.calls k A0 c0 l0 false _ (Kd.C_below HR0.out HB1.out) HC0.out A1.out).mono ?_); rintro e w7 ⟨rfl, hb⟩; have HB7 := Aside0.mk (Drawn0.below hb); clear hb)
  go_ret2
  exact ⟨rfl, below_step HB1.out HB7.out⟩
 | true =>
  rw [if_pos rfl] at h
  replace h := Option.bind_eq_some_iff.mp h
  obtain ⟨b2, A2, h⟩ := h
  have A2 := Aside0.mk A2
  have hwt := fun W hC => impl_areWeights.calls k A0 c0 l0 true W hC HC0.out A1.out
  cases b2 with
  | false =>
   obtain ⟨rfl, rfl⟩ : 0 = r1 ∧ false = r2 := by simpa using h
   clear h
   go_enter Tryz.func7, Tryz.ntmps7
   go_wp2_with (first
    | (go_at_call 39; (with_reducible refine (hwt _ (Kd.C_below HR0.out HB1.out)).mono ?_); rintro e w7 ⟨rfl, ⟨nd, rfl⟩⟩)
    | (go_at_call 40; (with_reducible refine (impl_areLetters.calls a1 false _ A2.out).mono ?_); rintro e w7 ⟨rfl, ⟨nd2, rfl⟩⟩))
   go_ret2
   exact ⟨rfl, pw_below_drewN HB1.out _⟩
  | true =>
   rw [if_pos rfl] at h
   replace h := Option.bind_eq_some_iff.mp h
   obtain ⟨b3, A3, h⟩ := h
   have A3 := Aside0.mk A3
   have hlt := fun W => impl_areLetters.calls a1 true W A2.out
   cases b3 with
   | false =>
    obtain ⟨rfl, rfl⟩ : 0 = r1 ∧ false = r2 := by simpa using h
    clear h
    go_enter Tryz.func7, Tryz.ntmps7
    go_wp2_with (first
     | (go_at_call 39; (with_reducible refine (hwt _ (Kd.C_below HR0.out HB1.out)).mono ?_); rintro e w7 ⟨rfl, ⟨nd, rfl⟩⟩)
     | (go_at_call 40; (with_reducible refine (hlt _).mono ?_); rintro e w7 ⟨rfl, ⟨nd2, rfl⟩⟩)
     | (go_at_call 41; (with_reducible refine (impl_in.calls a2 1 11 false _ A3.out).mono ?_); rintro e w7 ⟨rfl, ⟨nd3, rfl⟩⟩))
    go_ret2
    exact ⟨rfl, pw_below_drewN HB1.out _⟩
   | true =>
    rw [if_pos rfl] at h
    split at h
    case isFalse => cases h
    rename_i hlen
    have HLEN := Aside0.mk hlen
    replace h := Option.bind_eq_some_iff.mp h
    obtain ⟨ws, A4, h⟩ := h
    have A4 := Aside0.mk A4
    replace h := Option.bind_eq_some_iff.mp h
    obtain ⟨p, A5, h⟩ := h
    have A5 := Aside0.mk A5
    replace h := Option.bind_eq_some_iff.mp h
    obtain ⟨c, A6, h⟩ := h
    have A6 := Aside0.mk A6
    simp only [Option.some.injEq, Prod.mk.injEq] at h
    obtain ⟨rfl, rfl⟩ := h
    clear hlen
    have hV := fun W => values_callsI A0 l0.length c0 W
    have HCA0 : ∀ m, (((w.alloc (.cells #[.int .i64 a1] 3)).alloc (.cells #[.int .i64 a2] 3)).drewN m).cell? ⟨w.heap.size, 0, none⟩ = some (.int .i64 a1) := fun m => by go_simp
    have HCO0 : ∀ m, (((w.alloc (.cells #[.int .i64 a1] 3)).alloc (.cells #[.int .i64 a2] 3)).drewN m).cell? ⟨w.heap.size + 1, 0, none⟩ = some (.int .i64 a2) := fun m => by go_simp
    go_enter Tryz.func7, Tryz.ntmps7
    go_upto_region 3 with (first
     | (go_at_call 39; (with_reducible refine (hwt _ (Kd.C_below HR0.out HB1.out)).mono ?_); rintro e w7 ⟨rfl, ⟨nd, rfl⟩⟩)
     | (go_at_call 40; (with_reducible refine (hlt _).mono ?_); rintro e w7 ⟨rfl, ⟨nd2, rfl⟩⟩)
     | (go_at_call 41; (with_reducible refine (impl_in.calls a2 1 11 true _ A3.out).mono ?_); rintro e w7 ⟨rfl, ⟨nd3, rfl⟩⟩))
    generalize hw3 : World.drewN _ _ = W3
    have HB3 := Aside0.mk (show Below w.heap.size w W3 from by rw [← hw3]; exact pw_below_drewN HB1.out _)
    have HCA := Aside0.mk (show W3.cell? ⟨w.heap.size, 0, none⟩ = some (.int .i64 a1) from by rw [← hw3]; exact HCA0 _)
    have HCO := Aside0.mk (show W3.cell? ⟨w.heap.size + 1, 0, none⟩ = some (.int .i64 a2) from by rw [← hw3]; exact HCO0 _)
    have HS3 := Aside0.mk (show w.heap.size + 2 ≤ W3.heap.size from by rw [← hw3]; simp)
    clear hw3
    have hS := sorted_values' A0 c0 l0 W3 (Kd.C_below HR0.out HB3.out) (by have := HLEN.out; omega) (by have := HLEN.out; omega)
    go_upto_region 4 with (first
     | (go_at_call 43; (with_reducible refine (hV _).mono ?_); rintro e w' ⟨rfl, rfl⟩)
     | (go_at_call 42; (with_reducible refine hS.mono ?_); rintro e w2 ⟨hb, g, cap, cur, rfl, hR, hz⟩; have HB4 := Aside0.mk hb; have HR4 := Aside0.mk hR; have HZ4 := Aside0.mk hz; clear hb hR hz))
    have hrev := fun (W : World) (hb : Below w.heap.size w W) (hR : Kd.R (Kd.int .i64) 3 W w.heap.size (fun k => k = g) (.slice (some ⟨g, 0, none⟩) l0.length cap) (sortI l0)) => slices_Reverse_int_int.calls k (fun k => k = g) (.slice (some ⟨g, 0, none⟩) l0.length cap) (sortI l0) ws w W hb hR A4.out
    have HR5 := Aside0.mk (bw_R (n := l0.length) HR4.out HZ4.out (sortI_length l0).symm)
    have HB5 := Aside0.mk (below_step HB3.out HB4.out)
    have HGL := Aside0.mk HR4.out.lt
    clear hV hS hwt hlt HCA0 HCO0
    go_upto_region 5 with (go_at_call 44; (with_reducible refine (hrev _ (below_alloc HB5.out _) (Kd.R_alloc (Kd.R_lower HR5.out HB3.out.size) _)).mono ?_); rintro e w6 ⟨rfl, hr6, hb6, hk6⟩; have HR6 := Aside0.mk hr6; have HB6 := Aside0.mk hb6; have HK6 := Aside0.mk hk6; clear hr6 hb6 hk6)
    obtain ⟨g', cap', cur', eg, hR6, -⟩ := RowAt.of_own (xs := ws) (v := .slice (some ⟨g, 0, none⟩) l0.length cap) (by have := Kd.own_of_R HR6.out; simpa [encs] using this) (by simp)
    injection eg with eg1 eg2 eg3
    injection eg1 with eg1
    injection eg1 with eg1 eg4 eg5
    subst eg1 eg3
    clear eg4 eg5
    have HR7 := Aside0.mk (show RowAt w6 0 g 0 cap cur' ws from ⟨Nat.zero_le _, hR6.blk, hR6.len, hR6.fits, hR6.small, hR6.cells⟩)
    have HEG := Aside0.mk eg2
    have hfar : ∀ i, i < w2.heap.size → i ≠ g → w6.heap[i]? = w2.heap[i]? := fun i hi hne => (HK6.out.2 i (by simp; omega) hne).trans (Below.heap_alloc _ _ _ hi)
    have hs3 := HS3.out
    have hb3 := HB4.out.size
    have hg3 := HR4.out.base
    have HLL := Aside0.mk (show w6.cell? ⟨w2.heap.size, 0, none⟩ = some (.slice (some ⟨g, 0, none⟩) l0.length cap) from (bw_cell (HK6.out.2 w2.heap.size (by simp) (by have := HGL.out; omega))).trans (by go_simp))
    have HAA := Aside0.mk (show w6.cell? ⟨w.heap.size, 0, none⟩ = some (.int .i64 a1) from (bw_cell (hfar _ (by omega) (by omega))).trans ((bw_cell (HB4.out.block _ (by omega))).trans HCA.out))
    have HOO := Aside0.mk (show w6.cell? ⟨w.heap.size + 1, 0, none⟩ = some (.int .i64 a2) from (bw_cell (hfar _ (by omega) (by omega))).trans ((bw_cell (HB4.out.block _ (by omega))).trans HCO.out))
    have HSZ := Aside0.mk (show w.heap.size + 1 < w6.heap.size ∧ w2.heap.size < w6.heap.size from by have := HK6.out.1; simp at this; omega)
    clear hfar hs3 hb3 hg3 hR6 eg2
    have HBX := Aside0.mk (BwBox.start (many := a1) (most := a2) 69 70 (by rw [← HEG.out]; exact HLL.out) HOO.out HAA.out HSZ.out.2 HSZ.out.1 (by have := HSZ.out; omega) HR7.out)
    go_upto_region 8 with (refine bw_makeMap rfl 69 rfl ?_; simp only [Act.put, List.setIfInBounds_toArray, List.set_cons_zero, List.set_cons_succ])
    have HBW := Aside0.mk (show Below w6.heap.size w6 (((w6.alloc (.map #[] 0)).alloc (.cells #[.map (some w6.heap.size)] 69)).alloc (.cells #[.func (.func 45) #[] #[.pointer (some ⟨w2.heap.size, 0, none⟩), .pointer (some ⟨w6.heap.size + 1, 0, none⟩), .pointer (some ⟨w.heap.size + 1, 0, none⟩), .pointer (some ⟨w.heap.size, 0, none⟩), .pointer (some ⟨w6.heap.size + 1 + 1, 0, none⟩)]] 70)) from below_alloc (below_alloc (below_alloc (Below.refl _ _) _) _) _)
    generalize hwf : ((w6.alloc (.map #[] 0)).alloc (.cells #[.map (some w6.heap.size)] 69)).alloc (.cells #[.func (.func 45) #[] #[.pointer (some ⟨w2.heap.size, 0, none⟩), .pointer (some ⟨w6.heap.size + 1, 0, none⟩), .pointer (some ⟨w.heap.size + 1, 0, none⟩), .pointer (some ⟨w.heap.size, 0, none⟩), .pointer (some ⟨w6.heap.size + 1 + 1, 0, none⟩)]] 70) = WF at HBX HBW
    try rw [hwf]
    clear hwf
    have hca := HBX.out.ha
    have hco := HBX.out.ho
    have hcf := HBX.out.hf
    have hpow := fun W => impl_power.calls k a1 a2 p W A5.out
    have hcall := fun W (hbx : BwBox W ws a1 a2 g cap cur' w2.heap.size (w6.heap.size + 1) (w.heap.size + 1) w.heap.size (w6.heap.size + 1 + 1) w6.heap.size 0) => impl_BestWithin.least_calls k ws a1 a2 g cap cur' w2.heap.size (w6.heap.size + 1) (w.heap.size + 1) w.heap.size (w6.heap.size + 1 + 1) w6.heap.size 0 0 1 p c W hbx (bw_twelve (by rw [← HEG.out]; exact HLEN.out.2)) (Nat.zero_le _) A6.out
    rw [Int.natCast_zero] at hcall
    have hca2 : ∀ m, (WF.drewN m).cell? ⟨w.heap.size, 0, none⟩ = some (.int .i64 a1) := fun _ => hca
    have hco2 : ∀ m, (WF.drewN m).cell? ⟨w.heap.size + 1, 0, none⟩ = some (.int .i64 a2) := fun _ => hco
    have hcf2 : ∀ m, (WF.drewN m).cell? ⟨w6.heap.size + 1 + 1, 0, none⟩ = _ := fun _ => hcf
    go_region_with (first
     | (go_at_call 46; (with_reducible refine (hpow _).mono ?_); rintro e w7 ⟨rfl, ⟨nd, rfl⟩⟩)
     | (go_at_call 45; (with_reducible refine (hcall _ (HBX.out.same (by first | exact pw_below_drewN (Below.refl _ _) _ | exact below_drew1 (Below.refl _ _)))).mono ?_); rintro e w9 ⟨rfl, hg9, hm9⟩; have HG9 := Aside0.mk hg9; clear hg9 hm9))
    all_goals
     have HEND := Aside0.mk (bw_end (by first | exact pw_below_drewN (below_step HB6.out HBW.out) _ | exact below_drew1 (below_step HB6.out HBW.out)) HG9.out (Nat.le_of_lt (Nat.lt_of_succ_lt HSZ.out.1)))
     clear HG9
     go_wp2
     all_goals
      go_ret2
      exact ⟨by first | rfl | (simp; done) | (simp [ge_iff_le]; done) | (split <;> simp_all <;> omega), HEND.out⟩
def spec_l1In.f (a0 : Int) (a1 : Int) (a2 : Int) : Option (Bool) := if a0 ≥ a1 then (some (decide (a0 ≤ a2))) else (some false)
theorem spec_l1In.calls (a0 : Int) (a1 : Int) (a2 : Int) (r : Bool) (w : World) (h : spec_l1In.f a0 a1 a2 = some r) :
  Calls Tryz.prog 48 #[.int .i64 a0, .int .i64 a1, .int .i64 a2] w fun e w' => e = .returned (.bool r) ∧ Drawn0 w w' := by
 have H : (if a0 ≥ a1 then (some (decide (a0 ≤ a2))) else (some false)) = some r := h
 clear h
 by_cases c4 : a0 ≥ a1
 ·rw [if_pos c4] at H
  have c4b0 : decide (a1 ≤ a0) = true := decide_eq_true c4
  clear c4
  obtain rfl := Option.some.inj H
  go_enter Tryz.func48, Tryz.ntmps48
  go_wp2
  go_ret
  exact ⟨by first | rfl | (simp; done) | (simp [*]; done) | (simp only [IntWalk.i64_left]; done) | (simp [IntWalk.i64_left]; done) | (simp [*, IntWalk.i64_left]; done), by repeat (first | exact Drawn0.refl _ | apply Drawn0.step)⟩
 ·rw [if_neg c4] at H
  have c4b0 : decide (a1 ≤ a0) = false := decide_eq_false c4
  clear c4
  obtain rfl := Option.some.inj H
  go_enter Tryz.func48, Tryz.ntmps48
  go_wp2
  go_ret
  exact ⟨by first | rfl | (simp; done) | (simp [*]; done) | (simp only [IntWalk.i64_left]; done) | (simp [IntWalk.i64_left]; done) | (simp [*, IntWalk.i64_left]; done), by repeat (first | exact Drawn0.refl _ | apply Drawn0.step)⟩
def spec_krLetters.f (a0 : Int) : Option (Bool) := (spec_l1In.f a0 2 3).bind fun t187 => (some t187)
theorem spec_krLetters.calls (a0 : Int) (r : Bool) (w : World) (h : spec_krLetters.f a0 = some r) :
  Calls Tryz.prog 53 #[.int .i64 a0] w fun e w' => e = .returned (.bool r) ∧ Drawn0 w w' := by
 have H : ((spec_l1In.f a0 2 3).bind fun t187 => (some t187)) = some r := h
 clear h
 replace H := Option.bind_eq_some_iff.mp H
 obtain ⟨t187, A20, H⟩ := H
 (try dsimp only at H)
 have A2 := Aside0.mk A20
 clear A20
 obtain rfl := Option.some.inj H
 go_enter Tryz.func53, Tryz.ntmps53
 go_wp2_with (first | ((with_reducible refine gate_callee (f := 48) rfl ?_); refine goesL_ (some 4) rfl rfl Tryz.func48 (by kernel_rfl) rfl #[.int .i64 a0, .int .i64 2, .int .i64 3] rfl (by (try simp only [List.map_toArray, List.map_cons, List.map_nil]); first | done | rfl | (simp only [List.length_drop, List.length_take]; rfl)) ?_; (with_reducible refine (spec_l1In.calls a0 2 3 t187 _ A2.out).mono ?_); rintro e w' ⟨rfl, ⟨nd, rfl⟩⟩; refine ⟨_, rfl, ?_⟩))
 go_ret
 exact ⟨by first | rfl | (simp; done) | (simp [*]; done) | (simp only [IntWalk.i64_left]; done) | (simp [IntWalk.i64_left]; done) | (simp [*, IntWalk.i64_left]; done), by repeat (first | exact Drawn0.refl _ | apply Drawn0.step)⟩
def spec_l1All.l0 : Nat → Int → Int → List Int → Int → Int → Option (Bool)
 | 0, _, _, _, _, _ => none
 | k + 1, x1, x2, x9, x10, x11 => if x11 < x10 then (if 0 ≤ x11 then (if x11 < (x9.length : Int) then ((spec_l1In.f (rd x9 x11) x1 x2).bind fun t189 => (if t189 = true then (spec_l1All.l0 k x1 x2 x9 x10 (wrap64 (x11 + 1))) else (some false))) else (none)) else (none)) else (some true)
def spec_l1All.f (k : Nat) (l0 : List Int) (a1 : Int) (a2 : Int) : Option (Bool) := spec_l1All.l0 k a1 a2 l0 (l0.length : Int) 0
theorem spec_l1All.mono_l : ∀ k, (∀ y0 y1 y2 y3 y4, LeO (spec_l1All.l0 k y0 y1 y2 y3 y4) (spec_l1All.l0 (k + 1) y0 y1 y2 y3 y4))
 | 0 => fun _ _ _ _ _ r h => by simp [spec_l1All.l0] at h
 | k + 1 => by
  have ih0 := spec_l1All.mono_l k
  ·intro y0 y1 y2 y3 y4
   unfold spec_l1All.l0
   repeat' first
   | (with_reducible first | exact ih0 _ _ _ _ _ | exact LeO.refl _ | exact LeO.none _ | refine LeO.ite ?_ ?_ | refine LeO.bind ?_ (fun _ => ?_))
   | exact ih0 _ _ _ _ _
   | exact LeO.none _
   | refine LeO.ite ?_ ?_
   | refine LeO.bind ?_ (fun _ => ?_)
theorem spec_l1All.mono : ∀ a0 a1 a2 k, LeO (spec_l1All.f k a0 a1 a2) (spec_l1All.f (k + 1) a0 a1 a2) := by
 intro a0 a1 a2 k
 have ih0 := spec_l1All.mono_l k
 unfold spec_l1All.f
 repeat' first
   | (with_reducible first | exact ih0 _ _ _ _ _ | exact LeO.refl _ | exact LeO.none _ | refine LeO.ite ?_ ?_ | refine LeO.bind ?_ (fun _ => ?_))
   | exact ih0 _ _ _ _ _
   | exact LeO.none _
   | refine LeO.ite ?_ ?_
   | refine LeO.bind ?_ (fun _ => ?_)
theorem spec_l1All.calls (k : Nat) (A0 : Option Addr) (c0 : Nat) (l0 : List Int) (a1 : Int) (a2 : Int) (r : Bool) (w : World) (hr0 : Kd.C (Kd.int .i64) w A0 l0.length l0) (hc0 : l0.length ≤ c0) (h : spec_l1All.f k l0 a1 a2 = some r) :
  Calls Tryz.prog 61 #[.slice A0 l0.length c0, .int .i64 a1, .int .i64 a2] w fun e w' => e = .returned (.bool r) ∧ Drawn0 w w' := by
 have HR0 := Aside0.mk hr0
 have HC0 := Aside0.mk hc0
 clear hr0 hc0
 have H : (spec_l1All.l0 k a1 a2 l0 (l0.length : Int) 0) = some r := h
 clear h
 have H' := Aside0.mk H
 clear H
 go_enter Tryz.func61, Tryz.ntmps61
 go_wp2
 go_loopg [11] k (fun kq v11 w' => ∃ (x11_1 : Int), v11 = .int .i64 x11_1 ∧ Aside0 (spec_l1All.l0 kq a1 a2 l0 (l0.length : Int) x11_1 = some r) ∧ Aside0 (kq ≤ k) ∧ Drawn0 w w')
 case atStart => exact ⟨(0), zE1, H', ⟨Nat.le_refl _⟩, by repeat (first | exact Drawn0.refl _ | apply Drawn0.step)⟩
 case round =>
  clear H'
  try clear p2
  obtain ⟨x11_1, rfl, HA, HK1, ⟨m1, rfl⟩⟩ := hrel
  cases gk with
  | zero => exact absurd HA.out (by simp [spec_l1All.l0])
  | succ k1 =>
   have H := HA.out
   clear HA
   simp only [spec_l1All.l0] at H
   by_cases c4 : x11_1 < (l0.length : Int)
   ·rw [if_pos c4] at H
    have c4b0 : decide (x11_1 < (l0.length : Int)) = true := decide_eq_true c4
    clear c4
    by_cases c5 : 0 ≤ x11_1
    ·rw [if_pos c5] at H
     have c5b0 : decide (0 ≤ x11_1) = true := decide_eq_true c5
     clear c5
     by_cases c6 : x11_1 < (l0.length : Int)
     ·rw [if_pos c6] at H
      have c6b0 : decide (x11_1 < (l0.length : Int)) = true := decide_eq_true c6
      clear c6
      replace H := Option.bind_eq_some_iff.mp H
      obtain ⟨t189, A70, H⟩ := H
      (try dsimp only at H)
      have A7 := Aside0.mk A70
      clear A70
      by_cases c8 : t189 = true
      ·subst c8
       rw [if_pos rfl] at H
       have H' := Aside0.mk H
       clear H
       have p188 : 0 ≤ (x11_1 : Int) := zD
       have q188 : x11_1 < (l0.length : Int) := zD
       obtain ⟨ad188, e188, hx188_0⟩ := Kd.at_int HR0.out x11_1 p188 q188
       cases e188
       replace p188 := eq_true p188
       replace q188 := eq_true q188
       go_wp2_with (first | ((with_reducible refine gate_callee (f := 48) rfl ?_); refine goesL_ (some 18) rfl rfl Tryz.func48 (by kernel_rfl) rfl #[.int .i64 (rd l0 x11_1), .int .i64 a1, .int .i64 a2] rfl (by (try simp only [List.map_toArray, List.map_cons, List.map_nil]); first | done | rfl | (simp only [List.length_drop, List.length_take]; rfl)) ?_; (with_reducible refine (spec_l1In.calls (rd l0 x11_1) a1 a2 true _ A7.out).mono ?_); rintro e w' ⟨rfl, ⟨nd, rfl⟩⟩; refine ⟨_, rfl, ?_⟩))
       go_roundg k1
       case measure => have := HK1.out; omega
       case rel => exact ⟨(wrap64 (x11_1 + 1)), zE1, H', ⟨by have := HK1.out; omega⟩, by repeat (first | exact Drawn0.refl _ | apply Drawn0.step)⟩
      ·replace c8 := Bool.eq_false_iff.mpr c8
       subst c8
       rw [if_neg zN] at H
       obtain rfl := Option.some.inj H
       have p188 : 0 ≤ (x11_1 : Int) := zD
       have q188 : x11_1 < (l0.length : Int) := zD
       obtain ⟨ad188, e188, hx188_0⟩ := Kd.at_int HR0.out x11_1 p188 q188
       cases e188
       replace p188 := eq_true p188
       replace q188 := eq_true q188
       go_wp2_with (first | ((with_reducible refine gate_callee (f := 48) rfl ?_); refine goesL_ (some 18) rfl rfl Tryz.func48 (by kernel_rfl) rfl #[.int .i64 (rd l0 x11_1), .int .i64 a1, .int .i64 a2] rfl (by (try simp only [List.map_toArray, List.map_cons, List.map_nil]); first | done | rfl | (simp only [List.length_drop, List.length_take]; rfl)) ?_; (with_reducible refine (spec_l1In.calls (rd l0 x11_1) a1 a2 false _ A7.out).mono ?_); rintro e w' ⟨rfl, ⟨nd, rfl⟩⟩; refine ⟨_, rfl, ?_⟩))
       go_ret
       exact ⟨by first | rfl | (simp; done) | (simp [*]; done) | (simp only [IntWalk.i64_left]; done) | (simp [IntWalk.i64_left]; done) | (simp [*, IntWalk.i64_left]; done), by repeat (first | exact Drawn0.refl _ | apply Drawn0.step)⟩
     ·rw [if_neg c6] at H
      exact absurd H (by simp)
    ·rw [if_neg c5] at H
     exact absurd H (by simp)
   ·rw [if_neg c4] at H
    have c4b0 : decide (x11_1 < (l0.length : Int)) = false := decide_eq_false c4
    clear c4
    obtain rfl := Option.some.inj H
    go_wp2
    go_ret
    exact ⟨by first | rfl | (simp; done) | (simp [*]; done) | (simp only [IntWalk.i64_left]; done) | (simp [IntWalk.i64_left]; done) | (simp [*, IntWalk.i64_left]; done), by repeat (first | exact Drawn0.refl _ | apply Drawn0.step)⟩
def spec_beWeights.f (k : Nat) (l0 : List Int) : Option (Bool) := (spec_l1In.f (l0.length : Int) 1 12).bind fun t190 => (if t190 = true then ((spec_l1All.f k l0 1 100).bind fun t191 => (some t191)) else (some false))
theorem spec_beWeights.mono : ∀ a0 k, LeO (spec_beWeights.f k a0) (spec_beWeights.f (k + 1) a0) := by
 intro a0 k
 unfold spec_beWeights.f
 repeat' first
   | (with_reducible first | exact spec_l1All.mono _ _ _ _ | exact LeO.refl _ | exact LeO.none _ | refine LeO.ite ?_ ?_ | refine LeO.bind ?_ (fun _ => ?_))
   | exact spec_l1All.mono _ _ _ _
   | exact LeO.none _
   | refine LeO.ite ?_ ?_
   | refine LeO.bind ?_ (fun _ => ?_)
theorem spec_beWeights.calls (k : Nat) (A0 : Option Addr) (c0 : Nat) (l0 : List Int) (r : Bool) (w : World) (hr0 : Kd.C (Kd.int .i64) w A0 l0.length l0) (hc0 : l0.length ≤ c0) (h : spec_beWeights.f k l0 = some r) :
  Calls Tryz.prog 93 #[.slice A0 l0.length c0] w fun e w' => e = .returned (.bool r) ∧ Drawn0 w w' := by
 have HR0 := Aside0.mk hr0
 have HC0 := Aside0.mk hc0
 clear hr0 hc0
 have H : ((spec_l1In.f (l0.length : Int) 1 12).bind fun t190 => (if t190 = true then ((spec_l1All.f k l0 1 100).bind fun t191 => (some t191)) else (some false))) = some r := h
 clear h
 replace H := Option.bind_eq_some_iff.mp H
 obtain ⟨t190, A20, H⟩ := H
 (try dsimp only at H)
 have A2 := Aside0.mk A20
 clear A20
 by_cases c3 : t190 = true
 ·subst c3
  rw [if_pos rfl] at H
  replace H := Option.bind_eq_some_iff.mp H
  obtain ⟨t191, A40, H⟩ := H
  (try dsimp only at H)
  have A4 := Aside0.mk A40
  clear A40
  obtain rfl := Option.some.inj H
  go_enter Tryz.func93, Tryz.ntmps93
  go_wp2_with (first | ((with_reducible refine gate_callee (f := 48) rfl ?_); refine goesL_ (some 5) rfl rfl Tryz.func48 (by kernel_rfl) rfl #[.int .i64 (l0.length : Int), .int .i64 1, .int .i64 12] rfl (by (try simp only [List.map_toArray, List.map_cons, List.map_nil]); first | done | rfl | (simp only [List.length_drop, List.length_take]; rfl)) ?_; (with_reducible refine (spec_l1In.calls (l0.length : Int) 1 12 true _ A2.out).mono ?_); rintro e w' ⟨rfl, ⟨nd, rfl⟩⟩; refine ⟨_, rfl, ?_⟩) | (go_at_call 61; (with_reducible refine (spec_l1All.calls k _ _ l0 1 100 t191 _ ?side1 ?side2 A4.out).mono ?_); (case side1 => exact zC HR0.out); (case side2 => exact HC0.out); rintro e w' ⟨rfl, ⟨nd, rfl⟩⟩))
  go_ret
  exact ⟨by first | rfl | (simp; done) | (simp [*]; done) | (simp only [IntWalk.i64_left]; done) | (simp [IntWalk.i64_left]; done) | (simp [*, IntWalk.i64_left]; done), by repeat (first | exact Drawn0.refl _ | apply Drawn0.step)⟩
 ·replace c3 := Bool.eq_false_iff.mpr c3
  subst c3
  rw [if_neg zN] at H
  obtain rfl := Option.some.inj H
  go_enter Tryz.func93, Tryz.ntmps93
  go_wp2_with (first | ((with_reducible refine gate_callee (f := 48) rfl ?_); refine goesL_ (some 5) rfl rfl Tryz.func48 (by kernel_rfl) rfl #[.int .i64 (l0.length : Int), .int .i64 1, .int .i64 12] rfl (by (try simp only [List.map_toArray, List.map_cons, List.map_nil]); first | done | rfl | (simp only [List.length_drop, List.length_take]; rfl)) ?_; (with_reducible refine (spec_l1In.calls (l0.length : Int) 1 12 false _ A2.out).mono ?_); rintro e w' ⟨rfl, ⟨nd, rfl⟩⟩; refine ⟨_, rfl, ?_⟩))
  go_ret
  exact ⟨by first | rfl | (simp; done) | (simp [*]; done) | (simp only [IntWalk.i64_left]; done) | (simp [IntWalk.i64_left]; done) | (simp [*, IntWalk.i64_left]; done), by repeat (first | exact Drawn0.refl _ | apply Drawn0.step)⟩
def spec_beAsked.f (k : Nat) (l0 : List Int) (a1 : Int) : Option (Bool) := (spec_krLetters.f a1).bind fun t192 => (if t192 = true then ((spec_beWeights.f k l0).bind fun t193 => (some t193)) else (some false))
theorem spec_beAsked.mono : ∀ a0 a1 k, LeO (spec_beAsked.f k a0 a1) (spec_beAsked.f (k + 1) a0 a1) := by
 intro a0 a1 k
 unfold spec_beAsked.f
 repeat' first
   | (with_reducible first | exact spec_beWeights.mono _ _ | exact LeO.refl _ | exact LeO.none _ | refine LeO.ite ?_ ?_ | refine LeO.bind ?_ (fun _ => ?_))
   | exact spec_beWeights.mono _ _
   | exact LeO.none _
   | refine LeO.ite ?_ ?_
   | refine LeO.bind ?_ (fun _ => ?_)
theorem spec_beAsked.calls (k : Nat) (A0 : Option Addr) (c0 : Nat) (l0 : List Int) (a1 : Int) (r : Bool) (w : World) (hr0 : Kd.C (Kd.int .i64) w A0 l0.length l0) (hc0 : l0.length ≤ c0) (h : spec_beAsked.f k l0 a1 = some r) :
  Calls Tryz.prog 47 #[.slice A0 l0.length c0, .int .i64 a1] w fun e w' => e = .returned (.bool r) ∧ Drawn0 w w' := by
 have HR0 := Aside0.mk hr0
 have HC0 := Aside0.mk hc0
 clear hr0 hc0
 have H : ((spec_krLetters.f a1).bind fun t192 => (if t192 = true then ((spec_beWeights.f k l0).bind fun t193 => (some t193)) else (some false))) = some r := h
 clear h
 replace H := Option.bind_eq_some_iff.mp H
 obtain ⟨t192, A30, H⟩ := H
 (try dsimp only at H)
 have A3 := Aside0.mk A30
 clear A30
 by_cases c4 : t192 = true
 ·subst c4
  rw [if_pos rfl] at H
  replace H := Option.bind_eq_some_iff.mp H
  obtain ⟨t193, A50, H⟩ := H
  (try dsimp only at H)
  have A5 := Aside0.mk A50
  clear A50
  obtain rfl := Option.some.inj H
  go_enter Tryz.func47, Tryz.ntmps47
  go_wp2_with (first | ((with_reducible refine gate_callee (f := 53) rfl ?_); refine goesL_ (some 6) rfl rfl Tryz.func53 (by kernel_rfl) rfl #[.int .i64 a1] rfl (by (try simp only [List.map_toArray, List.map_cons, List.map_nil]); first | done | rfl | (simp only [List.length_drop, List.length_take]; rfl)) ?_; (with_reducible refine (spec_krLetters.calls a1 true _ A3.out).mono ?_); rintro e w' ⟨rfl, ⟨nd, rfl⟩⟩; refine ⟨_, rfl, ?_⟩) | (go_at_call 93; (with_reducible refine (spec_beWeights.calls k _ _ l0 t193 _ ?side1 ?side2 A5.out).mono ?_); (case side1 => exact zC HR0.out); (case side2 => exact HC0.out); rintro e w' ⟨rfl, ⟨nd, rfl⟩⟩))
  go_ret
  exact ⟨by first | rfl | (simp; done) | (simp [*]; done) | (simp only [IntWalk.i64_left]; done) | (simp [IntWalk.i64_left]; done) | (simp [*, IntWalk.i64_left]; done), by repeat (first | exact Drawn0.refl _ | apply Drawn0.step)⟩
 ·replace c4 := Bool.eq_false_iff.mpr c4
  subst c4
  rw [if_neg zN] at H
  obtain rfl := Option.some.inj H
  go_enter Tryz.func47, Tryz.ntmps47
  go_wp2_with (first | ((with_reducible refine gate_callee (f := 53) rfl ?_); refine goesL_ (some 6) rfl rfl Tryz.func53 (by kernel_rfl) rfl #[.int .i64 a1] rfl (by (try simp only [List.map_toArray, List.map_cons, List.map_nil]); first | done | rfl | (simp only [List.length_drop, List.length_take]; rfl)) ?_; (with_reducible refine (spec_krLetters.calls a1 false _ A3.out).mono ?_); rintro e w' ⟨rfl, ⟨nd, rfl⟩⟩; refine ⟨_, rfl, ?_⟩))
  go_ret
  exact ⟨by first | rfl | (simp; done) | (simp [*]; done) | (simp only [IntWalk.i64_left]; done) | (simp [IntWalk.i64_left]; done) | (simp [*, IntWalk.i64_left]; done), by repeat (first | exact Drawn0.refl _ | apply Drawn0.step)⟩
def spec_l1Own.f (l0 : List Int) : Option (List Int) := (some (([] : List Int) : List Int)).bind fun y194 => (if y194.length + l0.length < 17592186044416 then (some (y194 ++ l0)) else (none))
theorem spec_l1Own.calls (A0 : Option Addr) (c0 : Nat) (l0 : List Int) (r : List Int) (w : World) (hr0 : Kd.C (Kd.int .i64) w A0 l0.length l0) (hc0 : l0.length ≤ c0) (h : spec_l1Own.f l0 = some r) :
  Calls Tryz.prog 94 #[.slice A0 l0.length c0] w fun e w' => ∃ v0_ : Value, e = .returned (v0_) ∧ Kd.R (Kd.int .i64) 3 w' w.heap.size (fun _ => True) v0_ r ∧ Below w.heap.size w w' := by
 have HR0 := Aside0.mk hr0
 have HC0 := Aside0.mk hc0
 clear hr0 hc0
 have HB := Aside0.mk (Below.refl w.heap.size w)
 have H : ((some (([] : List Int) : List Int)).bind fun y194 => (if y194.length + l0.length < 17592186044416 then (some (y194 ++ l0)) else (none))) = some r := h
 clear h
 obtain ⟨y194, hy194⟩ : ∃ y_ : List Int, y_ = (([] : List Int)) := ⟨_, rfl⟩
 replace H : (if y194.length + l0.length < 17592186044416 then (some (y194 ++ l0)) else (none)) = some r := by first | (rw [hy194]; with_reducible exact H) | (have H2_ := (Option.bind_some _ _).symm.trans H; rw [hy194]; with_reducible exact H2_) | (have H2_ := (Option.bind_some _ _).symm.trans H; with_reducible exact H2_) | with_reducible exact H | (rw [hy194]; exact H) | exact H
 have Ny194 := Aside0.mk hy194
 clear hy194
 by_cases c2 : y194.length + l0.length < 17592186044416
 ·rw [if_pos c2] at H
  have LMc2 := Aside0.mk c2
  clear c2
  obtain ⟨y197, hy197⟩ : ∃ y_ : List Int, y_ = (y194 ++ l0) := ⟨_, rfl⟩
  replace H : (some y197) = some r := by first | (rw [hy197]; with_reducible exact H) | (have H2_ := (Option.bind_some _ _).symm.trans H; rw [hy197]; with_reducible exact H2_) | (have H2_ := (Option.bind_some _ _).symm.trans H; with_reducible exact H2_) | with_reducible exact H | (rw [hy197]; exact H) | exact H
  have Ny197 := Aside0.mk hy197
  clear hy197
  obtain rfl := Option.some.inj H
  go_enter Tryz.func94, Tryz.ntmps94
  go_wp2_with (first | ((with_reducible refine gate_dst (N := 3) rfl ?_); refine Kd.R_lit (Kd.int .i64) _ 3 ?hg (N := 3) ?hd (xs := ([] : List Int)) (inner := []) (ok := fun _ => True) (okp := fun _ => True) ?hr ?hp (fun _ hk => hk) trivial (Below.refl _ _) (Nat.le_refl _) (by simp) ?_; (case hd => rfl); (case hg => rfl); (case hr => first | (go_simp; done) | (go_simp; rfl)); (case hp => exact (Reps.none _ _)); intro v195 w3 ho4 hb hg_ hnew_; clear hg_ hnew_; (first | rw [← Ny194.out] at ho4 | (simp only [Int.reduceToNat] at ho4; rw [← Ny194.out] at ho4)); have n0_ := Aside0.mk (Kd.R_lower ho4 (below_size (zB HB.out))); have n1_ := Aside0.mk (below_step (zB HB.out) hb); clear HB; have HO196 := n0_; have HB := n1_; clear n0_ n1_; clear hb ho4) | ((with_reducible refine gate_builtin (b := .append) (xs := #[.tmp 3, .tmp 4]) rfl ?_); at_builtin; refine Kd.R_append_rows (Kd.int .i64) (w0 := w) w.heap.size rfl (.tmp 3) (.tmp 4) 24 3 (.int .i64 0) 8 rfl Tryz.underlying24 info3 rfl (by decide) (by omega) v195 y194 l0 _ _ _ (fun _ => True) (fun _ => False) rfl rfl ?aO ?aR (fun _ _ h => h) (fun _ h => h.elim) ?aF ?aB ?aS ?aL ?_; (case aR => exact zC (Kd.C_below HR0.out HB.out)); (case aB => exact (zB HB.out)); (case aF => exact (fun _ _ => trivial)); (case aO => exact (zR HO196.out)); (case aS => exact (below_size (zB HB.out))); (case aL => have := LMc2.out; omega); intro v198 w5 ho hb hg hat; rw [← Ny197.out] at ho; have n0_ := Aside0.mk (hb); have n1_ := Aside0.mk (ho); clear HB; clear HO196; have HB := n0_; have HO199 := n1_; clear n0_ n1_; clear ho hb hg hat))
  go_ret
  exact ⟨_, zF, zR HO199.out, zB HB.out⟩
 ·rw [if_neg c2] at H
  exact absurd H (by simp)
end Go.Proofs.YtmanjfdchhipmaaGreatDoor.XFnBestWithin
