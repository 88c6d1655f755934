-- by wip/shake.py
import Derived.Shelf.Sort.Plain
import Derived.Shelf.Slices.In.SortNone
import Derived.ArgAppend
import Derived.Test.YtmanjfdchhipmaaGreatDoorShelfI
import Derived.Test.YtmanjfdchhipmaaGreatDoorHandCollectI
import Derived.Test.YtmanjfdchhipmaaGreatDoorVAll
import Derived.WalkKit
import Derived.KernelRfl
import Derived.WalkSpells
namespace Go.Proofs.YtmanjfdchhipmaaGreatDoor.Hand
open Go.RowKit Go.Shelf Go.Sort Go.Proofs.YtmanjfdchhipmaaGreatDoorW.PrintWords Go.Proofs.YtmanjfdchhipmaaGreatDoorW.PrintLast Go.Proofs.YtmanjfdchhipmaaGreatDoorW.PrintMore
set_option linter.unusedVariables false
set_option linter.unusedSimpArgs false
def sortI (l : List Int) : List Int := l.mergeSort fun x y => decide (x ≤ y)
theorem sortI_length (l : List Int) : (sortI l).length = l.length := List.length_mergeSort l
structure RowAt (w : World) (base g off cap : Nat) (cur : Array Value) (xs : List Int) : Prop where
 base : base ≤ g
 blk : w.heap[g]? = some (.cells cur 3 (0, 0))
 len : xs.length ≤ cap
 fits : 0 < cap → off + cap ≤ cur.size
 small : cap ≤ maxLen
 cells : ∀ j, j < xs.length → cur[off + j]? = some (.int .i64 (xs.getD j 0))
theorem RowAt.lt {w : World} {base g off cap : Nat} {cur : Array Value} {xs : List Int} (h : RowAt w base g off cap cur xs) : g < w.heap.size := blk_lt h.blk
theorem RowAt.move {w w1 : World} {base g off cap : Nat} {cur : Array Value} {xs : List Int} (h : RowAt w base g off cap cur xs) (hm : w1.heap[g]? = w.heap[g]?) : RowAt w1 base g off cap cur xs := ⟨h.base, hm.trans h.blk, h.len, h.fits, h.small, h.cells⟩
theorem RowAt.cell {w : World} {base g off cap : Nat} {cur : Array Value} {xs : List Int} (h : RowAt w base g off cap cur xs) (j : Nat) (hj : j < xs.length) : w.cell? ⟨g, off + j, none⟩ = some (.int .i64 (xs.getD j 0)) := (blk_cell h.blk _).trans (h.cells j hj)
theorem RowAt.take {w : World} {base g off cap : Nat} {cur : Array Value} {xs : List Int} (h : RowAt w base g off cap cur xs) (j : Nat) : RowAt w base g off cap cur (xs.take j) where
 base := h.base
 blk := h.blk
 len := Nat.le_trans (List.length_take_le' _ _) h.len
 fits := h.fits
 small := h.small
 cells i hi := by
  rw [List.length_take] at hi
  rw [h.cells i (by omega)]
  simp [List.getD_eq_getElem?_getD, List.getElem?_take, show i < j by omega]
theorem RowAt.reads {w : World} {base g off cap : Nat} {cur : Array Value} {xs : List Int} (h : RowAt w base g off cap cur xs) : Kd.C (Kd.int .i64) w (some ⟨g, off, none⟩) xs.length xs := by
 refine Kd.C_of_reads (enc := Value.int .i64) (d := (0 : Int)) (h1 := fun _ => rfl) ⟨rfl, Nat.le_trans h.len h.small, fun _ => ⟨_, rfl, fun j hj => ?_⟩⟩
 rw [Addr.add_lit]
 exact h.cell j (by simpa using hj)
theorem RowAt.of_own {w : World} {base : Nat} {v : Value} {xs : List Int} (h : w.ownsRow base 3 1 v xs.length (xs.map (Value.int .i64))) (hne : v ≠ .slice none 0 0) : ∃ g cap cur, v = .slice (some ⟨g, 0, none⟩) xs.length cap ∧ RowAt w base g 0 cap cur xs ∧ cap = cur.size := by
 rcases h.2 with ⟨h1, -⟩ | ⟨g, cap, cur, h1, h2, h3, h4, h5, h6, h7⟩
 ·exact absurd h1 hne
 ·refine ⟨g, cap, cur, h1, ⟨h2, h3, h4, fun _ => by omega, h5, fun j hj => ?_⟩, by omega⟩
  have e : (cur.toList.take (xs.length * 1))[j]? = some (.int .i64 xs[j]) := by rw [h7]; simp [hj]
  rw [List.getElem?_take_of_lt (by omega)] at e
  simpa [List.getD_eq_getElem?_getD, hj] using e
theorem infoInt : (Tryz.prog.info? 3).map (fun i => (i.zero, i.size, i.bytes)) = some (some (.int .i64 0), 1, 8) := by kernel_rfl
theorem RowAt.cut {w : World} {base g off cap : Nat} {cur : Array Value} {xs : List Int} (h : RowAt w base g off cap cur xs) (j : Nat) (hj : j ≤ xs.length) :
  ∃ off', (∀ W : World, (Instr.slice 24 (.slice (some ⟨g, off, none⟩) xs.length cap) (some (.int .i64 (j : Int))) none none).run Tryz.prog W = .ok (.slice (some ⟨g, off', none⟩) (xs.drop j).length (cap - j)) W) ∧ RowAt w base g off' (cap - j) cur (xs.drop j) := by
 obtain ⟨i0, hi, hz0, hz1, hz2⟩ := info_parts infoInt
 have hcut := cut_from (P := Tryz.prog) 24 3 .i64 Tryz.underlying24 hi 1 hz1 (some ⟨g, off, none⟩) xs.length cap (j : Int) (by omega) (by omega)
 rw [Int.toNat_natCast] at hcut
 have hl := h.len
 by_cases e : cap = j
 ·refine ⟨off, fun W => ?_, h.base, h.blk, by rw [List.length_drop]; omega, fun _ => by omega, by have := h.small; omega, fun i hi => by rw [List.length_drop] at hi; omega⟩
  rw [hcut W, if_pos e, List.length_drop]
 ·refine ⟨off + j, fun W => ?_, h.base, h.blk, by rw [List.length_drop]; omega, fun _ => by have := h.fits (by omega); omega, by have := h.small; omega, fun i hi => ?_⟩
  ·rw [hcut W, if_neg e, List.length_drop, Nat.mul_one, Option.map_some, Addr.add_lit]
  ·rw [List.length_drop] at hi
   rw [Nat.add_assoc, h.cells (j + i) (by omega)]
   simp [List.getD_eq_getElem?_getD]
theorem RowAt.append {ops : Array Oper} {rest : List Oper} {o : Oper} {a : Act} {Q : Exit → Act → World → Prop} {w0 W : World} {base g off cap : Nat} {cur : Array Value} {xs : List Int} (H : RowAt W base g off cap cur xs) (p : Int) (n : Nat) (hn : n = xs.length) (hgd : o.guard = none) (s x : Operand)
  (ho : o.op = .call { callee := .builtin .append, args := #[s, x], argTypes := #[24, 24] }) (hs : a.eval s = .slice (some ⟨g, off, none⟩) n cap) (hx : a.eval x = .slice (some ⟨W.heap.size, 0, none⟩) 1 1) (HB : Go.RowKit.Below base w0 W) (hl : xs.length + 1 ≤ 1099511627777)
  (h : ∀ g1 off1 cap1 cur1 w1, RowAt w1 base g1 off1 cap1 cur1 (xs ++ [p]) → Go.RowKit.Below base w0 w1 → W.grownBy w1 (some g) → (g1 = g ∨ W.heap.size ≤ g1) → (off = 0 ∧ cap = cur.size → off1 = 0 ∧ cap1 = cur1.size) → wpList Tryz.prog ops Q rest (a.put o.dst (.slice (some ⟨g1, off1, none⟩) (n + 1) cap1)) w1) :
  wpList Tryz.prog ops Q (o :: rest) a (W.alloc (.cells #[.int .i64 p] 3)) := by
 subst hn
 obtain ⟨i0, hi, hz0, hz1, hz2⟩ := info_parts infoInt
 have hlt := H.lt
 have hblk : (W.alloc (.cells #[.int .i64 p] 3)).heap[g]? = some (.cells cur 3 (0, 0)) := (Below.heap_alloc _ _ _ hlt).trans H.blk
 have hlen : (xs ++ [p]).length = xs.length + 1 := by simp
 have hsmall := H.small
 refine wpList_append_arg _ hgd s x 24 ho 3 i0 (.int .i64 0) 1 8 Tryz.underlying24 hi hz0 hz1 hz2 rfl (by decide) g off xs.length cap (xs.map (Value.int .i64)) hs (by simp) (fun j u hj => ?_) ⟨W.heap.size, 0, none⟩ 1 1 [.int .i64 p] hx rfl (cell_one_new _ _ _) (by simp [Value.oneCell']) (fun hr j hj => ?_) (by unfold maxLen; omega) (by omega) (fun hr => ?_) (fun hr v' w' hown hg => ?_)
 ·obtain ⟨hj', e⟩ := List.getElem?_eq_some_iff.1 hj
  rw [List.length_map] at hj'
  rw [blk_cell hblk, H.cells j hj', ← e]
  simp [List.getD_eq_getElem?_getD, hj']
 ·have hj' : j = 0 := by simpa using hj
  subst hj'
  have hf := H.fits (by omega)
  refine ⟨?_, blk_frozen hblk _⟩
  rw [blk_cell hblk, Array.getElem?_eq_getElem (by omega)]
  rfl
 ·have hf := H.fits (by omega)
  have hw : (W.alloc (.cells #[.int .i64 p] 3)).setCells g (off + xs.length * 1) [.int .i64 p] = (W.alloc (.cells #[.int .i64 p] 3)).setCell ⟨g, off + xs.length, none⟩ (.int .i64 p) := by
   rw [Nat.mul_one]; rfl
  rw [hw]
  refine h g off cap _ _ ⟨H.base, blk_set hblk (off + xs.length) (.int .i64 p), by omega, fun _ => by rw [Array.size_setIfInBounds]; exact hf, H.small, fun j hj => ?_⟩ ?_ ⟨rfl, rfl, rfl, by simp, fun k hk hne => ?_⟩ (Or.inl rfl) (fun h => ⟨h.1, by rw [Array.size_setIfInBounds]; exact h.2⟩)
  ·rw [hlen] at hj
   rw [Array.getElem?_setIfInBounds]
   by_cases e : j = xs.length
   ·subst e
    rw [if_pos rfl, if_pos (by omega)]
    simp [List.getD_eq_getElem?_getD]
   ·rw [if_neg (by omega), H.cells j (by omega)]
    simp [List.getD_eq_getElem?_getD, List.getElem?_append_left (show j < xs.length by omega)]
  ·exact (HB.alloc (Nat.le_of_lt (Nat.lt_of_le_of_lt H.base hlt)) _).setCell (by show base ≤ g; exact H.base) _
  ·rw [Below.heap_setCell _ _ _ _ (by intro e; exact hne (by rw [e]))]
   exact Below.heap_alloc _ _ _ hk
 ·have hne : v' ≠ .slice none 0 0 := by
   intro e
   subst e
   rcases hown.2 with ⟨-, h0⟩ | ⟨g', cap', cur', h', -⟩
   ·omega
   ·injection h' with h'; cases h'
  have hown' : w'.ownsRow (W.heap.size + 1) 3 1 v' (xs ++ [p]).length ((xs ++ [p]).map (Value.int .i64)) := by
   rw [hlen, List.map_append]
   simpa using hown
  obtain ⟨g', cap', cur', rfl, hR, hcs⟩ := RowAt.of_own hown' hne
  have hb' := HB.size
  have hbase : base ≤ W.heap.size := Nat.le_of_lt (Nat.lt_of_le_of_lt H.base hlt)
  have hR' := hR.base
  rw [hlen]
  refine h g' 0 cap' cur' w' ⟨by omega, hR.blk, hR.len, hR.fits, hR.small, hR.cells⟩ ?_ ⟨hg.os, hg.tape, hg.output, by have := hg.size; simp at this; omega, fun k hk hne' => ?_⟩ (Or.inr (by omega)) (fun _ => ⟨rfl, hcs⟩)
  ·have h1 : Go.RowKit.Below base w0 (W.alloc (.cells #[.int .i64 p] 3)) := HB.alloc hbase _
   exact ⟨hg.os.trans h1.os, hg.tape.trans h1.tape, hg.output.trans h1.output, Nat.le_trans h1.size hg.size, fun k hk => (hg.block k (by simp; omega) (by simp)).trans (h1.block k hk)⟩
  ·exact (hg.block k (by simp; omega) (by simp)).trans (Below.heap_alloc _ _ _ hk)
theorem putCells_at (d : Array Int) (cur : Array Value) (off j : Nat) (hj : j < d.size) (hc : off + j < cur.size) : (putCells (Value.int .i64) off d cur)[off + j]? = some (.int .i64 d[j]!) := by
 unfold putCells
 rw [Array.getElem?_mapIdx, Array.getElem?_eq_getElem hc, Option.map_some, if_pos ⟨by omega, by omega⟩, show off + j - off = j by omega]
theorem RowAt.sort' {w : World} {base g off cap : Nat} {cur : Array Value} {xs : List Int} (h : RowAt w base g off cap cur xs) (n : Nat) (hn : n = xs.length) (hl : xs.length ≤ 1099511627777) :
  Calls Tryz.prog 91 #[.slice (some ⟨g, off, none⟩) n cap] w fun e w' => e = .returned (.tuple #[]) ∧ (∃ cur', RowAt w' base g off cap cur' (sortI xs) ∧ cur'.size = cur.size) ∧ w.grownBy w' (some g) := by
 subst hn
 have hH : Holds (Value.int .i64) w g off xs.toArray := fun j hj => by
  have hj' : j < xs.length := by simpa using hj
  refine ⟨?_, blk_frozen h.blk _⟩
  rw [h.cell j hj']
  simp [List.getD_eq_getElem?_getD, hj']
 have hc := Any.slices_Sort_int Tryz.lays189 g off cap xs w hH h.lt (by omega)
 change Calls Tryz.prog 91 _ _ _ at hc
 refine hc.mono ?_
 rintro e w' ⟨rfl, n, os, rfl⟩
 have hsz : (sortI xs).length = xs.length := sortI_length xs
 have hs0 : (putRow (Value.int .i64) (Sort.ahead w n) g off (sortI xs).toArray).heap.size = w.heap.size := by
  show (w.heap.modify g _).size = _
  rw [Array.size_modify]
 have hb0 : (putRow (Value.int .i64) (Sort.ahead w n) g off (sortI xs).toArray).heap[g]? = some (.cells (putCells (Value.int .i64) off (sortI xs).toArray cur) 3 (0, 0)) := by
  unfold putRow mapBlock
  show (w.heap.modify g (onCells (putCells (Value.int .i64) off (sortI xs).toArray)))[g]? = _
  rw [Array.getElem?_modify, if_pos rfl, h.blk]
  rfl
 refine ⟨rfl, ⟨putCells (Value.int .i64) off (sortI xs).toArray cur, ⟨h.base, ?_, by rw [hsz]; exact h.len, fun h0 => by have := h.fits h0; simpa [putCells] using this, h.small, fun j hj => ?_⟩, by simp [putCells]⟩, rfl, rfl, rfl, by simp [grow, hs0], fun k hk hne => ?_⟩
 ·exact (heap_grow_old _ os (by have := hs0; unfold sortI at this; rw [this]; exact h.lt)).trans hb0
 ·have hj' : j < xs.length := by omega
  have hf := h.fits (by have := h.len; omega)
  have hl' := h.len
  rw [putCells_at _ _ _ _ (by simpa using hj) (by omega)]
  simp [List.getD_eq_getElem?_getD, hj]
 ·refine (heap_grow_old _ os (by have := hs0; unfold sortI at this; rw [this]; exact hk)).trans ?_
  show (w.heap.modify g _)[k]? = _
  rw [Array.getElem?_modify, if_neg (fun e => hne (by rw [e]))]
theorem RowAt.sort {w : World} {base g off cap : Nat} {cur : Array Value} {xs : List Int} (h : RowAt w base g off cap cur xs) (n : Nat) (hn : n = xs.length) (hl : xs.length ≤ 1099511627777) :
  Calls Tryz.prog 91 #[.slice (some ⟨g, off, none⟩) n cap] w fun e w' => e = .returned (.tuple #[]) ∧ (∃ cur', RowAt w' base g off cap cur' (sortI xs)) ∧ w.grownBy w' (some g) := by
 refine (h.sort' n hn hl).mono ?_
 rintro e w' ⟨h1, ⟨cur', h2, -⟩, h3⟩
 exact ⟨h1, ⟨cur', h2⟩, h3⟩
theorem sort_none (c : Nat) (a : Option Addr) (w : World) : Calls Tryz.prog 91 #[.slice a 0 c] w fun e w' => e = .returned (.tuple #[]) ∧ w' = w := by
 have hc := Any.slices_Sort_int_none Tryz.lays189 a c w
 change Calls Tryz.prog 91 _ _ _ at hc
 exact hc
set_option maxHeartbeats 8000000 in
theorem sorted_calls' (Bs : Nat) (sv : Value) (zs : List Int) (hlen : zs.length ≤ 1099511627776) (w : World) (hBs : Bs < w.heap.size) (hc : w.cell? ⟨Bs, 0, none⟩ = some sv) (hI : IntsI w.heap.size w sv zs) :
  Calls Tryz.prog 42 #[.func (.func 92) #[] #[.pointer (some ⟨Bs, 0, none⟩)]] w fun e w' => Go.RowKit.Below w.heap.size w w' ∧ ((zs = [] ∧ e = .returned (.slice none 0 0)) ∨ ∃ g cap cur, e = .returned (.slice (some ⟨g, 0, none⟩) zs.length cap) ∧ RowAt w' w.heap.size g 0 cap cur (sortI zs) ∧ cap = cur.size) := by
 have hC := collect_callsI Bs sv zs (by unfold maxLen; omega) (by omega) w hBs hc hI
 have HL := Aside0.mk hlen
 clear hc hI hlen
 by_cases h0 : zs = []
 ·have H0 := Aside0.mk h0
  have hN := fun W => sort_none 0 none W
  clear h0
  go_enter Tryz.func42, Tryz.ntmps42
  go_wp2_with (first
   | (go_at_call 90; refine hC.mono ?_; rintro e w' ⟨v, rfl, hrow, hnil, hb⟩; obtain rfl : v = .slice none 0 0 := hnil.2 H0.out; clear hnil)
   | (go_at_call 91; refine (hN _).mono ?_; rintro e w' ⟨rfl, rfl⟩))
  go_ret
  exact ⟨hb, Or.inl ⟨H0.out, rfl⟩⟩
 ·have H0 := Aside0.mk h0
  clear h0
  go_enter Tryz.func42, Tryz.ntmps42
  go_wp2_with (go_at_call 90; refine hC.mono ?_; rintro e w1 ⟨v, rfl, hrow, hnil, hb⟩; obtain ⟨g, cap, cur, rfl, hR, hz⟩ := RowAt.of_own hrow (fun h => H0.out (hnil.1 h)); have HZ := Aside0.mk hz; clear hrow hnil hz)
  have hcon := hR.sort' _ rfl (by have := HL.out; omega)
  have HR := Aside0.mk hR
  clear hR hC
  go_wp2_with (go_at_call 91; refine hcon.mono ?_; rintro e w2 ⟨rfl, ⟨cur', hR2, hz2⟩, hg2⟩; have HZ2 := Aside0.mk hz2; clear hz2)
  go_ret
  refine ⟨⟨hg2.os.trans hb.os, hg2.tape.trans hb.tape, hg2.output.trans hb.output, Nat.le_trans hb.size hg2.size, fun k hk => (hg2.block k (Nat.lt_of_lt_of_le hk hb.size) (fun e => by injection e with e; have := HR.out.base; omega)).trans (hb.block k hk)⟩, Or.inr ⟨g, cap, cur', rfl, hR2, by rw [HZ2.out]; exact HZ.out⟩⟩
end Go.Proofs.YtmanjfdchhipmaaGreatDoor.Hand
