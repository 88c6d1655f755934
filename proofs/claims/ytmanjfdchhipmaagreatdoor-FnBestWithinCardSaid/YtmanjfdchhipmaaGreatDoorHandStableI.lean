-- by wip/shake.py
import Derived.Test.YtmanjfdchhipmaaGreatDoorShelfT
import Derived.Test.YtmanjfdchhipmaaGreatDoorHandSortI
import Derived.Test.YtmanjfdchhipmaaGreatDoorVAll
import Derived.WalkKit
import Derived.KernelRfl
import Derived.WalkSpells
namespace Go.Proofs.YtmanjfdchhipmaaGreatDoor.Hand
open Go.RowKit Go.Shelf Go.Sort Go.Proofs.YtmanjfdchhipmaaGreatDoorW.PrintWords Go.Proofs.YtmanjfdchhipmaaGreatDoorW.PrintLast Go.Proofs.YtmanjfdchhipmaaGreatDoorW.PrintMore
set_option linter.unusedVariables false
set_option linter.unusedSimpArgs false
def encP {n : Nat} (i : Fin (n + 1)) : Value := .int .i64 (i.val : Int)
def cmpP {n : Nat} (l : List Int) (i j : Fin (n + 1)) : Int := wrap64 (l.getD i.val 0 - l.getD j.val 0)
def stableP {n : Nat} (l : List Int) (d : Array (Fin (n + 1))) : Array (Fin (n + 1)) := Sort.insertionSort (ltOf (cmpP l)) d 0 d.size
theorem insInner_size {α : Type} [Inhabited α] (lt : α → α → Bool) (a : Nat) : ∀ (j : Nat) (d : Array α), (insInner lt a j d).size = d.size
 | 0, d => by unfold insInner; rfl
 | j + 1, d => by
  unfold insInner
  split
  ·rw [insInner_size lt a j, swp_size]
  ·rfl
theorem insOuter_size {α : Type} [Inhabited α] (lt : α → α → Bool) (a b : Nat) : ∀ (n i : Nat) (d : Array α), b - i = n → (insOuter lt a b i d).size = d.size
 | 0, i, d, h => by rw [insOuter]; rw [if_neg (by omega)]
 | n + 1, i, d, h => by
  rw [insOuter, if_pos (by omega), insOuter_size lt a b n (i + 1) _ (by omega), insInner_size]
theorem stableP_size {n : Nat} (l : List Int) (d : Array (Fin (n + 1))) : (stableP l d).size = d.size := insOuter_size _ _ _ _ _ _ rfl
def allP (n : Nat) : Array (Fin (n + 1)) := Array.ofFn id
theorem allP_size (n : Nat) : (allP n).size = n + 1 := by simp [allP]
theorem allP_list (n : Nat) : ((allP n).toList.map fun i => (i.val : Int)) = (List.range (n + 1)).map fun (i : Nat) => (i : Int) := by
 apply List.ext_getElem
 ·simp [allP]
 ·intro j h1 h2
  simp only [allP, List.getElem_map, List.getElem_range, Array.getElem_toList, Array.getElem_ofFn, id]
theorem sw_block {α : Type} [Inhabited α] (enc : α → Value) (w : World) (blk off m : Nat) (dk : Array α) (os : Array Obj) (k : Nat) (hk : k < w.heap.size) (hne : k ≠ blk) : (sortWorld enc w blk off m dk os).heap[k]? = w.heap[k]? := by
 have hs : (putRow enc (Sort.ahead w m) blk off dk).heap.size = w.heap.size := by
  show (w.heap.modify blk _).size = _
  rw [Array.size_modify]
 refine (heap_grow_old _ os (by rw [hs]; exact hk)).trans ?_
 show (w.heap.modify blk _)[k]? = _
 rw [Array.getElem?_modify, if_neg (fun e => hne e.symm)]
theorem sw_size {α : Type} [Inhabited α] (enc : α → Value) (w : World) (blk off m : Nat) (dk : Array α) (os : Array Obj) : w.heap.size ≤ (sortWorld enc w blk off m dk os).heap.size := by
 have hs : (putRow enc (Sort.ahead w m) blk off dk).heap.size = w.heap.size := by
  show (w.heap.modify blk _).size = _
  rw [Array.size_modify]
 show _ ≤ (grow (putRow enc (Sort.ahead w m) blk off dk) os).heap.size
 rw [size_grow, hs]
 omega
theorem sw_below {α : Type} [Inhabited α] (enc : α → Value) {w0 w : World} (hb : Below w0.heap.size w0 w) (blk off m : Nat) (dk : Array α) (os : Array Obj) (hne : w0.heap.size ≤ blk) : Below w0.heap.size w0 (sortWorld enc w blk off m dk os) :=
 ⟨hb.os, hb.tape, hb.output, Nat.le_trans hb.size (sw_size enc w blk off m dk os), fun k hk => (sw_block enc w blk off m dk os k (Nat.lt_of_lt_of_le hk hb.size) (by omega)).trans (hb.block k hk)⟩
set_option maxHeartbeats 1000000 in
set_option maxRecDepth 100000 in
theorem cmpP_calls {n : Nat} (l : List Int) (hl : l.length = n + 1) (A0 : Option Addr) (c0 B : Nat) (w : World) (hc : w.cell? ⟨B, 0, none⟩ = some (.slice A0 l.length c0)) (hr : Kd.C (Kd.int .i64) w A0 l.length l) (i j : Fin (n + 1)) :
  Calls Tryz.prog 59 #[encP i, encP j, .pointer (some ⟨B, 0, none⟩)] w fun e w' => e = .returned (.int .i64 (cmpP l i j)) ∧ ∃ q, w' = w.drewN q := by
 obtain ⟨i, hi⟩ := i
 obtain ⟨j, hj⟩ := j
 unfold encP cmpP
 simp only
 have e1 : (0 : Int) ≤ (i : Int) := by omega
 have e2 : (i : Int) < (l.length : Int) := by omega
 have e3 : (0 : Int) ≤ (j : Int) := by omega
 have e4 : (j : Int) < (l.length : Int) := by omega
 obtain ⟨ad, ead, hx⟩ := Kd.at_int hr (i : Int) e1 e2
 obtain ⟨ad2, ead2, hy⟩ := Kd.at_int hr (j : Int) e3 e4
 rw [ead] at ead2
 obtain rfl := Option.some.inj ead2
 rw [Int.toNat_natCast] at hx hy
 have ex : Go.Proofs.YtmanjfdchhipmaaGreatDoorW.PrintWords.rd l (i : Int) = l.getD i 0 := by unfold Go.Proofs.YtmanjfdchhipmaaGreatDoorW.PrintWords.rd; rw [Int.toNat_natCast]
 have ey : Go.Proofs.YtmanjfdchhipmaaGreatDoorW.PrintWords.rd l (j : Int) = l.getD j 0 := by unfold Go.Proofs.YtmanjfdchhipmaaGreatDoorW.PrintWords.rd; rw [Int.toNat_natCast]
 rw [ex] at hx
 rw [ey] at hy
 generalize l.getD i 0 = x at hx
 generalize l.getD j 0 = y at hy
 subst ead
 clear hr ex ey ead2
 go_enter Tryz.func59, Tryz.ntmps59
 go_wp2
 go_quiet (fail)
 go_wp2
 go_ret
 exact ⟨rfl, _, rfl⟩
set_option maxRecDepth 100000 in
theorem ins_calls {n : Nat} (l : List Int) (hl : l.length = n + 1) (h12 : n + 1 ≤ 12) (A0 : Option Addr) (c0 B : Nat) (w0 w : World) (hb : Below w0.heap.size w0 w) (hB : B < w0.heap.size) (hc : w0.cell? ⟨B, 0, none⟩ = some (.slice A0 l.length c0)) (hr : Kd.C (Kd.int .i64) w0 A0 l.length l)
  (d : Array (Fin (n + 1))) (hd : d.size = n + 1) (g off cap : Nat) (cur : Array Value) (row : RowAt w w0.heap.size g off cap cur (d.toList.map fun i => (i.val : Int))) :
  Calls Tryz.prog 138 #[.slice (some ⟨g, off, none⟩) (n + 1) cap, .int .i64 0, .int .i64 ((n + 1 : Nat) : Int), .func (.func 59) #[] #[.pointer (some ⟨B, 0, none⟩)]] w fun e w' => e = .returned (.tuple #[]) ∧ SW encP w g off (stableP l d) w' := by
 have hcmp : CmpLays1 Tryz.prog 59 #[.pointer (some ⟨B, 0, none⟩)] (encP (n := n)) (cmpP l) g off d.size w := CmpReads.lays (fun m os dk hs x y => by
  have hbw := sw_below encP hb g off m dk os row.base
  exact cmpP_calls l hl A0 c0 B _ ((hbw.cell (p := ⟨B, 0, none⟩) hB).trans hc) (Kd.C_below hr hbw) x y)
 have hH : Holds (encP (n := n)) w g off d := fun j hj => by
  refine ⟨?_, blk_frozen row.blk _⟩
  rw [row.cell j (by simpa using hj)]
  simp [encP, List.getD_eq_getElem?_getD, hj]
 have h := Any.insertionSortCmpFunc_s Tryz.insI (encP (n := n)) (cmpP l) 59 #[.pointer (some ⟨B, 0, none⟩)] g off cap 0 d.size d d w w (enters_of Tryz.func59 (by kernel_rfl) rfl) hcmp ⟨fun _ => rfl, hH, row.lt⟩ rfl (SW.start hH) (Nat.zero_le _) (Nat.le_refl _) (by omega)
 rw [hd] at h
 change Calls Tryz.prog 138 _ _ _ at h
 unfold stableP
 rw [hd]
 exact h
theorem sw_row {n : Nat} {w w' : World} {base g off cap : Nat} {cur : Array Value} {d d' : Array (Fin (n + 1))} (hs : d'.size = d.size) (row : RowAt w base g off cap cur (d.toList.map fun i => (i.val : Int))) (h : SW encP w g off d' w') :
  (∃ cur', RowAt w' base g off cap cur' (d'.toList.map fun i => (i.val : Int))) ∧ w.grownBy w' (some g) := by
 obtain ⟨m, os, rfl⟩ := h
 have hs0 : (putRow encP (Sort.ahead w m) g off d').heap.size = w.heap.size := by
  show (w.heap.modify g _).size = _
  rw [Array.size_modify]
 have hb0 : (putRow encP (Sort.ahead w m) g off d').heap[g]? = some (.cells (putCells encP off d' cur) 3 (0, 0)) := by
  unfold putRow mapBlock
  show (w.heap.modify g (onCells (putCells encP off d')))[g]? = _
  rw [Array.getElem?_modify, if_pos rfl, row.blk]
  rfl
 refine ⟨⟨putCells encP off d' cur, row.base, ?_, by have := row.len; simp only [List.length_map, Array.length_toList] at *; omega, fun h0 => by have := row.fits h0; simpa [putCells] using this, row.small, fun j hj => ?_⟩, rfl, rfl, rfl, sw_size encP w g off m d' os, fun k hk hne => sw_block encP w g off m d' os k hk (fun e => hne (by rw [e]))⟩
 ·exact (heap_grow_old _ os (by rw [hs0]; exact row.lt)).trans hb0
 ·have hj' : j < d'.size := by simpa using hj
  have hl' := row.len
  simp only [List.length_map, Array.length_toList] at hl'
  have hf := row.fits (by omega)
  have e : (putCells encP off d' cur)[off + j]? = some (encP d'[j]!) := by
   unfold putCells
   rw [Array.getElem?_mapIdx, Array.getElem?_eq_getElem (by omega), Option.map_some, if_pos ⟨by omega, by omega⟩, show off + j - off = j by omega]
  rw [e]
  simp [encP, List.getD_eq_getElem?_getD, hj']
set_option maxHeartbeats 1000000 in
set_option maxRecDepth 100000 in
theorem stableCmp_calls {n : Nat} (m : Nat) (hm : m = n + 1) (l : List Int) (hl : l.length = n + 1) (h12 : n + 1 ≤ 12) (A0 : Option Addr) (c0 B : Nat) (w0 w : World) (hb : Below w0.heap.size w0 w) (hB : B < w0.heap.size) (hc : w0.cell? ⟨B, 0, none⟩ = some (.slice A0 l.length c0)) (hr : Kd.C (Kd.int .i64) w0 A0 l.length l)
  (d : Array (Fin (n + 1))) (hd : d.size = n + 1) (g off cap : Nat) (cur : Array Value) (row : RowAt w w0.heap.size g off cap cur (d.toList.map fun i => (i.val : Int))) :
  Calls Tryz.prog 102 #[.slice (some ⟨g, off, none⟩) m cap, .int .i64 (m : Int), .func (.func 59) #[] #[.pointer (some ⟨B, 0, none⟩)]] w fun e w' => e = .returned (.tuple #[]) ∧ SW encP w g off (stableP l d) w' := by
 have hins : Calls Tryz.prog 138 #[.slice (some ⟨g, off, none⟩) m cap, .int .i64 0, .int .i64 (m : Int), .func (.func 59) #[] #[.pointer (some ⟨B, 0, none⟩)]] w fun e w' => e = .returned (.tuple #[]) ∧ SW encP w g off (stableP l d) w' := by
  subst hm
  exact ins_calls l hl h12 A0 c0 B w0 w hb hB hc hr d hd g off cap cur row
 have e1 : decide (20 ≤ (m : Int)) = false := decide_eq_false (by omega)
 have e2 : decide (20 < (m : Int)) = false := decide_eq_false (by omega)
 have e3 : decide (20 ≤ m) = false := decide_eq_false (by omega)
 have e4 : decide (20 < m) = false := decide_eq_false (by omega)
 clear hm hb hB hc hr row hd hl h12
 go_enter Tryz.func102, Tryz.ntmps102
 go_wp2
 go_loopg [7, 8] 0 (fun kq v7 v8 w' => v7 = .int .i64 0 ∧ v8 = .int .i64 20 ∧ w' = w)
 case atStart => exact ⟨rfl, rfl, rfl⟩
 case round =>
  obtain ⟨rfl, rfl, rfl⟩ := hrel
  go_wp2_with (go_at_call 138; (with_reducible refine hins.mono ?_); rintro e w7 ⟨rfl, hsw⟩; have HSW := Aside0.mk hsw; clear hsw)
  go_loopg [6] 0 (fun kq v6 w' => v6 = .int .i64 20 ∧ Aside0 (SW encP wr g off (stableP l d) w'))
  case atStart => exact ⟨rfl, HSW⟩
  case round =>
   obtain ⟨rfl, HS⟩ := hrel
   go_wp2
   go_end0
   exact ⟨rfl, HS.out⟩
set_option maxHeartbeats 1000000 in
set_option maxRecDepth 100000 in
theorem stable_calls {n : Nat} (m : Nat) (hm : m = n + 1) (l : List Int) (hl : l.length = n + 1) (h12 : n + 1 ≤ 12) (A0 : Option Addr) (c0 B : Nat) (w0 w : World) (hb : Below w0.heap.size w0 w) (hB : B < w0.heap.size) (hc : w0.cell? ⟨B, 0, none⟩ = some (.slice A0 l.length c0)) (hr : Kd.C (Kd.int .i64) w0 A0 l.length l)
  (d : Array (Fin (n + 1))) (hd : d.size = n + 1) (g off cap : Nat) (cur : Array Value) (row : RowAt w w0.heap.size g off cap cur (d.toList.map fun i => (i.val : Int))) (hsz : (stableP l d).size = d.size) :
  Calls Tryz.prog 58 #[.slice (some ⟨g, off, none⟩) m cap, .func (.func 59) #[] #[.pointer (some ⟨B, 0, none⟩)]] w fun e w' => e = .returned (.tuple #[]) ∧ (∃ cur', RowAt w' w0.heap.size g off cap cur' ((stableP l d).toList.map fun i => (i.val : Int))) ∧ w.grownBy w' (some g) := by
 have hst := stableCmp_calls m hm l hl h12 A0 c0 B w0 w hb hB hc hr d hd g off cap cur row
 have ROW := Aside0.mk row
 have HSZ := Aside0.mk hsz
 clear hm hb hB hc hr row hd hl h12 hsz
 go_enter Tryz.func58, Tryz.ntmps58
 go_wp2_with (go_at_call 102; (with_reducible refine hst.mono ?_); rintro e w7 ⟨rfl, hsw⟩; have HSW := Aside0.mk hsw; clear hsw)
 go_end0
 exact ⟨rfl, sw_row HSZ.out ROW.out HSW.out⟩
end Go.Proofs.YtmanjfdchhipmaaGreatDoor.Hand
