/- Proved by hand, over the kit's shelf: what ordered answers: the list in order, each word once, in a new slice. -/
import Derived.Shelf.SlSortCmp.NoneTotal
import Derived.Shelf.SlicesG.CompactS
import Derived.Test.YtpldfbkknkhlaaaDoorShelfO
import Derived.Test.YtpldfbkknkhlaaaDoorShelf
import Derived.Test.YtpldfbkknkhlaaaDoorHandOrderL
import Derived.Test.YtpldfbkknkhlaaaDoorHandCollectS
import Derived.Test.YtpldfbkknkhlaaaDoorWMore
import Derived.WalkKit
import Derived.KernelRfl
import Derived.WalkSpells
namespace Go.Proofs.YtpldfbkknkhlaaaDoor.Hand
open Go.RowKit Go.Shelf Go.Sort Go.Proofs.YtpldfbkknkhlaaaDoorW.PrintWords Go.Proofs.YtpldfbkknkhlaaaDoorW.PrintLast Go.Proofs.YtpldfbkknkhlaaaDoorW.PrintMore
set_option linter.unusedVariables false
set_option linter.unusedSimpArgs false
set_option maxHeartbeats 4000000 in
theorem isNaN_calls (x : Int) (w : World) : Calls Tryd.prog 51 #[.int .i64 x] w fun e w' => e = .returned (.bool false) ∧ w' = w := by
  go_enter Tryd.func51, Tryd.ntmps51
  go_wp2
  go_ret
  exact ⟨by simp, rfl⟩
/-- two numbers compared -/
def icmp (x y : Int) : Int := if x < y then -1 else if y < x then 1 else 0
set_option maxHeartbeats 4000000 in
theorem compareInt_calls (x y : Int) (w : World) : Calls Tryd.prog 40 #[.int .i64 x, .int .i64 y] w fun e w' => e = .returned (.int .i64 (icmp x y)) ∧ w' = w := by
  have hn := fun x w => isNaN_calls x w
  by_cases h1 : x < y
  · rw [show icmp x y = -1 by unfold icmp; rw [if_pos h1]]
    go_enter Tryd.func40, Tryd.ntmps40
    go_wp2_with (go_at_call 51; refine (hn _ _).mono ?_; rintro e w' ⟨rfl, rfl⟩)
    go_ret
    exact ⟨rfl, rfl⟩
  · by_cases h2 : y < x
    · rw [show icmp x y = 1 by unfold icmp; rw [if_neg h1, if_pos h2]]
      have h1' : ¬ x < y := h1
      go_enter Tryd.func40, Tryd.ntmps40
      go_wp2_with (go_at_call 51; refine (hn _ _).mono ?_; rintro e w' ⟨rfl, rfl⟩)
      go_ret
      exact ⟨rfl, rfl⟩
    · rw [show icmp x y = 0 by unfold icmp; rw [if_neg h1, if_neg h2]]
      go_enter Tryd.func40, Tryd.ntmps40
      go_wp2_with (go_at_call 51; refine (hn _ _).mono ?_; rintro e w' ⟨rfl, rfl⟩)
      go_ret
      exact ⟨rfl, rfl⟩
/-- the first of two numbers that is not 0 -/
def or2 (x y : Int) : Int := if x = 0 then y else x
set_option maxHeartbeats 4000000 in
theorem or2_calls (x y : Int) (b : Nat) (w : World) (h0 : w.cell? ⟨b, 0, none⟩ = some (.int .i64 x)) (h1 : w.cell? ⟨b, 1, none⟩ = some (.int .i64 y)) :
    Calls Tryd.prog 39 #[.slice (some ⟨b, 0, none⟩) 2 2] w fun e w' => e = .returned (.int .i64 (or2 x y)) ∧ w' = w := by
  go_enter Tryd.func39, Tryd.ntmps39
  go_wp2
  go_loop [5, 8] (fun _ i => ∃ k : Nat, k ≤ 2 ∧ i = .int .i64 k ∧ (1 ≤ k → x = 0) ∧ (2 ≤ k → y = 0)) (fun _ i => 2 - (intOf i).toNat)
  case atStart => exact ⟨0, by omega, rfl, by omega, by omega⟩
  case round =>
    obtain ⟨k, hk, rfl, hx, hy⟩ := hrel
    have hk' : k = 0 ∨ k = 1 ∨ k = 2 := by omega
    rcases hk' with rfl | rfl | rfl
    · clear hx hy
      by_cases hz : x = 0
      · subst hz
        go_wp2
        go_round
        case rel => exact ⟨1, by omega, rfl, by simp, by omega⟩
        case measure => simp [intOf]
      · go_wp2
        go_ret
        exact ⟨by unfold or2; simp [hz], rfl⟩
    · obtain rfl : x = 0 := hx (Nat.le_refl _)
      clear hx hy
      by_cases hz : y = 0
      · subst hz
        go_wp2
        go_round
        case rel => exact ⟨2, by omega, rfl, by simp, by simp⟩
        case measure => simp [intOf]
      · go_wp2
        go_ret
        exact ⟨by unfold or2; simp, rfl⟩
    · obtain rfl : x = 0 := hx (by omega)
      obtain rfl : y = 0 := hy (Nat.le_refl _)
      clear hx hy
      go_wp2
      go_ret
      exact ⟨by unfold or2; simp, rfl⟩
set_option maxHeartbeats 4000000 in
theorem compareWords_calls (a b : ByteArray) (w : World) : Calls Tryd.prog 24 #[.string a, .string b] w fun e w' => e = .returned (.int .i64 (wcmp a.data.toList b.data.toList)) ∧ ∃ o, w' = w.alloc o := by
  have hc := fun w => compareInt_calls (a.size : Int) (b.size : Int) w
  have hs := fun w => Any.strings_Compare Tryd.lays106 a b w
  change ∀ w, Calls Tryd.prog 41 _ _ _ at hs
  have e : wcmp a.data.toList b.data.toList = or2 (icmp (a.size : Int) (b.size : Int)) (Lib.compareBytes a.data.toList b.data.toList) := by
    have ea : a.data.toList.length = a.size := Array.length_toList
    have eb : b.data.toList.length = b.size := Array.length_toList
    unfold wcmp icmp or2
    rw [ea, eb]
    by_cases h1 : a.size < b.size
    · simp [h1, show (a.size : Int) < (b.size : Int) by omega]
    · by_cases h2 : b.size < a.size
      · simp [h1, h2, show ¬ (a.size : Int) < (b.size : Int) by omega, show (b.size : Int) < (a.size : Int) by omega]
      · simp [h1, h2, show ¬ (a.size : Int) < (b.size : Int) by omega, show ¬ (b.size : Int) < (a.size : Int) by omega]
  rw [e]
  clear e
  generalize icmp (a.size : Int) (b.size : Int) = x at hc ⊢
  generalize Lib.compareBytes a.data.toList b.data.toList = y at hs ⊢
  have ho := fun (W : World) (b : Nat) h0 h1 => or2_calls x y b W h0 h1
  go_enter Tryd.func24, Tryd.ntmps24
  go_wp2_with (first
    | (go_at_call 40; refine (hc _).mono ?_; rintro e w' ⟨rfl, rfl⟩)
    | (go_at_call 41; refine (hs _).mono ?_; rintro e w' ⟨rfl, rfl⟩)
    | (go_at_call 39; refine (ho _ _ (by go_simp) (by go_simp)).mono ?_; rintro e w' ⟨rfl, rfl⟩))
  go_ret
  exact ⟨rfl, _, rfl⟩
theorem heap_putRow {W : World} {g : Nat} {cur : Array Value} {e : TypeId} (h : W.heap[g]? = some (.cells cur e (0, 0))) (d : Array (List UInt8)) (q : Nat) : (putRow encStr (Sort.ahead W q) g 0 d).heap[g]? = some (.cells (putCells encStr 0 d cur) e (0, 0)) := by
  unfold putRow mapBlock
  show (W.heap.modify g (onCells (putCells encStr 0 d)))[g]? = _
  rw [Array.getElem?_modify, if_pos rfl, h]
  rfl
theorem take_putCells (d : Array (List UInt8)) (cur : Array Value) (m : Nat) (hm : m ≤ d.size) (hd : d.size ≤ cur.size) : (putCells encStr 0 d cur).toList.take m = (d.toList.take m).map encStr := by
  apply List.ext_getElem
  · simp [putCells]; omega
  · intro i h1 h2
    have hi : i < m := by simp at h2; omega
    simp [putCells, show i < d.size by omega]
theorem own_putRow {W : World} {base g n cap : Nat} {e : TypeId} {xs : List Value} (h : W.ownsRow base e 1 (.slice (some ⟨g, 0, none⟩) n cap) n xs) (d : Array (List UInt8)) (hd : d.size = n) (m : Nat) (hm : m ≤ n) (q : Nat) :
    (putRow encStr (Sort.ahead W q) g 0 d).ownsRow base e 1 (.slice (some ⟨g, 0, none⟩) m cap) m ((d.toList.take m).map encStr) := by
  rcases h.2 with ⟨h', _⟩ | ⟨g', cap', cur, h', hb, hh, hn, hc, hs, ht⟩
  · cases h'
  · obtain ⟨rfl, rfl⟩ : g = g' ∧ cap = cap' := by
      injection h' with h1 h2 h3
      injection h1 with h1
      injection h1 with h1
      exact ⟨h1, h3⟩
    refine ⟨by simp; omega, .inr ⟨g, cap, _, rfl, hb, heap_putRow hh d q, by omega, hc, by simp [putCells]; omega, ?_⟩⟩
    rw [Nat.mul_one]
    exact take_putCells d cur m (by omega) (by omega)
theorem own_some {W : World} {base n : Nat} {e : TypeId} {v : Value} {xs : List Value} (h : W.ownsRow base e 1 v n xs) (hne : v ≠ .slice none 0 0) : ∃ g cap, v = .slice (some ⟨g, 0, none⟩) n cap ∧ base ≤ g ∧ g < W.heap.size ∧ n ≤ cap := by
  rcases h.2 with ⟨h1, -⟩ | ⟨g, cap, cur, h1, h2, h3, h4, -⟩
  · exact absurd h1 hne
  · exact ⟨g, cap, h1, h2, (Array.getElem?_eq_some_iff.1 h3).1, h4⟩
theorem own_holds {W : World} {base g n cap : Nat} {e : TypeId} {zs : List (List UInt8)} (h : W.ownsRow base e 1 (.slice (some ⟨g, 0, none⟩) n cap) n (zs.map encStr)) : Holds encStr W g 0 zs.toArray := by
  rcases h.2 with ⟨h', _⟩ | ⟨g', cap', cur, h', hb, hh, hn, hc, hs, ht⟩
  · cases h'
  · obtain ⟨rfl, rfl⟩ : g = g' ∧ cap = cap' := by
      injection h' with h1 h2 h3
      injection h1 with h1
      injection h1 with h1
      exact ⟨h1, h3⟩
    have hl : zs.length = n := by have := h.1; simpa using this
    intro j hj
    have hj' : j < zs.length := by simpa using hj
    refine ⟨?_, by simp [World.frozen?, hh]⟩
    rw [blk_cell hh]
    have h1 : (cur.toList.take (n * 1))[0 + j]? = some (encStr zs[j]) := by rw [ht]; simp [hj']
    rw [List.getElem?_take_of_lt (by omega)] at h1
    simpa [hj'] using h1
theorem below_putRow {B : Nat} {w W : World} (h : Go.RowKit.Below B w W) {g : Nat} (hg : B ≤ g) (d : Array (List UInt8)) (q : Nat) : Go.RowKit.Below B w (putRow encStr (Sort.ahead W q) g 0 d) := by
  refine ⟨h.os, h.tape, h.output, ?_, fun k hk => ?_⟩
  · show w.heap.size ≤ (W.heap.modify g _).size
    rw [Array.size_modify]; exact h.size
  · show (W.heap.modify g _)[k]? = _
    rw [Array.getElem?_modify, if_neg (by omega)]
    exact h.block k hk
theorem below_grow {B : Nat} {w W : World} (h : Go.RowKit.Below B w W) (hB : B ≤ W.heap.size) (os : Array Obj) : Go.RowKit.Below B w (grow W os) :=
  ⟨h.os, h.tape, h.output, by have := h.size; simp [grow]; omega, fun k hk => (heap_grow_old W os (by omega)).trans (h.block k hk)⟩
theorem own_grow {W : World} {base n : Nat} {e : TypeId} {v : Value} {xs : List Value} (h : W.ownsRow base e 1 v n xs) (os : Array Obj) : (grow W os).ownsRow base e 1 v n xs := by
  refine ⟨h.1, ?_⟩
  rcases h.2 with h' | ⟨g, cap, cur, rfl, hb, hh, r⟩
  · exact .inl h'
  · exact .inr ⟨g, cap, cur, rfl, hb, (heap_grow_old W os (Array.getElem?_eq_some_iff.1 hh).1).trans hh, r⟩
theorem size_putRow (W : World) (g : Nat) (d : Array (List UInt8)) (q : Nat) : (putRow encStr (Sort.ahead W q) g 0 d).heap.size = W.heap.size := by
  show (W.heap.modify g _).size = _
  rw [Array.size_modify]
theorem sortFunc_any (g cap : Nat) (zs : List (List UInt8)) (w : World) (hH : Holds encStr w g 0 zs.toArray) (hg : g < w.heap.size) (hz : zs.length ≤ 8796093021952) :
    Calls Tryd.prog 58 #[.slice (some ⟨g, 0, none⟩) zs.length cap, .func (.func 24) #[] #[]] w fun e w' => e = .returned (.tuple #[]) ∧ ∃ n os, w' = sortWorld encStr w g 0 n (sortW zs).toArray os := by
  have hcmp : CmpLays1 Tryd.prog 24 #[] encStr wcmp g 0 zs.toArray.size w := fun m os dk hs x y => by
    refine (compareWords_calls ⟨x.toArray⟩ ⟨y.toArray⟩ (sortWorld encStr w g 0 m dk os)).mono fun e w' ⟨he, o, hw⟩ => ⟨by simpa using he, 0, #[o], ?_⟩
    rw [hw, alloc_eq_grow]; rfl
  have hc := Any.slices_SortFunc_total Tryd.sortF encStr (fun _ => rfl) wcmp wcmp_swo 24 #[] g 0 cap zs.toArray w (enters_of Tryd.func24 (by kernel_rfl) rfl) hcmp hH hg (by simp; omega) wcmp_total
  change Calls Tryd.prog 58 _ _ _ at hc
  simpa [sortW] using hc
/-- a slice that a call made, or none, sorted -/
def SortedAt (w : World) (zs : List (List UInt8)) (e : Ending) (w' : World) : Prop := ∃ v, e = .returned v ∧ w'.ownsRow w.heap.size 9 1 v zs.length ((sortW zs).map encStr) ∧ (v = .slice none 0 0 ↔ zs = []) ∧ Go.RowKit.Below w.heap.size w w'
set_option maxHeartbeats 8000000 in
theorem sortedFunc_calls (Bs : Nat) (sv : Value) (zs : List ByteArray) (hlen : zs.length ≤ 8796093021952) (w : World) (hBs : Bs < w.heap.size) (hc : w.cell? ⟨Bs, 0, none⟩ = some sv) (hI : Strs w.heap.size w sv zs) :
    Calls Tryd.prog 47 #[.func (.func 59) #[] #[.pointer (some ⟨Bs, 0, none⟩)], .func (.func 24) #[] #[]] w (SortedAt w (zs.map fun s => s.data.toList)) := by
  have hC := collect_calls Bs sv zs (by unfold maxLen; omega) (by omega) w hBs hc hI
  have hS := fun (g cap : Nat) (W : World) hH hg => sortFunc_any g cap (zs.map fun s => s.data.toList) W hH hg (by simpa using hlen)
  rw [List.length_map] at hS
  have henc : zs.map Value.string = (zs.map fun s => s.data.toList).map encStr := by rw [List.map_map]; rfl
  have HE := Aside0.mk henc
  clear hc hI henc
  by_cases h0 : zs = []
  · have H0 := Aside0.mk h0
    have hN := fun W => AnyF.slices_SortFunc_none (P := Tryd.prog) (ρ := Tryd.sortF_ren) { Tryd.sortF with } none 0 (.func (.func 24) #[] #[]) W
    change ∀ W, Calls Tryd.prog 58 _ _ _ at hN
    clear h0 hS
    go_enter Tryd.func47, Tryd.ntmps47
    go_wp2_with (first
      | (go_at_call 57; refine hC.mono ?_; rintro e w' ⟨v, rfl, hrow, hnil, hb⟩; obtain rfl : v = .slice none 0 0 := hnil.2 H0.out; clear hnil)
      | (go_at_call 58; refine (hN _).mono ?_; rintro e w' ⟨rfl, rfl⟩))
    go_ret
    refine ⟨_, rfl, ?_, by simp [H0.out], hb⟩
    rw [H0.out]
    exact ⟨by simp [sortW], .inl ⟨rfl, rfl⟩⟩
  · have H0 := Aside0.mk h0
    clear h0
    go_enter Tryd.func47, Tryd.ntmps47
    go_wp2_with (go_at_call 57; refine hC.mono ?_; rintro e w1 ⟨v, rfl, hrow, hnil, hb⟩; obtain ⟨g, cap, rfl, hgb, hlt, hcap⟩ := own_some hrow (fun h => H0.out (hnil.1 h)))
    have hcon := hS g cap w1 (own_holds (n := zs.length) (cap := cap) (base := w.heap.size) (e := 9) (by rw [← HE.out]; exact hrow)) hlt
    have HR := Aside0.mk hrow
    clear hrow hnil hS hC
    go_wp2_with (go_at_call 58; refine hcon.mono ?_; rintro e w' ⟨rfl, n, os, rfl⟩)
    go_ret
    refine ⟨_, rfl, ?_, by simp [H0.out], ?_⟩
    · have h1 := own_putRow HR.out (sortW (zs.map fun s => s.data.toList)).toArray (by simp [(sortW_perm _).length_eq]) zs.length (Nat.le_refl _) n
      have h2 := own_grow h1 os
      rw [List.take_of_length_le (by simp [(sortW_perm _).length_eq])] at h2
      simpa [sortWorld] using h2
    · exact below_grow (below_putRow hb hgb _ n) (by rw [size_putRow]; exact hb.size) os
set_option maxHeartbeats 8000000 in
theorem impl_ordered.calls (A0 : Option Addr) (c0 : Nat) (l0 : List ByteArray) (r : List ByteArray) (w : World) (hr0 : Kd.C Kd.string w A0 l0.length l0) (hc0 : l0.length ≤ c0) (h : impl_ordered.f l0 = some r) :
    Calls Tryd.prog 30 #[.slice A0 l0.length c0] w fun e w' => ∃ v0_, e = .returned v0_ ∧ Kd.R Kd.string 9 w' w.heap.size (fun _ => True) v0_ r ∧ Go.RowKit.Below w.heap.size w w' := by
  unfold impl_ordered.f at h
  split at h
  · rename_i hlen
    have hr := (Option.some.inj h).symm
    clear h
    obtain ⟨zs, hzs⟩ : ∃ zs, zs = l0.map fun s => s.data.toList := ⟨_, rfl⟩
    have hzl : zs.length = l0.length := by rw [hzs]; simp
    rw [← hzs] at hr
    have hsl : (sortW zs).length = zs.length := (sortW_perm zs).length_eq
    have hI : Strs w.heap.size w (.slice A0 l0.length c0) l0 := by
      by_cases h0 : l0.length = 0
      · exact .inl ⟨A0, c0, by rw [h0], List.eq_nil_of_length_eq_zero h0⟩
      · obtain ⟨-, -, hc⟩ := Kd.reads_of_C (d := ByteArray.empty) hr0
        obtain ⟨⟨b, off, spot⟩, rfl, hcell⟩ := hc (by omega)
        have hz := hcell 0 (by omega)
        have hb : b < w.heap.size := by
          rcases Nat.lt_or_ge b w.heap.size with h' | h'
          · exact h'
          · simp [Addr.add, World.cell?, Array.getElem?_eq_none h'] at hz
        have hsp : spot = none := by
          cases spot with
          | none => rfl
          | some x =>
            simp only [Addr.add, World.cell?, if_true, Option.isSome_some] at hz
            split at hz <;> cases hz
        subst hsp
        refine .inr ⟨b, off, c0, rfl, hb, fun j hj => ?_⟩
        have hj' := hcell j hj
        by_cases e : j = 0
        · subst e; simpa [Addr.add, List.getD_eq_getElem?_getD] using hj'
        · simpa [Addr.add, e, List.getD_eq_getElem?_getD] using hj'
    have hV := values_calls A0 l0.length c0 w
    have hb1 : Go.RowKit.Below w.heap.size w (w.alloc (.cells #[.slice A0 l0.length c0] 22)) := (Below.refl _ w).alloc (Nat.le_refl _) _
    have hS := sortedFunc_calls w.heap.size (.slice A0 l0.length c0) l0 hlen (w.alloc (.cells #[.slice A0 l0.length c0] 22)) (by simp) (by go_simp) ((hI.below hb1).imp id (by
      rintro ⟨b, off, cap, e, hb, hc⟩; exact ⟨b, off, cap, e, by simp; omega, hc⟩))
    rw [← hzs] at hS
    have HZ := Aside0.mk hzs
    have HL := Aside0.mk hzl
    have HSL := Aside0.mk hsl
    have HR := Aside0.mk hr
    clear hzs hzl hsl hr hI hr0
    go_enter Tryd.func30, Tryd.ntmps30
    go_wp2_with (first
      | (go_at_call 48; refine hV.mono ?_; rintro e w' ⟨rfl, rfl⟩)
      | (go_at_call 47; refine hS.mono ?_; rintro e w2 ⟨v, rfl, hrow, hnil, hb2⟩))
    by_cases h0 : zs = []
    · obtain rfl : v = .slice none 0 0 := hnil.2 h0
      have hK := fun W => AnyG.slices_Compact_string_empty Tryd.compactS none 0 W
      change ∀ W, Calls Tryd.prog 49 _ _ _ at hK
      have H0 := Aside0.mk h0
      clear h0 hnil hrow hV hS
      go_wp2_with (go_at_call 49; refine (hK _).mono ?_; rintro e w' ⟨rfl, rfl⟩)
      go_ret
      refine ⟨_, rfl, ?_, ?_⟩
      · rw [HR.out, H0.out, show List.map (fun x : List UInt8 => (⟨x.toArray⟩ : ByteArray)) (ordL []) = [] from by simp [ordL, sortW, Lib.compact, Lib.compactUpTo]]
        exact Kd.R_nil Kd.string _ _ _ _
      · exact hb1.trans (hb2.mono (by simp))
    · obtain ⟨g, cap, rfl, hgb, hcap⟩ : ∃ g cap, v = .slice (some ⟨g, 0, none⟩) zs.length cap ∧ w.heap.size ≤ g ∧ zs.length ≤ cap := by
        rcases hrow.2 with ⟨h1, -⟩ | ⟨g, cap, cur, h1, h2, h3, h4, -⟩
        · exact absurd (hnil.1 h1) h0
        · exact ⟨g, cap, h1, (by have : w.heap.size + 1 ≤ g := (by simpa using h2); omega), h4⟩
      have hK := AnyG.slices_Compact_string Tryd.compactS g 0 cap (sortW zs) w2 (own_holds (n := zs.length) hrow) (by rw [HSL.out, HL.out]; omega) (by rw [HSL.out]; exact hcap)
      rw [HSL.out] at hK
      change Calls Tryd.prog 49 _ _ _ at hK
      have HROW := Aside0.mk hrow
      have H0 := Aside0.mk h0
      clear h0 hnil hrow hV hS
      go_wp2_with (go_at_call 49; refine hK.mono ?_; rintro e w' ⟨rfl, q, rfl⟩)
      go_ret
      have hle : (Lib.compact (sortW zs)).length ≤ zs.length := by
        rw [← HSL.out]
        unfold Lib.compact Lib.compactUpTo
        rw [List.length_map]
        exact Nat.le_trans (List.length_filter_le _ _) (by simp)
      refine ⟨_, rfl, ?_, ?_⟩
      · have h1 := own_putRow HROW.out (Lib.compact (sortW zs) ++ List.replicate (zs.length - (Lib.compact (sortW zs)).length) []).toArray (by simp; omega) (Lib.compact (sortW zs)).length hle q
        have ht : (Lib.compact (sortW zs) ++ List.replicate (zs.length - (Lib.compact (sortW zs)).length) []).toArray.toList.take (Lib.compact (sortW zs)).length = Lib.compact (sortW zs) := by simp
        rw [ht] at h1
        have h2 : r.length = (Lib.compact (sortW zs)).length := by rw [HR.out]; simp [ordL]
        refine Kd.R_of_own ?_ (fun _ _ => trivial)
        rw [h2]
        have h3 : encs Value.string r = (Lib.compact (sortW zs)).map encStr := by rw [HR.out]; simp [encs, ordL, encStr, Function.comp_def]
        rw [h3]
        exact own_less h1 (by simp)
      · exact below_putRow (hb1.trans (hb2.mono (by simp))) hgb _ q
  · cases h
end Go.Proofs.YtpldfbkknkhlaaaDoor.Hand
