-- Written by a program of this session (wip/xprint.py), which follows the kit's print; no kit file.
import Derived.Test.YtfmkhjoelcbnnaaDoorXFnExactAreLetterAlikex0
import Derived.Test.YtfmkhjoelcbnnaaDoorXFnExactAreLetterAlikex3
namespace Go.Proofs.YtfmkhjoelcbnnaaDoor.XFnExactAreLetterAlike
open Go.RowKit Go.Proofs.YtfmkhjoelcbnnaaDoor.Hand Go.Proofs.YtfmkhjoelcbnnaaDoorW.PrintWords Go.Proofs.YtfmkhjoelcbnnaaDoorW.PrintLast Go.Proofs.YtfmkhjoelcbnnaaDoorW.PrintMore
attribute [local go_sem] max2_int min2_int max_two min_two max_three min_three max_four min_four   -- for this text's walks alone
set_option linter.unusedVariables false
set_option linter.unusedSimpArgs false

-- impl_sortedCounts: function 28, by hand
-- NEEDS slices.Compare[[]int,int]
-- SKIP slices.SortFunc[[][]int,[]int]
open Go.Shelf Go.Sort
/-- how two rows compare -/
def cmpL (x y : List Int) : Int := (slices_Compare_int_int.f 4 x y).getD 0
def cmpR (rows : List (List Int)) {n : Nat} (i j : Fin (n + 1)) : Int := cmpL (rows.getD i.val []) (rows.getD j.val [])
def allP (n : Nat) : Array (Fin (n + 1)) := Array.ofFn id
theorem allP_size (n : Nat) : (allP n).size = n + 1 := by simp [allP]
def idxR (n : Nat) (rows : List (List Int)) : Array (Fin (n + 1)) := Sort.insertionSort (ltOf (cmpR rows)) (allP n) 0 (allP n).size
/-- the rows in order -/
def sortRows (rows : List (List Int)) : List (List Int) := if rows.length = 0 then [] else (idxR (rows.length - 1) rows).toList.map fun i => rows.getD i.val []
def rowsOk (rows : List (List Int)) : Bool := decide (rows.length ≤ 12) && rows.all fun x => rows.all fun y => (slices_Compare_int_int.f 4 x y).isSome
theorem insInner_size {α : Type} [Inhabited α] (lt : α → α → Bool) (a : Nat) : ∀ (j : Nat) (d : Array α), (insInner lt a j d).size = d.size
  | 0, d => by unfold insInner; rfl
  | j + 1, d => by
    unfold insInner
    split
    · rw [insInner_size lt a j, swp_size]
    · rfl
theorem insOuter_size {α : Type} [Inhabited α] (lt : α → α → Bool) (a b : Nat) : ∀ (n i : Nat) (d : Array α), b - i = n → (insOuter lt a b i d).size = d.size
  | 0, i, d, h => by rw [insOuter]; rw [if_neg (by omega)]
  | n + 1, i, d, h => by
    rw [insOuter, if_pos (by omega), insOuter_size lt a b n (i + 1) _ (by omega), insInner_size]
theorem idxR_size (n : Nat) (rows : List (List Int)) : (idxR n rows).size = n + 1 := (insOuter_size _ _ _ _ _ _ rfl).trans (allP_size n)
theorem sw_block {α : Type} [Inhabited α] (enc : α → Value) (w : World) (blk off m : Nat) (dk : Array α) (os : Array Obj) (k : Nat) (hk : k < w.heap.size) (hne : k ≠ blk) : (sortWorld enc w blk off m dk os).heap[k]? = w.heap[k]? := by
  have hs : (putRow enc (Sort.ahead w m) blk off dk).heap.size = w.heap.size := by
    show (w.heap.modify blk _).size = _
    rw [Array.size_modify]
  refine (heap_grow_old _ os (by rw [hs]; exact hk)).trans ?_
  show (w.heap.modify blk _)[k]? = _
  rw [Array.getElem?_modify, if_neg (fun e => hne e.symm)]
theorem sw_size {α : Type} [Inhabited α] (enc : α → Value) (w : World) (blk off m : Nat) (dk : Array α) (os : Array Obj) : w.heap.size ≤ (sortWorld enc w blk off m dk os).heap.size := by
  have hs : (putRow enc (Sort.ahead w m) blk off dk).heap.size = w.heap.size := by
    show (w.heap.modify blk _).size = _
    rw [Array.size_modify]
  show _ ≤ (grow (putRow enc (Sort.ahead w m) blk off dk) os).heap.size
  rw [size_grow, hs]
  omega
theorem sw_below {α : Type} [Inhabited α] (enc : α → Value) (w : World) (blk off m : Nat) (dk : Array α) (os : Array Obj) (base : Nat) (hb : base ≤ blk) (hbw : base ≤ w.heap.size) : Go.RowKit.Below base w (sortWorld enc w blk off m dk os) :=
  ⟨rfl, rfl, rfl, sw_size enc w blk off m dk os, fun k hk => sw_block enc w blk off m dk os k (by omega) (by omega)⟩
/-- a row's fact elsewhere in the sort -/
theorem row_sw {α : Type} [Inhabited α] (enc : α → Value) (w : World) (blk off m : Nat) (dk : Array α) (os : Array Obj) {base : Nat} {ok : Nat → Prop} {v : Value} {x : List Int} (h : Kd.R (Kd.int .i64) 3 w base ok v x) (hne : ∀ k, ok k → k ≠ blk) : Kd.R (Kd.int .i64) 3 (sortWorld enc w blk off m dk os) base ok v x :=
  Kd.R_mono (Kd.R_move (Kd.R_bound h) (fun k hk => sw_block enc w blk off m dk os k hk.2.2.1 (hne k hk.1))) (fun k hk => hk.1)
theorem cmpR_calls (x y : List Int) (hxy : (slices_Compare_int_int.f 4 x y).isSome = true) {base : Nat} {ok1 ok2 : Nat → Prop} {v1 v2 : Value} (W : World) (h1 : Kd.R (Kd.int .i64) 3 W base ok1 v1 x) (h2 : Kd.R (Kd.int .i64) 3 W base ok2 v2 y) :
    Calls Tryd.prog 50 #[v1, v2] W fun e w' => e = .returned (.int .i64 (cmpL x y)) ∧ ∃ q, w' = W.drewN q := by
  obtain ⟨A1, c1, rfl⟩ := Kd.R_slice h1
  obtain ⟨A2, c2, rfl⟩ := Kd.R_slice h2
  obtain ⟨c, hc⟩ := Option.isSome_iff_exists.1 hxy
  have e : cmpL x y = c := by unfold cmpL; rw [hc]; rfl
  rw [e]
  refine (slices_Compare_int_int.calls 4 A1 c1 x A2 c2 y c W (Kd.R_reads' h1).2.2 (Kd.R_reads' h1).2.1 (Kd.R_reads' h2).2.2 (Kd.R_reads' h2).2.1 hc).mono ?_
  rintro e w' ⟨rfl, ⟨nd, rfl⟩⟩
  exact ⟨rfl, nd, rfl⟩
set_option maxRecDepth 100000 in
theorem insR_calls {n : Nat} (rows : List (List Int)) (hl : rows.length = n + 1) (h12 : n + 1 ≤ 12) (hall : ∀ x ∈ rows, ∀ y ∈ rows, (slices_Compare_int_int.f 4 x y).isSome = true) (w : World) (base g cap : Nat) (cur : Array Value) (vf : Nat → Value)
    (hblk : w.heap[g]? = some (.cells cur 23 (0, 0))) (hcells : ∀ j, j < n + 1 → cur[j]? = some (vf j)) (hrow : ∀ j, j < n + 1 → ∃ ok, (∀ k, ok k → k ≠ g) ∧ Kd.R (Kd.int .i64) 3 w base ok (vf j) (rows.getD j [])) :
    Calls Tryd.prog 81 #[.slice (some ⟨g, 0, none⟩) (n + 1) cap, .int .i64 0, .int .i64 ((n + 1 : Nat) : Int), .func (.func 50) #[] #[]] w fun e w' => e = .returned (.tuple #[]) ∧ SW (fun i : Fin (n + 1) => vf i.val) w g 0 (idxR n rows) w' := by
  have hd := allP_size n
  have hmem : ∀ i : Fin (n + 1), rows.getD i.val [] ∈ rows := fun i => by
    have : i.val < rows.length := by rw [hl]; exact i.isLt
    rw [List.getD_eq_getElem?_getD, List.getElem?_eq_getElem this, Option.getD_some]
    exact List.getElem_mem this
  have hcmp : CmpLays1 Tryd.prog 50 #[] (fun i : Fin (n + 1) => vf i.val) (cmpR rows) g 0 (allP n).size w := CmpReads.lays (fun m os dk hs x y => by
    obtain ⟨ok1, hk1, hr1⟩ := hrow x.val x.isLt
    obtain ⟨ok2, hk2, hr2⟩ := hrow y.val y.isLt
    exact cmpR_calls _ _ (hall _ (hmem x) _ (hmem y)) _ (row_sw _ w g 0 m dk os hr1 hk1) (row_sw _ w g 0 m dk os hr2 hk2))
  have hH : Holds (fun i : Fin (n + 1) => vf i.val) w g 0 (allP n) := fun j hj => by
    rw [hd] at hj
    refine ⟨?_, blk_frozen hblk _⟩
    rw [Nat.zero_add]
    refine ((blk_cell hblk j).trans (hcells j hj)).trans ?_
    simp [allP, hj]
  have h := Any.insertionSortCmpFunc_s Tryd.insR (fun i : Fin (n + 1) => vf i.val) (cmpR rows) 50 #[] g 0 cap 0 (allP n).size (allP n) (allP n) w w (enters_of Tryd.func50 (by kernel_rfl) rfl) hcmp ⟨fun i => by obtain ⟨_, _, hr⟩ := hrow i.val i.isLt; exact (Kd.R_val hr).2, hH, blk_lt hblk⟩ rfl (SW.start hH) (Nat.zero_le _) (Nat.le_refl _) (by omega)
  rw [hd] at h
  change Calls Tryd.prog 81 _ _ _ at h
  unfold idxR
  rw [hd]
  exact h
set_option maxHeartbeats 2000000 in
set_option maxRecDepth 100000 in
theorem pdqR_calls {R : World → Prop} (m : Nat) (h12 : m ≤ 12) (p : Option Addr) (cap : Nat) (lim : Int) (fv : Value) (w : World)
    (hins : Calls Tryd.prog 81 #[.slice p m cap, .int .i64 0, .int .i64 (m : Int), fv] w fun e w' => e = .returned (.tuple #[]) ∧ R w') :
    Calls Tryd.prog 70 #[.slice p m cap, .int .i64 0, .int .i64 (m : Int), .int .i64 lim, fv] w fun e w' => e = .returned (.tuple #[]) ∧ R w' := by
  have e1 : decide ((m : Int) ≤ 12) = true := decide_eq_true (by omega)
  have e2 : decide (m ≤ 12) = true := decide_eq_true h12
  have e3 : decide (wrap64 (m : Int) ≤ 12) = true := decide_eq_true (by unfold wrap64; omega)
  clear h12
  go_enter Tryd.func70, Tryd.ntmps70
  go_wp2
  go_loopg [1, 2, 3, 10, 11] 0 (fun kq v1 v2 v3 v10 v11 w' => v1 = .int .i64 0 ∧ v2 = .int .i64 (m : Int) ∧ v3 = .int .i64 lim ∧ v10 = .bool true ∧ v11 = .bool true ∧ w' = w)
  case atStart => exact ⟨rfl, rfl, rfl, rfl, rfl, rfl⟩
  case round =>
    obtain ⟨rfl, rfl, rfl, rfl, rfl, rfl⟩ := hrel
    go_wp2_with (go_at_call 81; (with_reducible refine hins.mono ?_); rintro e w7 ⟨rfl, hsw⟩; have HSW := Aside0.mk hsw; clear hsw)
    (try simp only [Exit.inBlock, Exit.then])
    refine bodyPost_ret (results_none rfl _ _ _) rfl ?_
    exact ⟨rfl, HSW.out⟩
set_option maxHeartbeats 2000000 in
set_option maxRecDepth 100000 in
theorem sortFuncR_calls {R : World → Prop} (m : Nat) (h12 : m ≤ 12) (p : Option Addr) (cap : Nat) (fv : Value) (w : World)
    (hins : Calls Tryd.prog 81 #[.slice p m cap, .int .i64 0, .int .i64 (m : Int), fv] w fun e w' => e = .returned (.tuple #[]) ∧ R w') :
    Calls Tryd.prog 49 #[.slice p m cap, fv] w fun e w' => e = .returned (.tuple #[]) ∧ R w' := by
  have hp := fun lim => pdqR_calls m h12 p cap lim fv w hins
  have hl := Any.bits_Len Tryd.lays125 (m : Int) w (by omega) (by omega)
  change Calls Tryd.prog 71 _ _ _ at hl
  have e0 : IntKind.u64.wrap (m : Int) = (m : Int) := by rw [IntKind.wrap_u64]; omega
  clear h12 hins
  go_enter Tryd.func49, Tryd.ntmps49
  go_wp2_with (first
    | (go_at_call 71; (with_reducible refine hl.mono ?_); rintro e w7 ⟨rfl, rfl⟩)
    | (go_at_call 70; (with_reducible refine (hp _).mono ?_); rintro e w7 ⟨rfl, hsw⟩; have HSW := Aside0.mk hsw; clear hsw))
  go_end0
  exact ⟨rfl, HSW.out⟩
set_option maxHeartbeats 2000000 in
set_option maxRecDepth 100000 in
theorem ins0_calls (p : Option Addr) (cap : Nat) (fv : Value) (w : World) :
    Calls Tryd.prog 81 #[.slice p 0 cap, .int .i64 0, .int .i64 ((0 : Nat) : Int), fv] w fun e w' => e = .returned (.tuple #[]) ∧ w' = w := by
  go_enter Tryd.func81, Tryd.ntmps81
  go_wp2
  go_loopg [8] 0 (fun kq v8 w' => v8 = .int .i64 1 ∧ w' = w)
  case atStart => exact ⟨rfl, rfl⟩
  case round =>
    obtain ⟨rfl, rfl⟩ := hrel
    go_wp2
    go_end0
    exact ⟨rfl, rfl⟩
/-- a sorted list of rows of the call's own -/
theorem sortRows_calls (rows : List (List Int)) (hok : rowsOk rows = true) (base : Nat) (ok : Nat → Prop) (v : Value) (w : World) (HO : Kd.R (Kd.slice 3 (Kd.int .i64)) 23 w base ok v rows) (hbw : base ≤ w.heap.size) :
    Calls Tryd.prog 49 #[v, .func (.func 50) #[] #[]] w fun e w' => e = .returned (.tuple #[]) ∧ Kd.R (Kd.slice 3 (Kd.int .i64)) 23 w' base ok v (sortRows rows) ∧ Go.RowKit.Below base w w' := by
  unfold rowsOk at hok
  rw [Bool.and_eq_true, decide_eq_true_eq] at hok
  obtain ⟨h12, hok2⟩ := hok
  have hall : ∀ x ∈ rows, ∀ y ∈ rows, (slices_Compare_int_int.f 4 x y).isSome = true := fun x hx y hy => List.all_eq_true.1 (List.all_eq_true.1 hok2 x hx) y hy
  obtain ⟨A, c, rfl⟩ := Kd.R_slice HO
  by_cases h0 : rows.length = 0
  · have hnil : rows = [] := List.eq_nil_of_length_eq_zero h0
    subst hnil
    refine (sortFuncR_calls (R := fun w' => w' = w) 0 (by omega) A c _ w (ins0_calls A c _ w)).mono ?_
    rintro e w' ⟨rfl, rfl⟩
    exact ⟨rfl, HO, Go.RowKit.Below.refl _ _⟩
  · obtain ⟨n, hn⟩ : ∃ n, rows.length = n + 1 := ⟨rows.length - 1, by omega⟩
    obtain ⟨h1, inner, ⟨hil, hown⟩, hrp1, hrp2⟩ := HO
    rcases hown with ⟨-, hz⟩ | ⟨g, cap, cur, hv, hbg, hblk, hncap, hmax, hcs, htake⟩
    · exact absurd hz h0
    · obtain ⟨rfl, rfl⟩ : A = some ⟨g, 0, none⟩ ∧ cap = c := by
        injection hv with ha hb hc
        exact ⟨ha, hc.symm⟩
      have hlt : g < w.heap.size := blk_lt hblk
      have hil1 : inner.length = rows.length := by rw [← Nat.mul_one rows.length]; exact hil
      have htake1 : cur.toList.take rows.length = inner := by rw [← Nat.mul_one rows.length]; exact htake
      have hcs1 : cur.size = cap := by rw [← Nat.mul_one cap]; exact hcs
      have hin : ∀ j, j < n + 1 → inner[j]? = some (inner.getD j .nilIface) := fun j hj => by
        rw [List.getD_eq_getElem?_getD, List.getElem?_eq_getElem (show j < inner.length by omega)]; rfl
      have hcells : ∀ j, j < n + 1 → cur[j]? = some (inner.getD j .nilIface) := fun j hj => by
        have h9 := hin j hj
        generalize inner.getD j .nilIface = x at h9 ⊢
        rw [← htake1, List.getElem?_take_of_lt (by omega)] at h9
        simpa using h9
      have hrow : ∀ j, j < n + 1 → ∃ okj : Nat → Prop, (∀ k, okj k → k ≠ g) ∧ (∀ k, okj k → ok k) ∧ Kd.R (Kd.int .i64) 3 w base okj (inner.getD j .nilIface) (rows.getD j []) := fun j hj => by
        have hj2 : j < rows.length := by omega
        obtain ⟨u, hu, hr⟩ := hrp2 j rows[j] (List.getElem?_eq_getElem hj2)
        have hu1 : (inner.drop (j * 1)).take 1 = [u] := hu
        have h9 := hin j hj
        have e1 : u = inner.getD j .nilIface := by
          have h8 := congrArg (fun l => l[0]?) hu1
          rw [Nat.mul_one] at h8
          simp only [List.getElem?_take_of_lt (show 0 < 1 by omega), List.getElem?_drop, Nat.add_zero, List.getElem?_cons_zero] at h8
          rw [h9] at h8
          exact (Option.some.inj h8).symm
        rw [← e1, List.getD_eq_getElem?_getD, List.getElem?_eq_getElem hj2, Option.getD_some]
        refine ⟨fun k => ok k ∧ some k ≠ (Value.slice (some ⟨g, 0, none⟩) rows.length cap).ownBlock, fun k hk e => hk.2 (by rw [e]; rfl), fun k hk => hk.1, hr⟩
      have hins := insR_calls rows hn (by omega) hall w base g cap cur (fun j => inner.getD j .nilIface) hblk hcells (fun j hj => by
        obtain ⟨okj, a1, -, a3⟩ := hrow j hj
        exact ⟨okj, a1, a3⟩)
      have hsort := sortFuncR_calls (R := fun w' => SW (fun i : Fin (n + 1) => inner.getD i.val .nilIface) w g 0 (idxR n rows) w') (n + 1) (by omega) (some ⟨g, 0, none⟩) cap _ w hins
      rw [hn]
      refine hsort.mono ?_
      rintro e w' ⟨rfl, m, os, rfl⟩
      refine ⟨rfl, ?_, sw_below _ w g 0 m (idxR n rows) os base hbg hbw⟩
      have hidx := idxR_size n rows
      have hs0 : (putRow (fun i : Fin (n + 1) => inner.getD i.val .nilIface) (Sort.ahead w m) g 0 (idxR n rows)).heap.size = w.heap.size := by
        show (w.heap.modify g _).size = _
        rw [Array.size_modify]
      have hb0 : (sortWorld (fun i : Fin (n + 1) => inner.getD i.val .nilIface) w g 0 m (idxR n rows) os).heap[g]? = some (.cells (putCells (fun i : Fin (n + 1) => inner.getD i.val .nilIface) 0 (idxR n rows) cur) 23 (0, 0)) := by
        refine (heap_grow_old _ os (by rw [hs0]; exact hlt)).trans ?_
        unfold putRow mapBlock
        show (w.heap.modify g (onCells (putCells _ 0 (idxR n rows))))[g]? = _
        rw [Array.getElem?_modify, if_pos rfl, hblk]
        rfl
      have hsr : sortRows rows = (idxR n rows).toList.map fun i => rows.getD i.val [] := by
        unfold sortRows
        rw [if_neg h0, show rows.length - 1 = n by omega]
      have hlen : (sortRows rows).length = n + 1 := by rw [hsr, List.length_map, Array.length_toList, hidx]
      refine ⟨h1, (idxR n rows).toList.map (fun i => inner.getD i.val .nilIface), ⟨by rw [List.length_map, Array.length_toList, hidx, hlen]; exact (Nat.mul_one _).symm, .inr ⟨g, cap, _, by rw [hlen], hbg, hb0, by omega, hmax, by rw [← hcs]; simp [putCells], ?_⟩⟩, by rw [List.length_map, Array.length_toList, hidx, hlen]; exact (Nat.mul_one _).symm, fun j p hj => ?_⟩
      · rw [hlen]
        show List.take ((n + 1) * 1) _ = _
        rw [Nat.mul_one]
        apply List.ext_getElem?
        intro j
        by_cases hj : j < n + 1
        · have hj2 : j < (idxR n rows).size := by omega
          rw [List.getElem?_take_of_lt hj, List.getElem?_map, Array.getElem?_toList, Array.getElem?_toList]
          unfold putCells
          rw [Array.getElem?_mapIdx, Array.getElem?_eq_getElem (by omega), Option.map_some, if_pos ⟨by omega, by omega⟩, Array.getElem?_eq_getElem hj2, Option.map_some]
          simp [hj2]
        · rw [List.getElem?_eq_none (by rw [List.length_take]; omega), List.getElem?_eq_none (by rw [List.length_map, Array.length_toList, hidx]; omega)]
      · rw [hsr, List.getElem?_map, Array.getElem?_toList] at hj
        obtain ⟨i, hi, rfl⟩ := Option.map_eq_some_iff.1 hj
        obtain ⟨okj, a1, a2, a3⟩ := hrow i.val i.isLt
        refine ⟨inner.getD i.val .nilIface, ?_, Kd.R_mono (row_sw _ w g 0 m (idxR n rows) os a3 a1) (fun k hk => ⟨a2 k hk, fun e => a1 k hk (by simpa [Value.ownBlock] using e)⟩)⟩
        show List.take 1 (List.drop (j * 1) _) = _
        rw [Nat.mul_one]
        have hj3 : ((idxR n rows).toList.map fun i : Fin (n + 1) => inner.getD i.val .nilIface)[j]? = some (inner.getD i.val .nilIface) := by rw [List.getElem?_map, Array.getElem?_toList, hi]; rfl
        obtain ⟨hl3, he3⟩ := List.getElem?_eq_some_iff.1 hj3
        rw [List.drop_eq_getElem_cons hl3, he3]
        rfl
def impl_sortedCounts.f (k : Nat) (l0 : List ByteArray) : Option (List (List Int)) := (impl_LetterCounts.f k l0).bind fun t => if rowsOk t.1 = true then some (sortRows t.1) else none
theorem impl_sortedCounts.mono : ∀ a0 k, LeO (impl_sortedCounts.f k a0) (impl_sortedCounts.f (k + 1) a0) := fun _ _ => LeO.bind (impl_LetterCounts.mono _ _) fun _ => LeO.refl _
set_option maxHeartbeats 2000000 in
set_option maxRecDepth 100000 in
theorem impl_sortedCounts.calls (k : Nat) (A0 : Option Addr) (c0 : Nat) (l0 : List ByteArray) (r : List (List Int)) (w : World) (hr0 : Kd.C Kd.string w A0 l0.length l0) (hc0 : l0.length ≤ c0) (h : impl_sortedCounts.f k l0 = some r) :
    Calls Tryd.prog 28 #[.slice A0 l0.length c0] w fun e w' => ∃ v0_ : Value, e = .returned v0_ ∧ Kd.R (Kd.slice 3 (Kd.int .i64)) 23 w' w.heap.size (fun _ => True) v0_ r ∧ Below w.heap.size w w' := by
  unfold impl_sortedCounts.f at h
  replace h := Option.bind_eq_some_iff.mp h
  obtain ⟨⟨t1, t2⟩, A10, h⟩ := h
  split at h
  case isFalse => cases h
  rename_i hok
  obtain rfl := Option.some.inj h
  have hlc := fun W (hr : Kd.C Kd.string W A0 l0.length l0) => impl_LetterCounts.calls k A0 c0 l0 t1 t2 W hr hc0 A10
  have HLC := Aside0.mk (hlc w hr0)
  have HOK := Aside0.mk hok
  clear h A10 hok hlc hr0 hc0
  go_enter Tryd.func28, Tryd.ntmps28
  go_wp2_with (first
    | (go_at_call 48; (refine HLC.out.mono ?_); rintro e w1 ⟨v1, rfl, ho1, hb1⟩; have HO := Aside0.mk (Kd.S_R ho1); have HB := Aside0.mk hb1; clear ho1 hb1)
    | (go_at_call 49; (refine (sortRows_calls t1 HOK.out w.heap.size _ _ _ HO.out HB.out.size).mono ?_); rintro e w2 ⟨rfl, ho2, hb2⟩; have HO2 := Aside0.mk ho2; have HB2 := Aside0.mk hb2; clear ho2 hb2))
  go_ret
  exact ⟨_, rfl, HO2.out, HB.out.trans HB2.out⟩

/-! ### slices_Equal_int_int: function 29 -/
def slices_Equal_int_int.l0 : Nat → List Int → List Int → Int → Int → Option (Bool)
  | 0, _, _, _, _ => none
  | k + 1, x0, x1, x12, x13 => if x13 < x12 then (if 0 ≤ x13 then (if x13 < (x0.length : Int) then (if x13 < (x1.length : Int) then (if (rd x0 x13) = (rd x1 x13) then (slices_Equal_int_int.l0 k x0 x1 x12 (wrap64 (x13 + 1))) else (some false)) else (none)) else (none)) else (none)) else (some true)
def slices_Equal_int_int.f (k : Nat) (l0 : List Int) (l1 : List Int) : Option (Bool) := if (l0.length : Int) = (l1.length : Int) then (slices_Equal_int_int.l0 k l0 l1 (l0.length : Int) 0) else (some false)
theorem slices_Equal_int_int.mono_l : ∀ k, (∀ y0 y1 y2 y3, LeO (slices_Equal_int_int.l0 k y0 y1 y2 y3) (slices_Equal_int_int.l0 (k + 1) y0 y1 y2 y3))
  | 0 => fun _ _ _ _ r h => by simp [slices_Equal_int_int.l0] at h
  | k + 1 => by
    have ih0 := slices_Equal_int_int.mono_l k
    · intro y0 y1 y2 y3
      unfold slices_Equal_int_int.l0
      repeat' first
      | (with_reducible exact ih0 _ _ _ _)
      | (with_reducible exact LeO.refl _)
      | (with_reducible exact LeO.none _)
      | (with_reducible refine LeO.ite ?_ ?_)
      | (with_reducible refine LeO.bind ?_ (fun _ => ?_))
      | exact ih0 _ _ _ _
      | exact LeO.none _
      | refine LeO.ite ?_ ?_
      | refine LeO.bind ?_ (fun _ => ?_)
theorem slices_Equal_int_int.mono : ∀ a0 a1 k, LeO (slices_Equal_int_int.f k a0 a1) (slices_Equal_int_int.f (k + 1) a0 a1) := by
  intro a0 a1 k
  have ih0 := slices_Equal_int_int.mono_l k
  unfold slices_Equal_int_int.f
  repeat' first
      | (with_reducible exact ih0 _ _ _ _)
      | (with_reducible exact LeO.refl _)
      | (with_reducible exact LeO.none _)
      | (with_reducible refine LeO.ite ?_ ?_)
      | (with_reducible refine LeO.bind ?_ (fun _ => ?_))
      | exact ih0 _ _ _ _
      | exact LeO.none _
      | refine LeO.ite ?_ ?_
      | refine LeO.bind ?_ (fun _ => ?_)
set_option maxHeartbeats 8000000 in
set_option maxRecDepth 100000 in
theorem slices_Equal_int_int.calls (k : Nat) (A0 : Option Addr) (c0 : Nat) (l0 : List Int) (A1 : Option Addr) (c1 : Nat) (l1 : List Int) (r : Bool) (w : World) (hr0 : Kd.C (Kd.int .i64) w A0 l0.length l0) (hc0 : l0.length ≤ c0) (hr1 : Kd.C (Kd.int .i64) w A1 l1.length l1) (hc1 : l1.length ≤ c1) (h : slices_Equal_int_int.f k l0 l1 = some r) :
    Calls Tryd.prog 29 #[.slice A0 l0.length c0, .slice A1 l1.length c1] w fun e w' => e = .returned (.bool r) ∧ Drawn0 w w' := by
  have HR0 := Aside0.mk hr0
  have HC0 := Aside0.mk hc0
  clear hr0 hc0
  have HR1 := Aside0.mk hr1
  have HC1 := Aside0.mk hc1
  clear hr1 hc1
  have H : (if (l0.length : Int) = (l1.length : Int) then (slices_Equal_int_int.l0 k l0 l1 (l0.length : Int) 0) else (some false)) = some r := h
  clear h
  by_cases c3 : (l0.length : Int) = (l1.length : Int)
  · rw [if_pos c3] at H
    have c3b0 : ((l0.length : Int) == (l1.length : Int)) = true := beq_iff_eq.mpr c3
    have c3b1 : ((l0.length : Int) != (l1.length : Int)) = false := bne_eq_false_iff_eq.mpr c3
    have c3b2 : (l0.length == l1.length) = true := by first | simpa using c3 | (simp at c3 ⊢; omega)
    clear c3
    have H' := Aside0.mk H
    clear H
    go_enter Tryd.func29, Tryd.ntmps29
    go_wp2
    repeat (go_quiet (fail); try go_wp2)
    go_loopg [13] k (fun kq v13 w' => ∃ (x13_1 : Int), v13 = .int .i64 x13_1 ∧ Aside0 (slices_Equal_int_int.l0 kq l0 l1 (l0.length : Int) x13_1 = some r) ∧ Aside0 (kq ≤ k) ∧ Drawn0 w w')
    case atStart => exact ⟨(0), (by first | rfl | (simp; done) | (simp [*]; done) | (simp only [IntWalk.i64_left]; done) | (simp [IntWalk.i64_left]; done) | (simp [*, IntWalk.i64_left]; done)), H', ⟨Nat.le_refl _⟩, by repeat (first | exact Drawn0.refl _ | apply Drawn0.step)⟩
    case round =>
      clear H'
      try clear c1
      try clear c2
      try clear p2
      try clear c3
      try clear c3b0
      try clear c3b1
      try clear c3b2
      obtain ⟨x13_1, rfl, HA, HK1, ⟨m1, rfl⟩⟩ := hrel
      cases gk with
      | zero => exact absurd HA.out (by simp [slices_Equal_int_int.l0])
      | succ k1 =>
        have H := HA.out
        clear HA
        simp only [slices_Equal_int_int.l0] at H
        by_cases c4 : x13_1 < (l0.length : Int)
        · rw [if_pos c4] at H
          have c4b0 : decide (x13_1 < (l0.length : Int)) = true := decide_eq_true c4
          clear c4
          by_cases c5 : 0 ≤ x13_1
          · rw [if_pos c5] at H
            have c5b0 : decide (0 ≤ x13_1) = true := decide_eq_true c5
            clear c5
            by_cases c6 : x13_1 < (l0.length : Int)
            · rw [if_pos c6] at H
              have c6b0 : decide (x13_1 < (l0.length : Int)) = true := decide_eq_true c6
              clear c6
              by_cases c7 : x13_1 < (l1.length : Int)
              · rw [if_pos c7] at H
                have c7b0 : decide (x13_1 < (l1.length : Int)) = true := decide_eq_true c7
                clear c7
                by_cases c8 : (rd l0 x13_1) = (rd l1 x13_1)
                · rw [if_pos c8] at H
                  have c8b0 : ((rd l0 x13_1) == (rd l1 x13_1)) = true := beq_iff_eq.mpr c8
                  have c8b1 : ((rd l0 x13_1) != (rd l1 x13_1)) = false := bne_eq_false_iff_eq.mpr c8
                  clear c8
                  have H' := Aside0.mk H
                  clear H
                  have p177 : 0 ≤ (x13_1 : Int) := of_decide_eq_true (by first | (with_reducible assumption) | assumption)
                  have q177 : x13_1 < (l0.length : Int) := of_decide_eq_true (by first | (with_reducible assumption) | assumption)
                  obtain ⟨ad177, e177, hx177_0⟩ := Kd.at_int HR0.out x13_1 p177 q177
                  cases e177
                  replace p177 := eq_true p177
                  replace q177 := eq_true q177
                  have p178 : 0 ≤ (x13_1 : Int) := of_decide_eq_true (by first | (with_reducible assumption) | assumption)
                  have q178 : x13_1 < (l1.length : Int) := of_decide_eq_true (by first | (with_reducible assumption) | assumption)
                  obtain ⟨ad178, e178, hx178_0⟩ := Kd.at_int HR1.out x13_1 p178 q178
                  cases e178
                  replace p178 := eq_true p178
                  replace q178 := eq_true q178
                  go_wp2
                  repeat (go_quiet (fail); try go_wp2)
                  go_roundg k1
                  case measure => have := HK1.out; omega
                  case rel => exact ⟨(wrap64 (x13_1 + 1)), (by first | rfl | (simp; done) | (simp [*]; done) | (simp only [IntWalk.i64_left]; done) | (simp [IntWalk.i64_left]; done) | (simp [*, IntWalk.i64_left]; done)), H', ⟨by have := HK1.out; omega⟩, by repeat (first | exact Drawn0.refl _ | apply Drawn0.step)⟩
                · rw [if_neg c8] at H
                  have c8b0 : ((rd l0 x13_1) == (rd l1 x13_1)) = false := beq_eq_false_iff_ne.mpr c8
                  have c8b1 : ((rd l0 x13_1) != (rd l1 x13_1)) = true := bne_iff_ne.mpr c8
                  obtain rfl := Option.some.inj H
                  have p177 : 0 ≤ (x13_1 : Int) := of_decide_eq_true (by first | (with_reducible assumption) | assumption)
                  have q177 : x13_1 < (l0.length : Int) := of_decide_eq_true (by first | (with_reducible assumption) | assumption)
                  obtain ⟨ad177, e177, hx177_0⟩ := Kd.at_int HR0.out x13_1 p177 q177
                  cases e177
                  replace p177 := eq_true p177
                  replace q177 := eq_true q177
                  have p178 : 0 ≤ (x13_1 : Int) := of_decide_eq_true (by first | (with_reducible assumption) | assumption)
                  have q178 : x13_1 < (l1.length : Int) := of_decide_eq_true (by first | (with_reducible assumption) | assumption)
                  obtain ⟨ad178, e178, hx178_0⟩ := Kd.at_int HR1.out x13_1 p178 q178
                  cases e178
                  replace p178 := eq_true p178
                  replace q178 := eq_true q178
                  go_wp2
                  repeat (go_quiet (fail); try go_wp2)
                  go_ret
                  exact ⟨by first | rfl | (simp; done) | (simp [*]; done) | (simp only [IntWalk.i64_left]; done) | (simp [IntWalk.i64_left]; done) | (simp [*, IntWalk.i64_left]; done), by repeat (first | exact Drawn0.refl _ | apply Drawn0.step)⟩
              · rw [if_neg c7] at H
                exact absurd H (by simp)
            · rw [if_neg c6] at H
              exact absurd H (by simp)
          · rw [if_neg c5] at H
            exact absurd H (by simp)
        · rw [if_neg c4] at H
          have c4b0 : decide (x13_1 < (l0.length : Int)) = false := decide_eq_false c4
          clear c4
          obtain rfl := Option.some.inj H
          go_wp2
          repeat (go_quiet (fail); try go_wp2)
          go_ret
          exact ⟨by first | rfl | (simp; done) | (simp [*]; done) | (simp only [IntWalk.i64_left]; done) | (simp [IntWalk.i64_left]; done) | (simp [*, IntWalk.i64_left]; done), by repeat (first | exact Drawn0.refl _ | apply Drawn0.step)⟩
  · rw [if_neg c3] at H
    have c3b0 : ((l0.length : Int) == (l1.length : Int)) = false := beq_eq_false_iff_ne.mpr c3
    have c3b1 : ((l0.length : Int) != (l1.length : Int)) = true := bne_iff_ne.mpr c3
    have c3b2 : (l0.length == l1.length) = false := by first | simpa using c3 | (simp at c3 ⊢; omega)
    obtain rfl := Option.some.inj H
    go_enter Tryd.func29, Tryd.ntmps29
    go_wp2
    repeat (go_quiet (fail); try go_wp2)
    go_ret
    exact ⟨by first | rfl | (simp; done) | (simp [*]; done) | (simp only [IntWalk.i64_left]; done) | (simp [IntWalk.i64_left]; done) | (simp [*, IntWalk.i64_left]; done), by repeat (first | exact Drawn0.refl _ | apply Drawn0.step)⟩

/-! ### slices_EqualFunc_int_int_int_int__at_slices_Equal_int_int: function 27 -/
def slices_EqualFunc_int_int_int_int__at_slices_Equal_int_int.l0 : Nat → List (List Int) → List (List Int) → Int → Int → Option (Bool)
  | 0, _, _, _, _ => none
  | k + 1, x1, x15, x16, x17 => if x17 < x16 then (if 0 ≤ x17 then (if x17 < (x15.length : Int) then (if x17 < (x1.length : Int) then ((slices_Equal_int_int.f k (rd_L3 x15 x17) (rd_L3 x1 x17)).bind fun t181 => (if t181 = true then (slices_EqualFunc_int_int_int_int__at_slices_Equal_int_int.l0 k x1 x15 x16 (wrap64 (x17 + 1))) else (some false))) else (none)) else (none)) else (none)) else (some true)
def slices_EqualFunc_int_int_int_int__at_slices_Equal_int_int.f (k : Nat) (l0 : List (List Int)) (l1 : List (List Int))  : Option (Bool) := if (l0.length : Int) = (l1.length : Int) then (slices_EqualFunc_int_int_int_int__at_slices_Equal_int_int.l0 k l1 l0 (l0.length : Int) 0) else (some false)
theorem slices_EqualFunc_int_int_int_int__at_slices_Equal_int_int.mono_l : ∀ k, (∀ y0 y1 y2 y3, LeO (slices_EqualFunc_int_int_int_int__at_slices_Equal_int_int.l0 k y0 y1 y2 y3) (slices_EqualFunc_int_int_int_int__at_slices_Equal_int_int.l0 (k + 1) y0 y1 y2 y3))
  | 0 => fun _ _ _ _ r h => by simp [slices_EqualFunc_int_int_int_int__at_slices_Equal_int_int.l0] at h
  | k + 1 => by
    have ih0 := slices_EqualFunc_int_int_int_int__at_slices_Equal_int_int.mono_l k
    · intro y0 y1 y2 y3
      unfold slices_EqualFunc_int_int_int_int__at_slices_Equal_int_int.l0
      repeat' first
      | (with_reducible exact ih0 _ _ _ _)
      | (with_reducible exact slices_Equal_int_int.mono _ _ _)
      | (with_reducible exact LeO.refl _)
      | (with_reducible exact LeO.none _)
      | (with_reducible refine LeO.ite ?_ ?_)
      | (with_reducible refine LeO.bind ?_ (fun _ => ?_))
      | exact ih0 _ _ _ _
      | exact slices_Equal_int_int.mono _ _ _
      | exact LeO.none _
      | refine LeO.ite ?_ ?_
      | refine LeO.bind ?_ (fun _ => ?_)
theorem slices_EqualFunc_int_int_int_int__at_slices_Equal_int_int.mono : ∀ a0 a1 k, LeO (slices_EqualFunc_int_int_int_int__at_slices_Equal_int_int.f k a0 a1) (slices_EqualFunc_int_int_int_int__at_slices_Equal_int_int.f (k + 1) a0 a1) := by
  intro a0 a1 k
  have ih0 := slices_EqualFunc_int_int_int_int__at_slices_Equal_int_int.mono_l k
  unfold slices_EqualFunc_int_int_int_int__at_slices_Equal_int_int.f
  repeat' first
      | (with_reducible exact ih0 _ _ _ _)
      | (with_reducible exact slices_Equal_int_int.mono _ _ _)
      | (with_reducible exact LeO.refl _)
      | (with_reducible exact LeO.none _)
      | (with_reducible refine LeO.ite ?_ ?_)
      | (with_reducible refine LeO.bind ?_ (fun _ => ?_))
      | exact ih0 _ _ _ _
      | exact slices_Equal_int_int.mono _ _ _
      | exact LeO.none _
      | refine LeO.ite ?_ ?_
      | refine LeO.bind ?_ (fun _ => ?_)
set_option maxHeartbeats 8000000 in
set_option maxRecDepth 100000 in
theorem slices_EqualFunc_int_int_int_int__at_slices_Equal_int_int.calls (k : Nat) (A0 : Option Addr) (c0 : Nat) (l0 : List (List Int)) (A1 : Option Addr) (c1 : Nat) (l1 : List (List Int))  (r : Bool) (w : World) (hr0 : Kd.C (Kd.slice 3 (Kd.int .i64)) w A0 l0.length l0) (hc0 : l0.length ≤ c0) (hr1 : Kd.C (Kd.slice 3 (Kd.int .i64)) w A1 l1.length l1) (hc1 : l1.length ≤ c1) (h : slices_EqualFunc_int_int_int_int__at_slices_Equal_int_int.f k l0 l1 = some r) :
    Calls Tryd.prog 27 #[.slice A0 l0.length c0, .slice A1 l1.length c1, .func (.func 29) #[] #[]] w fun e w' => e = .returned (.bool r) ∧ Drawn0 w w' := by
  have HR0 := Aside0.mk hr0
  have HC0 := Aside0.mk hc0
  clear hr0 hc0
  have HR1 := Aside0.mk hr1
  have HC1 := Aside0.mk hc1
  clear hr1 hc1
  have H : (if (l0.length : Int) = (l1.length : Int) then (slices_EqualFunc_int_int_int_int__at_slices_Equal_int_int.l0 k l1 l0 (l0.length : Int) 0) else (some false)) = some r := h
  clear h
  by_cases c4 : (l0.length : Int) = (l1.length : Int)
  · rw [if_pos c4] at H
    have c4b0 : ((l0.length : Int) == (l1.length : Int)) = true := beq_iff_eq.mpr c4
    have c4b1 : ((l0.length : Int) != (l1.length : Int)) = false := bne_eq_false_iff_eq.mpr c4
    have c4b2 : (l0.length == l1.length) = true := by first | simpa using c4 | (simp at c4 ⊢; omega)
    clear c4
    have H' := Aside0.mk H
    clear H
    go_enter Tryd.func27, Tryd.ntmps27
    go_wp2
    go_loopg [17] k (fun kq v17 w' => ∃ (x17_1 : Int), v17 = .int .i64 x17_1 ∧ Aside0 (slices_EqualFunc_int_int_int_int__at_slices_Equal_int_int.l0 kq l1 l0 (l0.length : Int) x17_1 = some r) ∧ Aside0 (kq ≤ k) ∧ Drawn0 w w')
    case atStart => exact ⟨(0), (by first | rfl | (simp; done) | (simp [*]; done) | (simp only [IntWalk.i64_left]; done) | (simp [IntWalk.i64_left]; done) | (simp [*, IntWalk.i64_left]; done)), H', ⟨Nat.le_refl _⟩, by repeat (first | exact Drawn0.refl _ | apply Drawn0.step)⟩
    case round =>
      clear H'
      try clear c1
      try clear p2
      try clear c4
      try clear c4b0
      try clear c4b1
      try clear c4b2
      obtain ⟨x17_1, rfl, HA, HK1, ⟨m1, rfl⟩⟩ := hrel
      cases gk with
      | zero => exact absurd HA.out (by simp [slices_EqualFunc_int_int_int_int__at_slices_Equal_int_int.l0])
      | succ k1 =>
        have H := HA.out
        clear HA
        simp only [slices_EqualFunc_int_int_int_int__at_slices_Equal_int_int.l0] at H
        by_cases c5 : x17_1 < (l0.length : Int)
        · rw [if_pos c5] at H
          have c5b0 : decide (x17_1 < (l0.length : Int)) = true := decide_eq_true c5
          clear c5
          by_cases c6 : 0 ≤ x17_1
          · rw [if_pos c6] at H
            have c6b0 : decide (0 ≤ x17_1) = true := decide_eq_true c6
            clear c6
            by_cases c7 : x17_1 < (l0.length : Int)
            · rw [if_pos c7] at H
              have c7b0 : decide (x17_1 < (l0.length : Int)) = true := decide_eq_true c7
              clear c7
              by_cases c8 : x17_1 < (l1.length : Int)
              · rw [if_pos c8] at H
                have c8b0 : decide (x17_1 < (l1.length : Int)) = true := decide_eq_true c8
                clear c8
                replace H := Option.bind_eq_some_iff.mp H
                obtain ⟨t181, A90, H⟩ := H
                replace H : (if t181 = true then (slices_EqualFunc_int_int_int_int__at_slices_Equal_int_int.l0 k1 l1 l0 (l0.length : Int) (wrap64 (x17_1 + 1))) else (some false)) = some r := H
                have A9 := Aside0.mk A90
                clear A90
                by_cases c10 : t181 = true
                · subst c10
                  have H1 : (slices_EqualFunc_int_int_int_int__at_slices_Equal_int_int.l0 k1 l1 l0 (l0.length : Int) (wrap64 (x17_1 + 1))) = some r := by rw [if_pos rfl] at H; exact H
                  clear H
                  have H := H1
                  clear H1
                  have H' := Aside0.mk H
                  clear H
                  have p179 : 0 ≤ (x17_1 : Int) := of_decide_eq_true (by first | (with_reducible assumption) | assumption)
                  have q179 : x17_1 < (l0.length : Int) := of_decide_eq_true (by first | (with_reducible assumption) | assumption)
                  obtain ⟨ad179, A179_0, c179_0, e179, hx179_0, hl179_0, hi179_0⟩ := at_L3 HR0.out x17_1 p179 q179
                  cases e179
                  have HR179_0 := Aside0.mk hi179_0
                  have HC179_0 := Aside0.mk hl179_0
                  clear hi179_0 hl179_0
                  replace p179 := eq_true p179
                  replace q179 := eq_true q179
                  have p180 : 0 ≤ (x17_1 : Int) := of_decide_eq_true (by first | (with_reducible assumption) | assumption)
                  have q180 : x17_1 < (l1.length : Int) := of_decide_eq_true (by first | (with_reducible assumption) | assumption)
                  obtain ⟨ad180, A180_0, c180_0, e180, hx180_0, hl180_0, hi180_0⟩ := at_L3 HR1.out x17_1 p180 q180
                  cases e180
                  have HR180_0 := Aside0.mk hi180_0
                  have HC180_0 := Aside0.mk hl180_0
                  clear hi180_0 hl180_0
                  replace p180 := eq_true p180
                  replace q180 := eq_true q180
                  go_wp2_with (first | (go_at_call 29; (with_reducible refine (slices_Equal_int_int.calls k1 _ _ (rd_L3 l0 x17_1) _ _ (rd_L3 l1 x17_1) true _ ?side1 ?side2 ?side3 ?side4 A9.out).mono ?_); (case side1 => repeat (first | exact HR179_0.out | (with_reducible refine Kd.C_alloc ?_ _) | (with_reducible refine Kd.C_drewN ?_ _) | (with_reducible refine Kd.C_drew ?_))); (case side2 => exact HC179_0.out); (case side3 => repeat (first | exact HR180_0.out | (with_reducible refine Kd.C_alloc ?_ _) | (with_reducible refine Kd.C_drewN ?_ _) | (with_reducible refine Kd.C_drew ?_))); (case side4 => exact HC180_0.out); rintro e w' ⟨rfl, ⟨nd, rfl⟩⟩))
                  go_roundg k1
                  case measure => have := HK1.out; omega
                  case rel => exact ⟨(wrap64 (x17_1 + 1)), (by first | rfl | (simp; done) | (simp [*]; done) | (simp only [IntWalk.i64_left]; done) | (simp [IntWalk.i64_left]; done) | (simp [*, IntWalk.i64_left]; done)), H', ⟨by have := HK1.out; omega⟩, by repeat (first | exact Drawn0.refl _ | apply Drawn0.step)⟩
                · replace c10 := Bool.eq_false_iff.mpr c10
                  subst c10
                  have H1 : (some false) = some r := by rw [if_neg (show ¬ (false = true) by decide)] at H; exact H
                  clear H
                  have H := H1
                  clear H1
                  obtain rfl := Option.some.inj H
                  have p179 : 0 ≤ (x17_1 : Int) := of_decide_eq_true (by first | (with_reducible assumption) | assumption)
                  have q179 : x17_1 < (l0.length : Int) := of_decide_eq_true (by first | (with_reducible assumption) | assumption)
                  obtain ⟨ad179, A179_0, c179_0, e179, hx179_0, hl179_0, hi179_0⟩ := at_L3 HR0.out x17_1 p179 q179
                  cases e179
                  have HR179_0 := Aside0.mk hi179_0
                  have HC179_0 := Aside0.mk hl179_0
                  clear hi179_0 hl179_0
                  replace p179 := eq_true p179
                  replace q179 := eq_true q179
                  have p180 : 0 ≤ (x17_1 : Int) := of_decide_eq_true (by first | (with_reducible assumption) | assumption)
                  have q180 : x17_1 < (l1.length : Int) := of_decide_eq_true (by first | (with_reducible assumption) | assumption)
                  obtain ⟨ad180, A180_0, c180_0, e180, hx180_0, hl180_0, hi180_0⟩ := at_L3 HR1.out x17_1 p180 q180
                  cases e180
                  have HR180_0 := Aside0.mk hi180_0
                  have HC180_0 := Aside0.mk hl180_0
                  clear hi180_0 hl180_0
                  replace p180 := eq_true p180
                  replace q180 := eq_true q180
                  go_wp2_with (first | (go_at_call 29; (with_reducible refine (slices_Equal_int_int.calls k1 _ _ (rd_L3 l0 x17_1) _ _ (rd_L3 l1 x17_1) false _ ?side1 ?side2 ?side3 ?side4 A9.out).mono ?_); (case side1 => repeat (first | exact HR179_0.out | (with_reducible refine Kd.C_alloc ?_ _) | (with_reducible refine Kd.C_drewN ?_ _) | (with_reducible refine Kd.C_drew ?_))); (case side2 => exact HC179_0.out); (case side3 => repeat (first | exact HR180_0.out | (with_reducible refine Kd.C_alloc ?_ _) | (with_reducible refine Kd.C_drewN ?_ _) | (with_reducible refine Kd.C_drew ?_))); (case side4 => exact HC180_0.out); rintro e w' ⟨rfl, ⟨nd, rfl⟩⟩))
                  go_ret
                  exact ⟨by first | rfl | (simp; done) | (simp [*]; done) | (simp only [IntWalk.i64_left]; done) | (simp [IntWalk.i64_left]; done) | (simp [*, IntWalk.i64_left]; done), by repeat (first | exact Drawn0.refl _ | apply Drawn0.step)⟩
              · rw [if_neg c8] at H
                exact absurd H (by simp)
            · rw [if_neg c7] at H
              exact absurd H (by simp)
          · rw [if_neg c6] at H
            exact absurd H (by simp)
        · rw [if_neg c5] at H
          have c5b0 : decide (x17_1 < (l0.length : Int)) = false := decide_eq_false c5
          clear c5
          obtain rfl := Option.some.inj H
          go_wp2
          go_ret
          exact ⟨by first | rfl | (simp; done) | (simp [*]; done) | (simp only [IntWalk.i64_left]; done) | (simp [IntWalk.i64_left]; done) | (simp [*, IntWalk.i64_left]; done), by repeat (first | exact Drawn0.refl _ | apply Drawn0.step)⟩
  · rw [if_neg c4] at H
    have c4b0 : ((l0.length : Int) == (l1.length : Int)) = false := beq_eq_false_iff_ne.mpr c4
    have c4b1 : ((l0.length : Int) != (l1.length : Int)) = true := bne_iff_ne.mpr c4
    have c4b2 : (l0.length == l1.length) = false := by first | simpa using c4 | (simp at c4 ⊢; omega)
    obtain rfl := Option.some.inj H
    go_enter Tryd.func27, Tryd.ntmps27
    go_wp2
    go_ret
    exact ⟨by first | rfl | (simp; done) | (simp [*]; done) | (simp only [IntWalk.i64_left]; done) | (simp [IntWalk.i64_left]; done) | (simp [*, IntWalk.i64_left]; done), by repeat (first | exact Drawn0.refl _ | apply Drawn0.step)⟩

/-! ### impl_AreLetterAlike: function 14 -/
def impl_AreLetterAlike.j0 : Nat → List ByteArray → List ByteArray → Bool → Option (Bool × Bool)
  | 0, _, _, _ => none
  | k + 1, x0, x1, x13 => if x13 = true then (some (false, false)) else ((impl_sortedCounts.f k x0).bind fun t184 => ((impl_sortedCounts.f k x1).bind fun t187 => ((slices_EqualFunc_int_int_int_int__at_slices_Equal_int_int.f k t184 t187).bind fun t190 => (some (t190, true)))))
def impl_AreLetterAlike.f (k : Nat) (l0 : List ByteArray) (l1 : List ByteArray) : Option (Bool × Bool) := (impl_isSet.f k l0).bind fun t182 => (if t182 = true then ((impl_isSet.f k l1).bind fun t183 => (impl_AreLetterAlike.j0 k l0 l1 (!t183))) else (impl_AreLetterAlike.j0 k l0 l1 true))
theorem impl_AreLetterAlike.mono_l : ∀ k, (∀ y0 y1 y2, LeO (impl_AreLetterAlike.j0 k y0 y1 y2) (impl_AreLetterAlike.j0 (k + 1) y0 y1 y2))
  | 0 => fun _ _ _ r h => by simp [impl_AreLetterAlike.j0] at h
  | k + 1 => by
    have ih0 := impl_AreLetterAlike.mono_l k
    · intro y0 y1 y2
      unfold impl_AreLetterAlike.j0
      repeat' first
      | (with_reducible exact ih0 _ _ _)
      | (with_reducible exact impl_isSet.mono _ _)
      | (with_reducible exact impl_sortedCounts.mono _ _)
      | (with_reducible exact slices_EqualFunc_int_int_int_int__at_slices_Equal_int_int.mono _ _ _)
      | (with_reducible exact LeO.refl _)
      | (with_reducible exact LeO.none _)
      | (with_reducible refine LeO.ite ?_ ?_)
      | (with_reducible refine LeO.bind ?_ (fun _ => ?_))
      | exact ih0 _ _ _
      | exact impl_isSet.mono _ _
      | exact impl_sortedCounts.mono _ _
      | exact slices_EqualFunc_int_int_int_int__at_slices_Equal_int_int.mono _ _ _
      | exact LeO.none _
      | refine LeO.ite ?_ ?_
      | refine LeO.bind ?_ (fun _ => ?_)
theorem impl_AreLetterAlike.mono : ∀ a0 a1 k, LeO (impl_AreLetterAlike.f k a0 a1) (impl_AreLetterAlike.f (k + 1) a0 a1) := by
  intro a0 a1 k
  have ih0 := impl_AreLetterAlike.mono_l k
  unfold impl_AreLetterAlike.f
  repeat' first
      | (with_reducible exact ih0 _ _ _)
      | (with_reducible exact impl_isSet.mono _ _)
      | (with_reducible exact impl_sortedCounts.mono _ _)
      | (with_reducible exact slices_EqualFunc_int_int_int_int__at_slices_Equal_int_int.mono _ _ _)
      | (with_reducible exact LeO.refl _)
      | (with_reducible exact LeO.none _)
      | (with_reducible refine LeO.ite ?_ ?_)
      | (with_reducible refine LeO.bind ?_ (fun _ => ?_))
      | exact ih0 _ _ _
      | exact impl_isSet.mono _ _
      | exact impl_sortedCounts.mono _ _
      | exact slices_EqualFunc_int_int_int_int__at_slices_Equal_int_int.mono _ _ _
      | exact LeO.none _
      | refine LeO.ite ?_ ?_
      | refine LeO.bind ?_ (fun _ => ?_)
set_option maxHeartbeats 8000000 in
set_option maxRecDepth 100000 in
theorem impl_AreLetterAlike.calls (k : Nat) (A0 : Option Addr) (c0 : Nat) (l0 : List ByteArray) (A1 : Option Addr) (c1 : Nat) (l1 : List ByteArray) (r1 : Bool) (r2 : Bool) (w : World) (hr0 : Kd.C Kd.string w A0 l0.length l0) (hc0 : l0.length ≤ c0) (hr1 : Kd.C Kd.string w A1 l1.length l1) (hc1 : l1.length ≤ c1) (h : impl_AreLetterAlike.f k l0 l1 = some (r1, r2)) :
    Calls Tryd.prog 14 #[.slice A0 l0.length c0, .slice A1 l1.length c1] w fun e w' => e = .returned (.tuple #[.bool r1, .bool r2]) ∧ Below w.heap.size w w' := by
  have HR0 := Aside0.mk hr0
  have HC0 := Aside0.mk hc0
  clear hr0 hc0
  have HR1 := Aside0.mk hr1
  have HC1 := Aside0.mk hc1
  clear hr1 hc1
  have HB := Aside0.mk (Below.refl w.heap.size w)
  have H : ((impl_isSet.f k l0).bind fun t182 => (if t182 = true then ((impl_isSet.f k l1).bind fun t183 => (impl_AreLetterAlike.j0 k l0 l1 (!t183))) else (impl_AreLetterAlike.j0 k l0 l1 true))) = some (r1, r2) := h
  clear h
  have HC3 := Aside0.mk H
  clear H
  go_enter Tryd.func14, Tryd.ntmps14
  go_upto_region 1 with (fail)
  go_cut [13] (fun v13 wc => ∃ (kq : Nat) (x13_2 : Bool), v13 = .bool x13_2 ∧ Aside0 (impl_AreLetterAlike.j0 kq l0 l1 x13_2 = some (r1, r2)) ∧ Aside0 (kq ≤ k) ∧ Aside0 (Below w.heap.size w wc))
  case first =>
    have H := HC3.out
    clear HC3
    replace H := Option.bind_eq_some_iff.mp H
    obtain ⟨t182, A40, H⟩ := H
    replace H : (if t182 = true then ((impl_isSet.f k l1).bind fun t183 => (impl_AreLetterAlike.j0 k l0 l1 (!t183))) else (impl_AreLetterAlike.j0 k l0 l1 true)) = some (r1, r2) := H
    have A4 := Aside0.mk A40
    clear A40
    by_cases c5 : t182 = true
    · subst c5
      have H1 : ((impl_isSet.f k l1).bind fun t183 => (impl_AreLetterAlike.j0 k l0 l1 (!t183))) = some (r1, r2) := by rw [if_pos rfl] at H; exact H
      clear H
      have H := H1
      clear H1
      replace H := Option.bind_eq_some_iff.mp H
      obtain ⟨t183, A60, H⟩ := H
      replace H : (impl_AreLetterAlike.j0 k l0 l1 (!t183)) = some (r1, r2) := H
      have A6 := Aside0.mk A60
      clear A60
      have H' := Aside0.mk H
      clear H
      go_wp2_with (first | ((with_reducible refine gate_callee (f := 22) rfl ?_); refine goesL_ (some 7) rfl rfl Tryd.func22 (by kernel_rfl) rfl #[.slice A0 l0.length c0] rfl (by (try simp only [List.map_toArray, List.map_cons, List.map_nil]); first | done | rfl | (simp only [List.length_drop, List.length_take]; rfl)) ?_; (with_reducible refine (impl_isSet.calls k _ _ l0 true _ ?side1 ?side2 A4.out).mono ?_); (case side1 => repeat (first | exact (Kd.C_below HR0.out HB.out) | (with_reducible refine Kd.C_alloc ?_ _) | (with_reducible refine Kd.C_drewN ?_ _) | (with_reducible refine Kd.C_drew ?_))); (case side2 => exact HC0.out); rintro e w7 ⟨rfl, hb⟩; refine ⟨_, rfl, ?_⟩; have n0_ := Aside0.mk (below_step (by repeat (first | (with_reducible first | exact HB.out | apply below_alloc | apply pw_below_drewN | apply below_drew1) | exact HB.out)) hb); clear HB; have HB := n0_; clear n0_; (try clear hb); (try clear hb2); (try clear hk); (try clear hi)) | (go_at_call 22; (with_reducible refine (impl_isSet.calls k _ _ l1 t183 _ ?side1 ?side2 A6.out).mono ?_); (case side1 => repeat (first | exact (Kd.C_below HR1.out HB.out) | (with_reducible refine Kd.C_alloc ?_ _) | (with_reducible refine Kd.C_drewN ?_ _) | (with_reducible refine Kd.C_drew ?_))); (case side2 => exact HC1.out); rintro e w8 ⟨rfl, hb⟩; have n0_ := Aside0.mk (below_step (by repeat (first | (with_reducible first | exact HB.out | apply below_alloc | apply pw_below_drewN | apply below_drew1) | exact HB.out)) hb); clear HB; have HB := n0_; clear n0_; (try clear hb); (try clear hb2); (try clear hk); (try clear hi)))
      go_meet
      case rel => exact ⟨_, (!t183), (by first | rfl | (simp; done) | (simp [*]; done) | (simp only [IntWalk.i64_left]; done) | (simp [IntWalk.i64_left]; done) | (simp [*, IntWalk.i64_left]; done)), H', ⟨by first | omega | exact Nat.le_refl _⟩, ⟨by repeat (first | (with_reducible first | exact HB.out | apply below_alloc | apply pw_below_drewN | apply below_drew1) | exact HB.out)⟩⟩
    · replace c5 := Bool.eq_false_iff.mpr c5
      subst c5
      have H1 : (impl_AreLetterAlike.j0 k l0 l1 true) = some (r1, r2) := by rw [if_neg (show ¬ (false = true) by decide)] at H; exact H
      clear H
      have H := H1
      clear H1
      have H' := Aside0.mk H
      clear H
      go_wp2_with (first | ((with_reducible refine gate_callee (f := 22) rfl ?_); refine goesL_ (some 7) rfl rfl Tryd.func22 (by kernel_rfl) rfl #[.slice A0 l0.length c0] rfl (by (try simp only [List.map_toArray, List.map_cons, List.map_nil]); first | done | rfl | (simp only [List.length_drop, List.length_take]; rfl)) ?_; (with_reducible refine (impl_isSet.calls k _ _ l0 false _ ?side1 ?side2 A4.out).mono ?_); (case side1 => repeat (first | exact (Kd.C_below HR0.out HB.out) | (with_reducible refine Kd.C_alloc ?_ _) | (with_reducible refine Kd.C_drewN ?_ _) | (with_reducible refine Kd.C_drew ?_))); (case side2 => exact HC0.out); rintro e w9 ⟨rfl, hb⟩; refine ⟨_, rfl, ?_⟩; have n0_ := Aside0.mk (below_step (by repeat (first | (with_reducible first | exact HB.out | apply below_alloc | apply pw_below_drewN | apply below_drew1) | exact HB.out)) hb); clear HB; have HB := n0_; clear n0_; (try clear hb); (try clear hb2); (try clear hk); (try clear hi)))
      go_meet
      case rel => exact ⟨_, (true), (by first | rfl | (simp; done) | (simp [*]; done) | (simp only [IntWalk.i64_left]; done) | (simp [IntWalk.i64_left]; done) | (simp [*, IntWalk.i64_left]; done)), H', ⟨by first | omega | exact Nat.le_refl _⟩, ⟨by repeat (first | (with_reducible first | exact HB.out | apply below_alloc | apply pw_below_drewN | apply below_drew1) | exact HB.out)⟩⟩
  case rest =>
    clear HC3
    try clear c1
    try clear c2
    try clear p2
    try clear c5
    obtain ⟨kq, x13_2, rfl, HA, HJ2, HB⟩ := hcut
    cases kq with
    | zero => exact absurd HA.out (by simp [impl_AreLetterAlike.j0])
    | succ kj2 =>
      have H := HA.out
      clear HA
      simp only [impl_AreLetterAlike.j0] at H
      by_cases c10 : x13_2 = true
      · subst c10
        have H1 : (some (false, false)) = some (r1, r2) := by rw [if_pos rfl] at H; exact H
        clear H
        have H := H1
        clear H1
        simp only [Option.some.injEq, Prod.mk.injEq] at H
        obtain ⟨rfl, rfl⟩ := H
        go_wp2
        go_ret2
        exact ⟨by first | rfl | (simp [errW_none, errW_some] <;> rfl) | (simp [*, errW_none, errW_some] <;> rfl), by repeat (first | (with_reducible first | exact HB.out | apply below_alloc | apply pw_below_drewN | apply below_drew1) | exact HB.out)⟩
      · replace c10 := Bool.eq_false_iff.mpr c10
        subst c10
        have H1 : ((impl_sortedCounts.f kj2 l0).bind fun t184 => ((impl_sortedCounts.f kj2 l1).bind fun t187 => ((slices_EqualFunc_int_int_int_int__at_slices_Equal_int_int.f kj2 t184 t187).bind fun t190 => (some (t190, true))))) = some (r1, r2) := by rw [if_neg (show ¬ (false = true) by decide)] at H; exact H
        clear H
        have H := H1
        clear H1
        replace H := Option.bind_eq_some_iff.mp H
        obtain ⟨t184, A110, H⟩ := H
        replace H : ((impl_sortedCounts.f kj2 l1).bind fun t187 => ((slices_EqualFunc_int_int_int_int__at_slices_Equal_int_int.f kj2 t184 t187).bind fun t190 => (some (t190, true)))) = some (r1, r2) := H
        have A11 := Aside0.mk A110
        clear A110
        replace H := Option.bind_eq_some_iff.mp H
        obtain ⟨t187, A120, H⟩ := H
        replace H : ((slices_EqualFunc_int_int_int_int__at_slices_Equal_int_int.f kj2 t184 t187).bind fun t190 => (some (t190, true))) = some (r1, r2) := H
        have A12 := Aside0.mk A120
        clear A120
        replace H := Option.bind_eq_some_iff.mp H
        obtain ⟨t190, A130, H⟩ := H
        replace H : (some (t190, true)) = some (r1, r2) := H
        have A13 := Aside0.mk A130
        clear A130
        simp only [Option.some.injEq, Prod.mk.injEq] at H
        obtain ⟨rfl, rfl⟩ := H
        go_wp2_with (first | ((with_reducible refine gate_callee (f := 28) rfl ?_); refine goesL_ (some 15) rfl rfl Tryd.func28 (by kernel_rfl) rfl #[.slice A0 l0.length c0] rfl (by (try simp only [List.map_toArray, List.map_cons, List.map_nil]); first | done | rfl | (simp only [List.length_drop, List.length_take]; rfl)) ?_; (with_reducible refine (impl_sortedCounts.calls kj2 _ _ l0 t184 _ ?side1 ?side2 A11.out).mono ?_); (case side1 => repeat (first | exact (Kd.C_below HR0.out HB.out) | (with_reducible refine Kd.C_alloc ?_ _) | (with_reducible refine Kd.C_drewN ?_ _) | (with_reducible refine Kd.C_drew ?_))); (case side2 => exact HC0.out); rintro e w14 ⟨v185, rfl, ho0, hb⟩; refine ⟨_, rfl, ?_⟩; have n0_ := Aside0.mk (Kd.R_lower ho0 (below_size (by repeat (first | (with_reducible first | exact HB.out | apply below_alloc | apply pw_below_drewN | apply below_drew1) | exact HB.out)))); have n1_ := Aside0.mk (below_step (by repeat (first | (with_reducible first | exact HB.out | apply below_alloc | apply pw_below_drewN | apply below_drew1) | exact HB.out)) hb); clear HB; have HO186 := n0_; have HB := n1_; clear n0_ n1_; (try clear hb); (try clear hb2); (try clear hk); (try clear hi); (try clear ho0)) | ((with_reducible refine gate_callee (f := 28) rfl ?_); refine goesL_ (some 17) rfl rfl Tryd.func28 (by kernel_rfl) rfl #[.slice A1 l1.length c1] rfl (by (try simp only [List.map_toArray, List.map_cons, List.map_nil]); first | done | rfl | (simp only [List.length_drop, List.length_take]; rfl)) ?_; (with_reducible refine (impl_sortedCounts.calls kj2 _ _ l1 t187 _ ?side1 ?side2 A12.out).mono ?_); (case side1 => repeat (first | exact (Kd.C_below HR1.out HB.out) | (with_reducible refine Kd.C_alloc ?_ _) | (with_reducible refine Kd.C_drewN ?_ _) | (with_reducible refine Kd.C_drew ?_))); (case side2 => exact HC1.out); rintro e w15 ⟨v188, rfl, ho0, hb⟩; refine ⟨_, rfl, ?_⟩; have n0_ := Aside0.mk (Kd.R_elder' (by (with_reducible repeat (first | apply Kd.R_alloc | apply Kd.R_drewN | apply Kd.R_drew)); exact HO186.out) (Kd.R_base ho0) hb); have n1_ := Aside0.mk (Kd.R_lower (Kd.R_new' ho0 (Kd.R_lt (by (with_reducible repeat (first | apply Kd.R_alloc | apply Kd.R_drewN | apply Kd.R_drew)); exact HO186.out))) (below_size (by repeat (first | (with_reducible first | exact HB.out | apply below_alloc | apply pw_below_drewN | apply below_drew1) | exact HB.out)))); have n2_ := Aside0.mk (below_step (by repeat (first | (with_reducible first | exact HB.out | apply below_alloc | apply pw_below_drewN | apply below_drew1) | exact HB.out)) hb); clear HO186; clear HB; have HO186 := n0_; have HO189 := n1_; have HB := n2_; clear n0_ n1_ n2_; (try clear hb); (try clear hb2); (try clear hk); (try clear hi); (try clear ho0); obtain ⟨Ao16, co16, eo16⟩ := Kd.R_slice HO186.out; subst eo16; obtain ⟨Ao17, co17, eo17⟩ := Kd.R_slice HO189.out; subst eo17) | ((with_reducible refine gate_callee (f := 27) rfl ?_); refine goesL_ (some 18) rfl rfl Tryd.func27 (by kernel_rfl) rfl #[.slice Ao16 t184.length co16, .slice Ao17 t187.length co17, .func (.func 29) #[] #[]] rfl (by (try simp only [List.map_toArray, List.map_cons, List.map_nil]); first | done | rfl | (simp only [List.length_drop, List.length_take]; rfl)) ?_; (with_reducible refine (slices_EqualFunc_int_int_int_int__at_slices_Equal_int_int.calls kj2 _ _ t184 _ _ t187  t190 _ ?side1 ?side2 ?side3 ?side4 A13.out).mono ?_); (case side1 => repeat (first | exact (Kd.R_reads' HO186.out).2.2 | (with_reducible refine Kd.C_alloc ?_ _) | (with_reducible refine Kd.C_drewN ?_ _) | (with_reducible refine Kd.C_drew ?_))); (case side2 => exact (Kd.R_reads' HO186.out).2.1); (case side3 => repeat (first | exact (Kd.R_reads' HO189.out).2.2 | (with_reducible refine Kd.C_alloc ?_ _) | (with_reducible refine Kd.C_drewN ?_ _) | (with_reducible refine Kd.C_drew ?_))); (case side4 => exact (Kd.R_reads' HO189.out).2.1); rintro e w' ⟨rfl, ⟨nd, rfl⟩⟩; refine ⟨_, rfl, ?_⟩))
        go_ret2
        exact ⟨by first | rfl | (simp [errW_none, errW_some] <;> rfl) | (simp [*, errW_none, errW_some] <;> rfl), by repeat (first | (with_reducible first | exact HB.out | apply below_alloc | apply pw_below_drewN | apply below_drew1) | exact HB.out)⟩

end Go.Proofs.YtfmkhjoelcbnnaaDoor.XFnExactAreLetterAlike
