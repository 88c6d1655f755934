/- Proved by hand, over the kit's shelf: what beginnings answers: for each place of a word whether what stands behind it is a beginning. -/
import Derived.Test.YtaglbacldonflaaDoorShelfB
import Derived.Test.YtaglbacldonflaaDoorWMore
import Derived.WalkKit
import Derived.KernelRfl
import Derived.WalkSpells
import Derived.Deep.RegionWith
namespace Go.Proofs.YtaglbacldonflaaDoor.Hand
open Go.RowKit Go.Shelf Go.Lib Go.Proofs.YtaglbacldonflaaDoorW.PrintWords Go.Proofs.YtaglbacldonflaaDoorW.PrintLast Go.Proofs.YtaglbacldonflaaDoorW.PrintMore
set_option linter.unusedVariables false
set_option linter.unusedSimpArgs false
/-- whether a word goes on behind a place, and what stands behind it too -/
def begStep (s : ByteArray) (k : Nat) (tab : List Bool) (x : ByteArray) : Bool := (s.data.toList.drop k).isPrefixOf x.data.toList || (x.data.toList.isPrefixOf (s.data.toList.drop k) && tab.getD (k + x.size) false)
theorem sub_drop (s : ByteArray) (k : Nat) : (s.extract k s.size).data.toList = s.data.toList.drop k := by
  rw [ByteArray.data_extract, Array.toList_extract, List.extract_eq_take_drop, List.take_of_length_le]
  rw [List.length_drop, Array.length_toList]; exact Nat.le_refl _
set_option maxHeartbeats 8000000 in
set_option maxRecDepth 100000 in
theorem beg_clo (w : World) (Bs Bk Bo Br : Nat) (s : ByteArray) (k : Nat) (tab : List Bool) (c : Nat)
    (ls : Bs < w.heap.size) (lk : Bk < w.heap.size) (lo : Bo < w.heap.size) (lr : Br < w.heap.size)
    (hs : w.cell? ⟨Bs, 0, none⟩ = some (.string s)) (hk : w.cell? ⟨Bk, 0, none⟩ = some (.int .i64 (k : Int))) (ho : w.cell? ⟨Bo, 0, none⟩ = some (.slice (some ⟨Br, 0, none⟩) tab.length c))
    (hr : ∀ j, j < tab.length → w.cell? ⟨Br, j, none⟩ = some (.bool (tab.getD j false))) (hk1 : k ≤ s.size) (ht : tab.length = s.size + 1) (hsz : s.size ≤ 1048576) :
    PredAt Tryd.prog 94 #[.pointer (some ⟨Bs, 0, none⟩), .pointer (some ⟨Bk, 0, none⟩), .pointer (some ⟨Bo, 0, none⟩)] Value.string (begStep s k tab) w := fun W x hb => by
  have hs' : W.cell? ⟨Bs, 0, none⟩ = some (.string s) := (hb.cell (p := ⟨Bs, 0, none⟩) ls).trans hs
  have hk' : W.cell? ⟨Bk, 0, none⟩ = some (.int .i64 (k : Int)) := (hb.cell (p := ⟨Bk, 0, none⟩) lk).trans hk
  have ho' : W.cell? ⟨Bo, 0, none⟩ = some (.slice (some ⟨Br, 0, none⟩) tab.length c) := (hb.cell (p := ⟨Bo, 0, none⟩) lo).trans ho
  have hc1 := fun W => Any.strings_HasPrefix Tryd.lays99 x (s.extract k s.size) W
  have hc2 := fun W => Any.strings_HasPrefix Tryd.lays99 (s.extract k s.size) x W
  change ∀ W, Calls Tryd.prog 56 _ _ _ at hc1 hc2
  rw [sub_drop] at hc1 hc2
  have hkk : (0 : Int) ≤ (k : Int) := by omega
  have hkk2 : (k : Int) ≤ (s.size : Int) := by omega
  unfold FnGives begStep
  change ∀ W, Calls _ _ _ W fun e w' => e = .returned (.bool (List.isPrefixOf _ _)) ∧ w' = W at hc1 hc2
  cases h1 : (s.data.toList.drop k).isPrefixOf x.data.toList
  · cases h2 : x.data.toList.isPrefixOf (s.data.toList.drop k)
    · rw [h1] at hc1; rw [h2] at hc2
      go_enter Tryd.func94, Tryd.ntmps94
      go_wp2_with (go_at_call 56; first | (refine (hc1 _).mono ?_; rintro e w' ⟨rfl, rfl⟩) | (refine (hc2 _).mono ?_; rintro e w' ⟨rfl, rfl⟩))
      go_ret
      exact ⟨rfl, 0, rfl⟩
    · rw [h1] at hc1; rw [h2] at hc2
      have hle := (List.isPrefixOf_iff_prefix.1 h2).length_le
      rw [List.length_drop, Array.length_toList, Array.length_toList] at hle
      have hle' : k + x.size ≤ s.size := by have e1 : x.size = x.data.size := rfl; have e2 : s.size = s.data.size := rfl; omega
      have hcell : W.cell? ⟨Br, k + x.size, none⟩ = some (.bool (tab.getD (k + x.size) false)) := (hb.cell (p := ⟨Br, k + x.size, none⟩) lr).trans (hr _ (by omega))
      have hb1 : (0 : Int) ≤ (k : Int) + (x.size : Int) := by omega
      have hb2 : (k : Int) + (x.size : Int) < (tab.length : Int) := by omega
      go_enter Tryd.func94, Tryd.ntmps94
      go_wp2_with (go_at_call 56; first | (refine (hc1 _).mono ?_; rintro e w' ⟨rfl, rfl⟩) | (refine (hc2 _).mono ?_; rintro e w' ⟨rfl, rfl⟩))
      go_ret
      exact ⟨by simp [List.getD_eq_getElem?_getD], 0, rfl⟩
  · rw [h1] at hc1
    go_enter Tryd.func94, Tryd.ntmps94
    go_wp2_with (go_at_call 56; first | (refine (hc1 _).mono ?_; rintro e w' ⟨rfl, rfl⟩) | (refine (hc2 _).mono ?_; rintro e w' ⟨rfl, rfl⟩))
    go_ret
    exact ⟨rfl, 0, rfl⟩
/-- the table, place by place, from the last one on -/
def begRun (l : List ByteArray) (s : ByteArray) : Nat → List Bool → List Bool
  | 0, t => t
  | k + 1, t => begRun l s k (t.set k (l.any (begStep s k t)))
def impl_beginnings.f (l0 : List ByteArray) (a1 : ByteArray) : Option (List Bool) := if a1.size ≤ 1048576 then some (begRun l0 a1 a1.size ((List.replicate (a1.size + 1) false).set a1.size true)) else none
/-- a slice of strings that is not empty, cell by cell -/
theorem strs_at {w : World} {A : Option Addr} {l : List ByteArray} (h : Kd.C Kd.string w A l.length l) (h0 : 0 < l.length) : ∃ b off, A = some ⟨b, off, none⟩ ∧ b < w.heap.size ∧ ∀ j, j < l.length → w.cell? ⟨b, off + j, none⟩ = some (.string (l.getD j ByteArray.empty)) := by
  obtain ⟨-, -, hc⟩ := Kd.reads_of_C (d := ByteArray.empty) h
  obtain ⟨⟨b, off, spot⟩, rfl, hcell⟩ := hc h0
  clear hc
  have hz := hcell 0 h0
  have hb : b < w.heap.size := by
    rcases Nat.lt_or_ge b w.heap.size with h' | h'
    · exact h'
    · simp [Addr.add, World.cell?, Array.getElem?_eq_none h'] at hz
  have hsp : spot = none := by
    cases spot with
    | none => rfl
    | some x =>
      simp only [Addr.add, World.cell?, if_true, Option.isSome_some] at hz
      split at hz <;> cases hz
  subst hsp
  refine ⟨b, off, rfl, hb, fun j hj => ?_⟩
  have hj' := hcell j hj
  by_cases e : j = 0
  · subst e; simpa [Addr.add] using hj'
  · simpa [Addr.add, e] using hj'
/-- how the world stands while place k - 1 is worked at -/
structure BegRel (w : World) (l0 : List ByteArray) (a1 : ByteArray) (r : List Bool) (k Bk : Nat) (tab : List Bool) (wr : World) : Prop where
  below : Below w.heap.size w wr
  far : w.heap.size + 3 ≤ Bk
  box : wr.heap[w.heap.size]? = some (.cells #[.string a1] 9 (0, 0))
  row : wr.heap[w.heap.size + 1]? = some (.cells (tab.map Value.bool).toArray 4 (0, 0))
  out : wr.heap[w.heap.size + 1 + 1]? = some (.cells #[.slice (some ⟨w.heap.size + 1, 0, none⟩) (a1.size + 1) (a1.size + 1)] 57 (0, 0))
  cnt : wr.heap[Bk]? = some (.cells #[.int .i64 ((k : Int) - 1)] 3 (0, 0))
  len : tab.length = a1.size + 1
  le : k ≤ a1.size
  run : begRun l0 a1 k tab = r
theorem alloc_new (W : World) (o : Obj) : (W.alloc o).heap[W.heap.size]? = some o := by unfold World.alloc; simp
theorem kd_bool_R {W : World} {base b n : Nat} {tab : List Bool} (hb : base ≤ b) (h : W.heap[b]? = some (.cells (tab.map Value.bool).toArray 4 (0, 0))) (hn : tab.length = n) (hm : n ≤ 9223372036854775807) :
    Kd.R Kd.bool 4 W base (fun _ => True) (.slice (some ⟨b, 0, none⟩) n n) tab := by
  refine Kd.R_of_own ⟨by simp [encs], .inr ⟨b, n, _, by rw [hn], hb, h, by omega, by unfold maxLen; omega, by simp [hn], ?_⟩⟩ (fun _ _ => trivial)
  rw [Nat.mul_one, List.take_of_length_le (by simp [hn])]; rfl
/-- at the start -/
theorem BegRel.start (w : World) (l0 : List ByteArray) (a1 : ByteArray) (r : List Bool) (hr : begRun l0 a1 a1.size ((List.replicate (a1.size + 1) false).set a1.size true) = r) :
    BegRel w l0 a1 r a1.size (w.heap.size + 3) ((List.replicate (a1.size + 1) false).set a1.size true)
    ((((w.alloc (Obj.cells #[Value.string a1] 9)).alloc (Obj.cells ((madeCells #[Value.bool false] (a1.size + 1)).setIfInBounds a1.size (Value.bool true)) 4)).alloc
          (Obj.cells #[Value.slice (some { block := w.heap.size + 1, off := 0 }) (a1.size + 1) (a1.size + 1)] 57)).alloc (Obj.cells #[Value.int IntKind.i64 (↑a1.size - 1)] 3)) := by
  have s1 : ∀ (W : World) (o : Obj), (W.alloc o).heap.size = W.heap.size + 1 := fun W o => by simp
  have n1 : ∀ (W : World) (o : Obj) (i : Nat), i = W.heap.size → (W.alloc o).heap[i]? = some o := fun W o i e => by rw [e]; exact alloc_new W o
  have o1 : ∀ (W : World) (o : Obj) (i : Nat), i < W.heap.size → (W.alloc o).heap[i]? = W.heap[i]? := fun W o i h => Below.heap_alloc W o i h
  refine ⟨?_, by omega, ?_, ?_, ?_, ?_, by simp, Nat.le_refl _, hr⟩
  · exact below_alloc (below_alloc (below_alloc (below_alloc (Below.refl _ _) _) _) _) _
  · rw [o1 _ _ _ (by simp only [s1]; omega), o1 _ _ _ (by simp only [s1]; omega), o1 _ _ _ (by simp only [s1]; omega), n1 _ _ _ rfl]
  · rw [o1 _ _ _ (by simp only [s1]; omega), o1 _ _ _ (by simp only [s1]; omega), n1 _ _ _ (by simp only [s1])]
    congr 2
    apply Array.toList_inj.1
    apply List.ext_getElem
    · simp [madeCells]
    · intro i h1 h2
      simp [madeCells, Nat.mod_one, List.getElem_set, Array.getElem_setIfInBounds]
  · rw [o1 _ _ _ (by simp only [s1]; omega), n1 _ _ _ (by simp only [s1])]
  · rw [n1 _ _ _ (by simp only [s1])]
/-- one place more -/
theorem BegRel.step {w : World} {l0 : List ByteArray} {a1 : ByteArray} {r : List Bool} {k Bk : Nat} {tab : List Bool} {wr : World} (h : BegRel w l0 a1 r (k + 1) Bk tab wr) {bb : Bool} (hbb : l0.any (begStep a1 k tab) = bb) (n : Nat) :
    BegRel w l0 a1 r k wr.heap.size (tab.set k bb) (((wr.drewN n).setCell ⟨w.heap.size + 1, k, none⟩ (.bool bb)).alloc (.cells #[.int .i64 ((k : Int) - 1)] 3)) := by
  obtain ⟨hb, hf, hx, hr, ho, hc, hl, hle, hrun⟩ := h
  have hz := blk_lt hc
  have hsz : ((wr.drewN n).setCell ⟨w.heap.size + 1, k, none⟩ (.bool bb)).heap.size = wr.heap.size := by simp
  have o1 : ∀ (o : Obj) (i : Nat), i < wr.heap.size → (((wr.drewN n).setCell ⟨w.heap.size + 1, k, none⟩ (.bool bb)).alloc o).heap[i]? = ((wr.drewN n).setCell ⟨w.heap.size + 1, k, none⟩ (.bool bb)).heap[i]? := fun o i h => Below.heap_alloc _ o i (by rw [hsz]; exact h)
  refine ⟨?_, by omega, ?_, ?_, ?_, ?_, by simpa using hl, by omega, ?_⟩
  · exact below_alloc ((pw_below_drewN hb n).setCell (by show _ ≤ w.heap.size + 1; omega) _) _
  · rw [o1 _ _ (by omega)]; exact blk_far (w := wr.drewN n) hx (by show w.heap.size ≠ w.heap.size + 1; omega) _
  · rw [o1 _ _ (by omega)]
    have := blk_set (w := wr.drewN n) hr k (.bool bb)
    rw [this]
    congr 2
    apply Array.toList_inj.1
    simp [List.map_set]
  · rw [o1 _ _ (by omega)]; exact blk_far (w := wr.drewN n) ho (by show w.heap.size + 1 + 1 ≠ w.heap.size + 1; omega) _
  · rw [← hsz]; exact alloc_new _ _
  · rw [← hrun, ← hbb]; rfl
set_option maxHeartbeats 8000000 in
set_option maxRecDepth 100000 in
theorem impl_beginnings.calls (A0 : Option Addr) (c0 : Nat) (l0 : List ByteArray) (a1 : ByteArray) (r : List Bool) (w : World) (hr0 : Kd.C Kd.string w A0 l0.length l0) (hc0 : l0.length ≤ c0) (h : impl_beginnings.f l0 a1 = some r) :
    Calls Tryd.prog 50 #[.slice A0 l0.length c0, .string a1] w fun e w' => ∃ v0_, e = .returned v0_ ∧ Kd.R Kd.bool 4 w' w.heap.size (fun _ => True) v0_ r ∧ Below w.heap.size w w' := by
  unfold impl_beginnings.f at h
  split at h
  · rename_i hsz
    have hr' := (Option.some.inj h).symm
    clear h
    have e1 : (0 : Int) ≤ (a1.size : Int) := by omega
    have e2 : (a1.size : Int) ≤ 1048576 := by omega
    have hmk := print_make_int (P := Tryd.prog) 57 4 (.bool false) 1 Tryd.underlying57 (by kernel_rfl) rfl (by decide) ((a1.size : Int) + 1) (by omega) (by omega)
    have hce : (madeCells #[Value.bool false] (a1.size + 1))[a1.size]? = some (.bool false) := by
      rw [Array.getElem?_eq_getElem (by simp [size_madeCells])]
      simp [madeCells, Nat.mod_one]
    go_enter Tryd.func50, Tryd.ntmps50
    go_wp2
    go_loopg [6] a1.size (fun g v6 wr => ∃ (k Bk : Nat) (tab : List Bool), v6 = .pointer (some ⟨Bk, 0, none⟩) ∧ k ≤ g ∧ BegRel w l0 a1 r k Bk tab wr)
    case atStart =>
      refine ⟨a1.size, w.heap.size + 3, (List.replicate (a1.size + 1) false).set a1.size true, rfl, Nat.le_refl _, ?_⟩
      exact BegRel.start w l0 a1 r hr'.symm
    case round =>
      obtain ⟨k, Bk, tab, rfl, hkg, hrel⟩ := hrel
      have hbox := cell_of_one hrel.box
      have hout := cell_of_one hrel.out
      have hcnt := cell_of_one hrel.cnt
      cases k with
      | zero =>
        have hcnt' : wr.cell? ⟨Bk, 0, none⟩ = some (.int .i64 (-1)) := hcnt
        clear hcnt
        go_wp2
        go_ret
        refine ⟨_, rfl, ?_, hrel.below⟩
        have := hrel.run
        subst this
        exact kd_bool_R (Nat.le_add_right _ 1) hrel.row hrel.len (by omega)
      | succ k =>
        have hlt : k < a1.size := hrel.le
        have hcnt' : wr.cell? ⟨Bk, 0, none⟩ = some (.int .i64 (k : Int)) := by rw [hcnt]; simp
        clear hcnt
        have hk0 : (0 : Int) ≤ (k : Int) := by omega
        have hk1 : (k : Int) < (a1.size : Int) + 1 := by omega
        have hk2 : (k : Int) < ((a1.size + 1 : Nat) : Int) := by omega
        have hk3 : (k : Int) ≤ 1048576 := by omega
        have hfar := hrel.far
        have hblt : Bk < wr.heap.size := (Array.getElem?_eq_some_iff.1 hrel.cnt).1
        have hrowc : ∀ j, j < tab.length → wr.cell? ⟨w.heap.size + 1, j, none⟩ = some (.bool (tab.getD j false)) := fun j hj => by
          rw [blk_cell hrel.row j]; simp [List.getD_eq_getElem?_getD, hj]
        have hcon : ∀ W, Below wr.heap.size wr W → Calls Tryd.prog 54 #[.slice A0 l0.length c0, .func (.func 94) #[] #[.pointer (some ⟨w.heap.size, 0, none⟩), .pointer (some ⟨Bk, 0, none⟩), .pointer (some ⟨w.heap.size + 1 + 1, 0, none⟩)]] W fun e w' => e = .returned (.bool (l0.any (begStep a1 k tab))) ∧ ∃ q, w' = W.drewN q := fun W hW => by
          by_cases hl0 : l0.length = 0
          · have hnil : l0 = [] := List.eq_nil_of_length_eq_zero hl0
            subst hnil
            have hc := AnyE.slices_ContainsFunc_empty Tryd.containsS A0 c0 (.func (.func 94) #[] #[.pointer (some ⟨w.heap.size, 0, none⟩), .pointer (some ⟨Bk, 0, none⟩), .pointer (some ⟨w.heap.size + 1 + 1, 0, none⟩)]) W
            change Calls Tryd.prog 54 _ _ _ at hc
            exact hc.mono fun e w' ⟨he, hw⟩ => ⟨by simpa using he, 0, hw⟩
          · obtain ⟨b, off, rfl, hbw, hcells⟩ := strs_at hr0 (by omega)
            have hp := beg_clo wr w.heap.size Bk (w.heap.size + 1 + 1) (w.heap.size + 1) a1 k tab (a1.size + 1) (by omega) hblt (by omega) (by omega) hbox hcnt' (by rw [hrel.len]; exact hout) hrowc (by omega) hrel.len hsz
            have hp' : PredAt Tryd.prog 94 #[.pointer (some ⟨w.heap.size, 0, none⟩), .pointer (some ⟨Bk, 0, none⟩), .pointer (some ⟨w.heap.size + 1 + 1, 0, none⟩)] Value.string (begStep a1 k tab) W := fun W' x hb => hp W' x (hW.trans (hb.mono hW.size))
            have hl9 : l0.length ≤ 9223372036854775807 := (Kd.reads_of_C (d := ByteArray.empty) hr0).2.1
            have hc := AnyE.slices_ContainsFunc Tryd.containsS Value.string (begStep a1 k tab) 94 #[.pointer (some ⟨w.heap.size, 0, none⟩), .pointer (some ⟨Bk, 0, none⟩), .pointer (some ⟨w.heap.size + 1 + 1, 0, none⟩)] (enters_of Tryd.func94 (by kernel_rfl) rfl) b off l0.length c0 l0 W hp' (Nat.le_refl _) hl9
              (fun j hj => by
                have h1 := hcells j hj
                have h2 : wr.cell? ⟨b, off + j, none⟩ = some (.string (l0.getD j ByteArray.empty)) := (hrel.below.cell (p := ⟨b, off + j, none⟩) hbw).trans h1
                have h3 : W.cell? ⟨b, off + j, none⟩ = some (.string (l0.getD j ByteArray.empty)) := (hW.cell (p := ⟨b, off + j, none⟩) (by have := hrel.below.size; show b < wr.heap.size; omega)).trans h2
                rw [h3]; simp [List.getD_eq_getElem?_getD, hj])
            rw [List.take_of_length_le (Nat.le_refl _)] at hc
            change Calls Tryd.prog 54 _ _ _ at hc
            exact hc
        obtain ⟨bb, hbb⟩ : ∃ bb, l0.any (begStep a1 k tab) = bb := ⟨_, rfl⟩
        rw [hbb] at hcon
        have hck := hrowc k (by have := hrel.len; omega)
        have hfk : wr.frozen? ⟨w.heap.size + 1, k, none⟩ = false := blk_frozen hrel.row k
        have HBB := Aside0.mk hbb
        clear hbb hrowc
        go_wp2
        go_region_with (go_at_call 54; refine (hcon _ (by first | exact Below.refl _ _ | exact below_drew1 (Below.refl _ _))).mono ?_; rintro e w' ⟨rfl, q, rfl⟩)
        all_goals
          have hcn2 : ((wr.drewN (1 + q)).setCell ⟨w.heap.size + 1, k, none⟩ (.bool bb)).cell? ⟨Bk, 0, none⟩ = some (.int .i64 (k : Int)) := by
            rw [cell_far (by show Bk ≠ w.heap.size + 1; omega)]; exact hcnt'
          go_wp2
          go_roundg k
          case rel => exact ⟨k, wr.heap.size, _, rfl, Nat.le_refl _, hrel.step HBB.out (1 + q)⟩
          case measure => omega
  · cases h
end Go.Proofs.YtaglbacldonflaaDoor.Hand
