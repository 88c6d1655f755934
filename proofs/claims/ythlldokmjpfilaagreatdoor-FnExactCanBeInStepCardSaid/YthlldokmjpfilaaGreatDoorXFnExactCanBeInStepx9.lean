-- Written by a program of this session (wip/xprint.py), which follows the kit's print; no kit file.
import Derived.Test.YthlldokmjpfilaaGreatDoorXFnExactCanBeInStepx0
import Derived.Test.YthlldokmjpfilaaGreatDoorXFnExactCanBeInStepx6
import Derived.Test.YthlldokmjpfilaaGreatDoorXFnExactCanBeInStepx7
import Derived.Test.YthlldokmjpfilaaGreatDoorXFnExactCanBeInStepx8
namespace Go.Proofs.YthlldokmjpfilaaGreatDoor.XFnExactCanBeInStep
open Go.RowKit Go.Proofs.YthlldokmjpfilaaGreatDoor.Hand Go.Proofs.YthlldokmjpfilaaGreatDoorW.PrintWords Go.Proofs.YthlldokmjpfilaaGreatDoorW.PrintLast Go.Proofs.YthlldokmjpfilaaGreatDoorW.PrintMore
attribute [local go_sem] max2_int min2_int max_two min_two max_three min_three max_four min_four   -- for this text's walks alone
set_option linter.unusedVariables false
set_option linter.unusedSimpArgs false

-- impl_CanBeInStep: function 8, by hand
-- SKIP loop.example/g01164/impl.stepperOf
-- SKIP (*loop.example/g01164/impl.stepper).together
-- SKIP slices.Compact[[]int,int]
-- NEEDS loop.example/g01164/impl.in
-- NEEDS loop.example/g01164/impl.isSet
-- NEEDS loop.example/g01164/impl.letterCount
-- NEEDS loop.example/g01164/impl.innerWords
-- NEEDS loop.example/g01164/impl.isMaximalPrefix
-- NEEDS slices.Index[[]string,string]
-- NEEDS (*loop.example/g01164/impl.stepper).together$1
open Go.Proofs.YthlldokmjpfilaaGreatDoor.Hand
/-- the states, and where letters lead, as the program holds them -/
def StBox (w : World) (g : Nat) (m : Int) (st : List ByteArray) (nx : List (List Int)) : Prop := ∃ A1 c1 A2 c2, w.heap[g]? = some (.cells #[.int .i64 m, .slice A1 st.length c1, .slice A2 nx.length c2] 40 (0, 0)) ∧ Kd.C Kd.string w A1 st.length st ∧ Kd.C (Kd.slice 3 (Kd.int .i64)) w A2 nx.length nx
theorem StBox.below {w w' : World} {g : Nat} {m : Int} {st : List ByteArray} {nx : List (List Int)} (h : StBox w g m st nx) (hb : Below w.heap.size w w') : StBox w' g m st nx := by
  obtain ⟨A1, c1, A2, c2, h1, h2, h3⟩ := h
  exact ⟨A1, c1, A2, c2, (hb.block g (blk_lt h1)).trans h1, Kd.C_below h2 hb, Kd.C_below h3 hb⟩
theorem st_cell {w : World} {g : Nat} {cur : Array Value} {t : TypeId} (h : w.heap[g]? = some (.cells cur t (0, 0))) (j : Nat) (v : Value) (hv : cur[j]? = some v) : w.cell? ⟨g, j, none⟩ = some v := (blk_cell h j).trans hv
theorem st_set {w w' : World} {g : Nat} (h : w.grownBy w' (some g)) (j : Nat) (v : Value) : w.grownBy (w'.setCell ⟨g, j, none⟩ v) (some g) :=
  ⟨h.os, h.tape, h.output, by have := h.size; simpa [World.setCell] using this, fun k hk hne => (Below.heap_setCell w' ⟨g, j, none⟩ v k (fun e => hne (by rw [e]))).trans (h.block k hk hne)⟩
/-- a row in order without what is twice -/
def dd : List Int → List Int
  | [x, y] => if x = y then [x] else [x, y]
  | l => l
set_option maxHeartbeats 8000000 in
set_option maxRecDepth 100000 in
theorem compact_one {w : World} {base g off cap : Nat} {cur : Array Value} {x : Int} (h : RowAt w base g off cap cur [x]) :
    Calls Tryz.prog 18 #[.slice (some ⟨g, off, none⟩) 1 cap] w fun e w' => e = .returned (.slice (some ⟨g, off, none⟩) 1 cap) ∧ w' = w := by
  clear h
  go_enter Tryz.func18, Tryz.ntmps18
  go_wp2
  go_ret
  exact ⟨rfl, rfl⟩
set_option maxHeartbeats 8000000 in
set_option maxRecDepth 100000 in
theorem compact_two {w : World} {base g off cap : Nat} {cur : Array Value} {x y : Int} (h : RowAt w base g off cap cur [x, y]) :
    Calls Tryz.prog 18 #[.slice (some ⟨g, off, none⟩) 2 cap] w fun e w' => ∃ cur', e = .returned (.slice (some ⟨g, off, none⟩) (dd [x, y]).length cap) ∧ RowAt w' base g off cap cur' (dd [x, y]) ∧ w.grownBy w' (some g) ∧ cur'.size = cur.size := by
  have H := Aside0.mk h
  have hcap : 2 ≤ cap := h.len
  have hx : w.cell? ⟨g, off, none⟩ = some (.int .i64 x) := by have := h.cell 0 (by simp); simpa using this
  have hy : w.cell? ⟨g, off + 1, none⟩ = some (.int .i64 y) := by have := h.cell 1 (by simp); simpa using this
  have HX := Aside0.mk hx
  have HY := Aside0.mk hy
  have HCAP := Aside0.mk hcap
  by_cases e : x = y
  · subst e
    have exx : (x == x) = true := beq_self_eq_true x
    obtain ⟨i0, hi, hz0, hz1, hz2⟩ := info_parts infoInt
    have hcut := cut_from (P := Tryz.prog) 42 3 .i64 Tryz.underlying42 hi 1 hz1 (some ⟨g, off, none⟩) 2 cap 1 (by omega) (by omega)
    have hcut2 := cut_to (P := Tryz.prog) 42 3 .i64 Tryz.underlying42 hi (some ⟨g, off, none⟩) 2 cap 1 (by omega) (by omega) hcap
    rw [show (1 : Int).toNat = 1 from rfl, if_neg (by omega), Nat.mul_one, Option.map_some, Addr.add_lit] at hcut
    rw [show (1 : Int).toNat = 1 from rfl] at hcut2
    clear h hcap hx hy hi hz0 hz1 hz2
    go_enter Tryz.func18, Tryz.ntmps18
    go_wp2
    go_loopg [3] 2 (fun kq v3 w' => v3 = .int .i64 1 ∧ w' = w)
    case atStart => exact ⟨rfl, rfl⟩
    case round =>
      obtain ⟨rfl, rfl⟩ := hrel
      have hx := HX.out
      have hy := HY.out
      go_upto_region 6 with fail
      go_quiet (fail)
      have HH := Aside0.mk (H.out.move (w1 := wr.drewN nq) rfl)
      have HW := Aside0.mk (pw_below_drewN (Below.refl wr.heap.size wr) nq)
      generalize wr.drewN nq = W at HH HW ⊢
      go_wp2
      have hcl := fun ty => Go.Lib.run_clear_slice (P := Tryz.prog) W 42 3 ty (.int .i64 0) Tryz.underlying42 Tryz.zeroValue3 rfl rfl g (off + 1) 1 (cap - 1) (by omega) (fun j hj => by
        have hj' : j = 0 := by omega
        subst hj'
        have := HH.out.cell 1 (by simp)
        rw [Nat.add_zero, this]; rfl) (fun j hj => blk_frozen HH.out.blk _)
      have HG := Aside0.mk (show wr.grownBy W (some g) from ⟨HW.out.os, HW.out.tape, HW.out.output, HW.out.size, fun k hk _ => HW.out.block k hk⟩)
      go_loopg [3, 5] 1 (fun kq v3 v5 w' => v3 = .int .i64 1 ∧ v5 = .int .i64 1 ∧ w' = W)
      case atStart => exact ⟨rfl, rfl, rfl⟩
      case round =>
        obtain ⟨rfl, rfl, rfl⟩ := hrel
        go_wp2
        go_ret
        have hd : dd [x, x] = [x] := by simp [dd]
        rw [hd]
        have hfit := HH.out.fits (by have := HCAP.out; omega)
        refine ⟨cur.setIfInBounds (off + 1) (.int .i64 0), rfl, ⟨HH.out.base, blk_set HH.out.blk (off + 1) (.int .i64 0), by have := HCAP.out; simp; omega, fun _ => by rw [Array.size_setIfInBounds]; exact hfit, HH.out.small, fun j hj => ?_⟩, st_set HG.out (off + 1) (.int .i64 0), by simp⟩
        have hj0 : j = 0 := by simpa using hj
        subst hj0
        rw [Array.getElem?_setIfInBounds, if_neg (by omega)]
        exact HH.out.cells 0 (by simp)
  · have exx : (y == x) = false := beq_eq_false_iff_ne.2 (fun q => e q.symm)
    have hd : dd [x, y] = [x, y] := by simp [dd, e]
    rw [hd]
    clear h hcap hx hy
    go_enter Tryz.func18, Tryz.ntmps18
    go_wp2
    go_loopg [3] 3 (fun kq v3 w' => ∃ (i : Int) (n : Nat), v3 = .int .i64 i ∧ Aside0 ((i = 1 ∨ i = 2) ∧ 3 ≤ (kq : Int) + i) ∧ w' = w.drewN n)
    case atStart => exact ⟨1, 0, rfl, ⟨by omega⟩, rfl⟩
    case round =>
      obtain ⟨i, n, rfl, HI, rfl⟩ := hrel
      have hx := HX.out
      have hy := HY.out
      by_cases e1 : i = 1
      · subst e1
        cases gk with
        | zero => exact absurd HI.out.2 (by omega)
        | succ k1 =>
          go_upto_region 6 with fail
          go_quiet (fail)
          go_wp2
          go_roundg k1
          case measure => omega
          case rel => exact ⟨2, n + nq, rfl, ⟨by omega, by have := HI.out; omega⟩, by simp⟩
      · have e2 : i = 2 := by have := HI.out; omega
        subst e2
        go_wp2
        go_ret
        exact ⟨rfl, cur, H.out.move rfl, ⟨rfl, rfl, rfl, Nat.le_refl _, fun _ _ _ => rfl⟩, rfl⟩
/-- where letter r leads from state x -/
def stp (nx : List (List Int)) (x : Int) (r : Nat) : Int := rd (rd_L2 nx x) (r : Int)
set_option maxHeartbeats 8000000 in
set_option maxRecDepth 100000 in
theorem after_calls {w : World} {g : Nat} {m : Int} {st : List ByteArray} {nx : List (List Int)} (h : StBox w g m st nx) (x : Int) (hx : 0 ≤ x ∧ x < nx.length) (r : Nat) (hr : r < (rd_L2 nx x).length) (s : ByteArray) (hs : s.size = 1) (hb : (((s[0]'(by omega)).toNat : Int) - 97) % 256 = (r : Int)) :
    Calls Tryz.prog 47 #[.pointer (some ⟨g, 0, none⟩), .int .i64 x, .string s] w fun e w' => e = .returned (.int .i64 (stp nx x r)) ∧ Drawn0 w w' := by
  obtain ⟨A1, c1, A2, c2, hblk, -, hC⟩ := h
  have hc2 := st_cell hblk 2 (.slice A2 nx.length c2) rfl
  have hx0 : 0 ≤ x := hx.1
  have hx1 : x < (nx.length : Int) := hx.2
  obtain ⟨ad, Ar, cr, hA, hxr, hcr, hCr⟩ := at_L2 hC x hx0 hx1
  subst hA
  have hL0 : (r : Int) < ((rd_L2 nx x).length : Int) := by omega
  have hL1 : (0 : Int) ≤ (r : Int) := by omega
  unfold stp
  obtain ⟨ad2, hA2, hxr2⟩ := Kd.at_int hCr (r : Int) hL1 hL0
  subst hA2
  obtain ⟨y, hy⟩ : ∃ y, y = rd (rd_L2 nx x) (r : Int) := ⟨_, rfl⟩
  rw [← hy]
  rw [← hy, Int.toNat_natCast] at hxr2
  have ew : IntKind.u8.wrap (((s[0]'(by omega)).toNat : Int) - 97) = (r : Int) := by rw [← hb]; exact IntKind.wrap_u8 _
  have es : ((s.size : Nat) : Int) = 1 := by omega
  have es0 : (0 : Int) < ((s.size : Nat) : Int) := by omega
  clear hy hr hblk hC hx hcr hb
  go_enter Tryz.func47, Tryz.ntmps47
  go_wp2
  go_loopg [1, 10] 2 (fun kq v1 v10 w' => ∃ (i : Int) (n : Nat), v10 = .int .i64 i ∧ ((i = 0 ∧ v1 = .int .i64 x ∧ 2 ≤ kq) ∨ (i = 1 ∧ v1 = .int .i64 y)) ∧ w' = w.drewN n)
  case atStart => exact ⟨0, 0, rfl, Or.inl ⟨rfl, rfl, Nat.le_refl _⟩, rfl⟩
  case round =>
    obtain ⟨i, n, rfl, hi, rfl⟩ := hrel
    rcases hi with ⟨rfl, rfl, hk⟩ | ⟨rfl, rfl⟩
    · cases gk with
      | zero => exact absurd hk (by omega)
      | succ k1 =>
        have HK := Aside0.mk hk
        clear hk
        go_upto_region 4 with fail
        go_quiet (fail)
        go_wp2
        go_roundg k1
        case measure => omega
        case rel => exact ⟨1, n + nq, rfl, Or.inr ⟨rfl, rfl⟩, by simp⟩
    · go_wp2
      go_ret
      exact ⟨rfl, n, rfl⟩
theorem st_new (W : World) (o : Obj) : (W.alloc o).heap[W.heap.size]? = some o := by unfold World.alloc; simp
/-- all states to which a letter leads from some -/
def bhd (nx : List (List Int)) (xs : List Int) (r : Nat) : List Int := dd (sortI (xs.map fun x => stp nx x r))
theorem sortI_one (a : Int) : sortI [a] = [a] := by simp [sortI]
theorem sortI_two (a b : Int) : sortI [a, b] = if a ≤ b then [a, b] else [b, a] := by
  unfold sortI
  by_cases h : a ≤ b <;> simp [List.mergeSort, List.MergeSort.Internal.splitInTwo, List.merge, h]
set_option maxHeartbeats 8000000 in
set_option maxRecDepth 100000 in
theorem behind_calls {w : World} {g : Nat} {m : Int} {st : List ByteArray} {nx : List (List Int)} (h : StBox w g m st nx) (xs : List Int) (hxs : ∀ x ∈ xs, 0 ≤ x ∧ x < nx.length) (hlen : xs.length = 1 ∨ xs.length = 2) (A : Option Addr) (cap : Nat) (hC : Kd.C (Kd.int .i64) w A xs.length xs) (r : Nat) (hr : ∀ x ∈ xs, r < (rd_L2 nx x).length) (s : ByteArray) (hs : s.size = 1) (hb : (((s[0]'(by omega)).toNat : Int) - 97) % 256 = (r : Int)) :
    Calls Tryz.prog 30 #[.pointer (some ⟨g, 0, none⟩), .slice A xs.length cap, .string s] w fun e w' => ∃ g1 off1 cap1 cur1, e = .returned (.slice (some ⟨g1, off1, none⟩) (bhd nx xs r).length cap1) ∧ RowAt w' w.heap.size g1 off1 cap1 cur1 (bhd nx xs r) ∧ Below w.heap.size w w' := by
  have HBX := Aside0.mk h
  have HXS := Aside0.mk hxs
  have HLEN := Aside0.mk hlen
  have HC := Aside0.mk hC
  have HR := Aside0.mk hr
  have HB8 := Aside0.mk hb
  clear h hxs hlen hC hr hb
  go_enter Tryz.func30, Tryz.ntmps30
  go_wp2
  go_loopg [7, 13] xs.length (fun kq v7 v13 w' => ∃ (i g1 off1 cap1 : Nat) (cur1 : Array Value), v7 = .slice (some ⟨g1, off1, none⟩) i cap1 ∧ v13 = .int .i64 (i : Int) ∧ Aside0 (i ≤ xs.length ∧ kq = xs.length - i) ∧ Aside0 (RowAt w' w.heap.size g1 off1 cap1 cur1 ((xs.take i).map fun x => stp nx x r)) ∧ Aside0 (Below w.heap.size w w'))
  case atStart => exact ⟨0, w.heap.size, 0, 0, #[], rfl, rfl, ⟨Nat.zero_le _, rfl⟩, ⟨⟨Nat.le_refl _, st_new _ _, Nat.le_refl _, fun h => absurd h (by omega), Nat.zero_le _, fun j hj => absurd hj (by simp)⟩⟩, ⟨below_alloc (Below.refl _ _) _⟩⟩
  case round =>
    obtain ⟨i, g1, off1, cap1, cur1, rfl, rfl, HI, HRW, HB⟩ := hrel
    by_cases c1 : i < xs.length
    · have c1b : decide ((i : Int) < (xs.length : Int)) = true := decide_eq_true (by omega)
      have c1n : decide (i < xs.length) = true := decide_eq_true c1
      have c1z : (i : Int) < (xs.length : Int) := by omega
      have c10 : (0 : Int) ≤ (i : Int) := by omega
      obtain ⟨ad, hA, hxr⟩ := Kd.at_int (Kd.C_below HC.out HB.out) (i : Int) c10 c1z
      subst hA
      have hrd : rd xs (i : Int) = xs[i] := by
        unfold rd
        simp [c1]
      have hmem : xs[i] ∈ xs := List.getElem_mem c1
      have hL : (rd xs (i : Int)) ∈ xs := by rw [hrd]; exact hmem
      obtain ⟨x, hx⟩ : ∃ x, x = rd xs (i : Int) := ⟨_, rfl⟩
      rw [← hx] at hxr hL
      rw [Int.toNat_natCast] at hxr
      have htk : (xs.take (i + 1)).map (fun x => stp nx x r) = (xs.take i).map (fun x => stp nx x r) ++ [stp nx x r] := by
        rw [List.take_succ_eq_append_getElem c1, List.map_append, hx, hrd]; rfl
      have HTK := Aside0.mk htk
      obtain ⟨row, hrow⟩ : ∃ row, row = (xs.take i).map (fun x => stp nx x r) := ⟨_, rfl⟩
      rw [← hrow] at HRW
      have HRL := Aside0.mk (show i = row.length from by rw [hrow, List.length_map, List.length_take]; omega)
      have HRE := Aside0.mk hrow
      have haft := after_calls (HBX.out.below HB.out) x (HXS.out x hL) r (HR.out x hL) s hs HB8.out
      have HI2 := Aside0.mk c1
      clear c1 hrd hmem htk hrow hx hL
      go_wp2_with (first
        | (go_at_call 47; (with_reducible refine haft.mono ?_); rintro e w2 ⟨rfl, n2, rfl⟩)
        | ((with_reducible refine gate_builtin (b := .append) (xs := #[.tmp 17, .tmp 22]) rfl ?_); at_builtin; refine RowAt.append (HRW.out.move (w1 := wr.drewN n2) rfl) (stp nx x r) i HRL.out rfl (.tmp 17) (.tmp 22) rfl rfl rfl (HB.out.trans (pw_below_drewN (Below.refl _ wr) n2)) (by have := HRL.out; have := HI2.out; have := HLEN.out; omega) ?_; intro g2 off2 cap2 cur2 w2 hR2 hb2 hg2 hat2 hz2; have HR2 := Aside0.mk hR2; have HB2 := Aside0.mk hb2; clear hR2 hb2 hg2 hat2 hz2))
      go_roundg (xs.length - (i + 1))
      case measure => have := HI.out; have := HI2.out; omega
      case rel => exact ⟨i + 1, g2, off2, cap2, cur2, rfl, by have := HI2.out; have := HLEN.out; simp; unfold wrap64; omega, ⟨by have := HI2.out; omega, rfl⟩, ⟨by rw [HTK.out, ← HRE.out]; exact HR2.out⟩, HB2⟩
    · have c1b : decide ((i : Int) < (xs.length : Int)) = false := decide_eq_false (by omega)
      obtain rfl : i = xs.length := by have := HI.out; omega
      clear c1
      rw [List.take_length] at HRW
      obtain ⟨row, hrow⟩ : ∃ row, row = xs.map (fun x => stp nx x r) := ⟨_, rfl⟩
      have HRE := Aside0.mk (show bhd nx xs r = dd (sortI row) from by rw [hrow]; rfl)
      rw [← hrow] at HRW
      have HRL := Aside0.mk (show xs.length = row.length from by rw [hrow, List.length_map])
      clear hrow
      go_upto_region 8 with (go_at_call 48; (with_reducible refine (HRW.out.sort xs.length HRL.out (by have := HRL.out; have := HLEN.out; omega)).mono ?_); rintro e w2 ⟨rfl, ⟨cur2, hR2⟩, hg2⟩; have HR3 := Aside0.mk hR2; have HG3 := Aside0.mk hg2; clear hR2 hg2)
      have hfin : Calls Tryz.prog 18 #[.slice (some ⟨g1, off1, none⟩) xs.length cap1] w2 fun e w' => ∃ cur', e = .returned (.slice (some ⟨g1, off1, none⟩) (bhd nx xs r).length cap1) ∧ RowAt w' w.heap.size g1 off1 cap1 cur' (bhd nx xs r) ∧ w2.grownBy w' (some g1) := by
        have h3 := HR3.out
        have hsl := sortI_length row
        rw [HRE.out, HRL.out]
        have hll := HLEN.out
        rw [HRL.out] at hll
        rw [← hsl] at hll ⊢
        generalize sortI row = q at h3 hll ⊢
        match q, h3, hll with
        | [], _, hll => exact absurd hll (by simp)
        | [a], h3, _ =>
          refine (compact_one h3).mono ?_
          rintro e w' ⟨rfl, rfl⟩
          exact ⟨cur2, rfl, h3, ⟨rfl, rfl, rfl, Nat.le_refl _, fun _ _ _ => rfl⟩⟩
        | [a, b], h3, _ =>
          refine (compact_two h3).mono ?_
          rintro e w' ⟨cur', rfl, h1, h2, h4⟩
          exact ⟨cur', rfl, h1, h2⟩
        | a :: b :: c :: t, _, hll => exact absurd hll (by simp)
      have HB3 := Aside0.mk (show Below w.heap.size w w2 from ⟨HG3.out.os.trans HB.out.os, HG3.out.tape.trans HB.out.tape, HG3.out.output.trans HB.out.output, Nat.le_trans HB.out.size HG3.out.size, fun k hk => (HG3.out.block k (Nat.lt_of_lt_of_le hk HB.out.size) (fun e => by injection e with e; have := HRW.out.base; omega)).trans (HB.out.block k hk)⟩)
      go_wp2_with (go_at_call 18; (with_reducible refine hfin.mono ?_); rintro e w3 ⟨cur3, rfl, hR3, hg3⟩; have HR4 := Aside0.mk hR3; have HG4 := Aside0.mk hg3; clear hR3 hg3)
      go_ret
      exact ⟨g1, off1, cap1, cur3, rfl, HR4.out, ⟨HG4.out.os.trans HB3.out.os, HG4.out.tape.trans HB3.out.tape, HG4.out.output.trans HB3.out.output, Nat.le_trans HB3.out.size HG4.out.size, fun k hk => (HG4.out.block k (Nat.lt_of_lt_of_le hk HB3.out.size) (fun e => by injection e with e; have := HRW.out.base; omega)).trans (HB3.out.block k hk)⟩⟩
section
open Go.Maps
/-- block b is the map of these numbers, each of them true -/
def MetI (w : World) (b n : Nat) (l : List Int) : Prop := ∃ D : DataW Unit, w.ownsMap Tryz.prog 3 (plainElem Tryz.prog 4) b n D ∧ ∀ v : Int, D.atKey (.int .i64 v) (.lit (.bool false)) = .lit (.bool (l.contains v))
theorem metI_made (w : World) : MetI (w.alloc (.map #[] 0)) w.heap.size 0 [] := ⟨.map [], World.ownsMap_made w _ _ _, fun s => by simp [DataW.atKey]⟩
theorem metI_look {w : World} {b n : Nat} {l : List Int} (h : MetI w b n l) (v : Int) (hs : (Lit.int .i64 v).wf = true) : (Instr.lookup 61 (.map (some b)) (.int .i64 v) false).run Tryz.prog w = .ok (.bool (l.contains v)) w := by
  obtain ⟨D, ho, hD⟩ := h
  have hB : Tryz.prog.underlying 4 = some .bool := Tryz.underlying4
  obtain ⟨u, ps, hrun, hv⟩ := ho.lookup (Go.Maps.int_keyed Tryz.underlying3) Tryz.underlying61 (z := .bool false) (by kernel_rfl) (plainElem_bool hB false) (Go.Maps.keyOf_int_mk Tryz.underlying3 hs)
  rw [hD v] at hv
  have e : u = .bool (l.contains v) := by
    unfold plainElem at hv
    rw [hB] at hv
    cases u <;> simp at hv
    rw [hv.1, List.contains_eq_mem]
  rw [hrun, e]
theorem metI_put {w : World} {b n : Nat} {l : List Int} (h : MetI w b n l) (v : Int) (hs : (Lit.int .i64 v).wf = true) (hn : n < maxLen) : ∃ w', (Instr.mapUpdate 61 (.map (some b)) (.int .i64 v) (.bool true)).run Tryz.prog w = .ok () w' ∧ MetI w' b (n + 1) (v :: l) ∧ w.grownBy w' (some b) := by
  obtain ⟨D, ho, hD⟩ := h
  have hB : Tryz.prog.underlying 4 = some .bool := Tryz.underlying4
  obtain ⟨w', hrun, ho', hg⟩ := ho.update (Go.Maps.int_keyed Tryz.underlying3) Tryz.underlying61 hn (Go.Maps.keyOf_int_mk Tryz.underlying3 hs) (plainElem_bool hB true)
  refine ⟨w', hrun, ⟨_, ho', fun t => ?_⟩, hg⟩
  by_cases e : t = v
  · rw [e, atKey_put_same ho.isMap (by simp [WideAt.IsKeyLit])]
    simp
  · rw [atKey_put_other (fun h => e (by injection h)), hD t]
    simp [List.contains_cons, e]
theorem MetI.kept {w w' : World} {row : Option Nat} {b n : Nat} {l : List Int} (h : MetI w b n l) (hg : w.grownBy w' row) (hne : some b ≠ row) : MetI w' b n l := by
  obtain ⟨D, ho, hD⟩ := h
  exact ⟨D, ho.kept hg hne, hD⟩
theorem MetI.move {w w' : World} {b n : Nat} {l : List Int} (h : MetI w b n l) (hm : w'.heap[b]? = w.heap[b]?) : MetI w' b n l := by
  obtain ⟨D, ⟨es, clock, hb, r⟩, hD⟩ := h
  exact ⟨D, ⟨es, clock, hm.trans hb, r⟩, hD⟩
theorem MetI.lt {w : World} {b n : Nat} {l : List Int} (h : MetI w b n l) : b < w.heap.size := by
  obtain ⟨D, ho, hD⟩ := h
  exact ho.lt
end
/-- a row of numbers, as a value, in a block of its own -/
def RowV (w : World) (g bm : Nat) (v : Value) (xs : List Int) : Prop := ∃ k o c, v = .slice (some ⟨k, o, none⟩) xs.length c ∧ k ≠ g ∧ k ≠ bm ∧ k < w.heap.size ∧ xs.length ≤ c ∧ c ≤ maxLen ∧ ∀ j, j < xs.length → w.cell? ⟨k, o + j, none⟩ = some (.int .i64 (xs.getD j 0))
theorem RowV.move {w w' : World} {g g' bm : Nat} {v : Value} {xs : List Int} (h : RowV w g bm v xs) (hs : w.heap.size ≤ w'.heap.size) (hm : ∀ k, k < w.heap.size → k ≠ g → k ≠ bm → w'.heap[k]? = w.heap[k]?) (hg : g' = g ∨ w.heap.size ≤ g') : RowV w' g' bm v xs := by
  obtain ⟨k, o, c, h1, h2, h3, h4, h5, h6, h7⟩ := h
  refine ⟨k, o, c, h1, ?_, h3, Nat.lt_of_lt_of_le h4 hs, h5, h6, fun j hj => ?_⟩
  · rcases hg with rfl | hg
    · exact h2
    · omega
  · rw [← h7 j hj]
    unfold World.cell?
    rw [hm k h4 h2 h3]
theorem RowV.of {w : World} {base k o c : Nat} {cur : Array Value} {xs : List Int} (h : RowAt w base k o c cur xs) {g bm : Nat} (h1 : k ≠ g) (h2 : k ≠ bm) : RowV w g bm (.slice (some ⟨k, o, none⟩) xs.length c) xs := ⟨k, o, c, rfl, h1, h2, h.lt, h.len, h.small, fun j hj => h.cell j hj⟩
theorem RowV.reads {w : World} {g bm : Nat} {v : Value} {xs : List Int} (h : RowV w g bm v xs) : ∃ k o c, v = .slice (some ⟨k, o, none⟩) xs.length c ∧ Kd.C (Kd.int .i64) w (some ⟨k, o, none⟩) xs.length xs ∧ xs.length ≤ c := by
  obtain ⟨k, o, c, h1, h2, h3, h4, h5, h6, h7⟩ := h
  refine ⟨k, o, c, h1, ?_, h5⟩
  refine Kd.C_of_reads (enc := Value.int .i64) (d := (0 : Int)) (h1 := fun _ => rfl) ⟨rfl, Nat.le_trans h5 h6, fun _ => ⟨_, rfl, fun j hj => ?_⟩⟩
  rw [Addr.add_lit]
  exact h7 j (by simpa using hj)
/-- the queue: sets of states, each with a word, in a block of its own at whatever place -/
structure WayAt (w : World) (base bm g off cap : Nat) (cur : Array Value) (ws : List (List Int × ByteArray)) : Prop where
  base : base ≤ g
  ne : g ≠ bm
  blk : w.heap[g]? = some (.cells cur 59 (0, 0))
  len : ws.length ≤ cap
  fits : 0 < cap → off + cap * 2 ≤ cur.size
  small : cap ≤ maxLen
  cells : ∀ j (hj : j < ws.length), ∃ v, cur[off + j * 2]? = some v ∧ cur[off + j * 2 + 1]? = some (.string ws[j].2) ∧ RowV w g bm v ws[j].1
theorem WayAt.lt {w : World} {base bm g off cap : Nat} {cur : Array Value} {ws : List (List Int × ByteArray)} (h : WayAt w base bm g off cap cur ws) : g < w.heap.size := blk_lt h.blk
theorem WayAt.move {w w' : World} {base bm g off cap : Nat} {cur : Array Value} {ws : List (List Int × ByteArray)} (h : WayAt w base bm g off cap cur ws) (hs : w.heap.size ≤ w'.heap.size) (hm : ∀ k, k < w.heap.size → k ≠ bm → w'.heap[k]? = w.heap[k]?) : WayAt w' base bm g off cap cur ws :=
  ⟨h.base, h.ne, (hm g h.lt h.ne).trans h.blk, h.len, h.fits, h.small, fun j hj => by
    obtain ⟨v, h1, h2, h3⟩ := h.cells j hj
    exact ⟨v, h1, h2, h3.move hs (fun k hk _ hb => hm k hk hb) (Or.inl rfl)⟩⟩
theorem infoWay : (Tryz.prog.info? 59).map (fun i => (i.zero, i.size, i.bytes)) = some (some (.agg #[.slice none 0 0, .string ⟨#[]⟩]), 2, 40) := by kernel_rfl
/-- what is left behind the first one -/
theorem WayAt.cut {w : World} {base bm g off cap : Nat} {cur : Array Value} {p : List Int × ByteArray} {ws : List (List Int × ByteArray)} (h : WayAt w base bm g off cap cur (p :: ws)) :
    ∃ off', (∀ W : World, (Instr.slice 60 (.slice (some ⟨g, off, none⟩) (ws.length + 1) cap) (some (.int .i64 1)) none none).run Tryz.prog W = .ok (.slice (some ⟨g, off', none⟩) ws.length (cap - 1)) W) ∧ WayAt w base bm g off' (cap - 1) cur ws := by
  obtain ⟨i0, hi, hz0, hz1, hz2⟩ := info_parts infoWay
  have hl : ws.length + 1 ≤ cap := h.len
  have hcut := cut_from (P := Tryz.prog) 60 59 .i64 Tryz.underlying60 hi 2 hz1 (some ⟨g, off, none⟩) (ws.length + 1) cap 1 (by omega) (by omega)
  rw [show (1 : Int).toNat = 1 from rfl, Nat.one_mul] at hcut
  by_cases e : cap = 1
  · refine ⟨off, fun W => ?_, h.base, h.ne, h.blk, by omega, fun _ => by omega, by have := h.small; omega, fun i hi => by omega⟩
    rw [hcut W, if_pos e, Nat.add_sub_cancel]
  · refine ⟨off + 2, fun W => ?_, h.base, h.ne, h.blk, by omega, fun _ => by have := h.fits (by omega); omega, by have := h.small; omega, fun i hi => ?_⟩
    · rw [hcut W, if_neg e, Nat.add_sub_cancel, Option.map_some, Addr.add_lit]
    · obtain ⟨v, h1, h2, h3⟩ := h.cells (i + 1) (by simp; omega)
      rw [show off + (i + 1) * 2 = off + 2 + i * 2 by omega] at h1 h2
      exact ⟨v, h1, by simpa using h2, by simpa using h3⟩
theorem WayAt.first {w : World} {base bm g off cap : Nat} {cur : Array Value} {p : List Int × ByteArray} {ws : List (List Int × ByteArray)} (h : WayAt w base bm g off cap cur (p :: ws)) : ∃ v, w.cell? ⟨g, off, none⟩ = some v ∧ w.cell? ⟨g, off + 1, none⟩ = some (.string p.2) ∧ RowV w g bm v p.1 := by
  obtain ⟨v, h1, h2, h3⟩ := h.cells 0 (by simp)
  exact ⟨v, (blk_cell h.blk _).trans (by simpa using h1), (blk_cell h.blk _).trans (by simpa using h2), h3⟩
theorem two_new (w : World) (x y : Value) (t : TypeId) : ∀ j u, [x, y][j]? = some u → (w.alloc (.cells #[x, y] t)).cell? ((⟨w.heap.size, 0, none⟩ : Addr).add j) = some u := by
  intro j u hj
  rw [Addr.add_lit, blk_cell (st_new w _), Nat.zero_add]
  match j, hj with
  | 0, hj => exact hj
  | 1, hj => exact hj
/-- a way behind the queue -/
theorem WayAt.append {ops : Array Oper} {rest : List Oper} {o : Oper} {a : Act} {Q : Exit → Act → World → Prop} {w0 W : World} {base bm g off cap : Nat} {cur : Array Value} {ws : List (List Int × ByteArray)} (H : WayAt W base bm g off cap cur ws) (v : Value) (xs : List Int) (s : ByteArray) (n : Nat) (hn : n = ws.length) (hgd : o.guard = none) (y x : Operand)
    (ho : o.op = .call { callee := .builtin .append, args := #[y, x], argTypes := #[60, 60] }) (hs : a.eval y = .slice (some ⟨g, off, none⟩) n cap) (hx : a.eval x = .slice (some ⟨W.heap.size, 0, none⟩) 1 1) (HV : RowV W g bm v xs) (h1v : v.oneCell' = true) (HB : Go.RowKit.Below base w0 W) (hbm : bm < W.heap.size) (hl : ws.length + 1 ≤ 1000000)
    (h : ∀ g1 off1 cap1 cur1 w1, WayAt w1 base bm g1 off1 cap1 cur1 (ws ++ [(xs, s)]) → Go.RowKit.Below base w0 w1 → W.grownBy w1 (some g) → (g1 = g ∨ W.heap.size ≤ g1) → wpList Tryz.prog ops Q rest (a.put o.dst (.slice (some ⟨g1, off1, none⟩) (n + 1) cap1)) w1) :
    wpList Tryz.prog ops Q (o :: rest) a (W.alloc (.cells #[v, .string s] 59)) := by
  subst hn
  obtain ⟨i0, hi, hz0, hz1, hz2⟩ := info_parts infoWay
  have hlt := H.lt
  have hblk : (W.alloc (.cells #[v, .string s] 59)).heap[g]? = some (.cells cur 59 (0, 0)) := (Below.heap_alloc _ _ _ hlt).trans H.blk
  have hlen : (ws ++ [(xs, s)]).length = ws.length + 1 := by simp
  have hsmall := H.small
  have hle := H.len
  have hol : (cur.toList.drop off |>.take (ws.length * 2)).length = ws.length * 2 := by
    rw [List.length_take, List.length_drop, show cur.toList.length = cur.size from Array.length_toList]
    by_cases h0 : 0 < cap
    · have := H.fits h0
      omega
    · omega
  have hold : ∀ j, j < ws.length * 2 → (cur.toList.drop off |>.take (ws.length * 2))[j]? = cur[off + j]? := fun j hj => by
    rw [List.getElem?_take_of_lt hj, List.getElem?_drop, Array.getElem?_toList]
  have hbase : base ≤ W.heap.size := Nat.le_of_lt (Nat.lt_of_le_of_lt H.base hlt)
  refine wpList_append_arg _ hgd y x 60 ho 59 i0 (.agg #[.slice none 0 0, .string ⟨#[]⟩]) 2 40 Tryz.underlying60 hi hz0 hz1 hz2 rfl (by decide) g off ws.length cap (cur.toList.drop off |>.take (ws.length * 2)) hs hol (fun j u hj => ?_) ⟨W.heap.size, 0, none⟩ 1 1 [v, .string s] hx rfl (two_new _ _ _ _) (fun u hu => by
    simp only [List.mem_cons, List.not_mem_nil, or_false] at hu
    rcases hu with rfl | rfl
    · exact h1v
    · rfl) (fun hr j hj => ?_) (by unfold maxLen; omega) (by omega) (fun hr => ?_) (fun hr v' w' hown hg => ?_)
  · have hj' : j < ws.length * 2 := by
      have := (List.getElem?_eq_some_iff.1 hj).1
      omega
    rw [blk_cell hblk, ← hold j hj']
    exact hj
  · have hj' : j < 2 := by simpa using hj
    have hf := H.fits (by omega)
    refine ⟨?_, blk_frozen hblk _⟩
    rw [blk_cell hblk, Array.getElem?_eq_getElem (by omega)]
    rfl
  · have hf := H.fits (by omega)
    have hw : (W.alloc (.cells #[v, .string s] 59)).setCells g (off + ws.length * 2) [v, .string s] = ((W.alloc (.cells #[v, .string s] 59)).setCell ⟨g, off + ws.length * 2, none⟩ v).setCell ⟨g, off + ws.length * 2 + 1, none⟩ (.string s) := rfl
    rw [hw]
    have hm : ∀ k, k < W.heap.size → k ≠ g → (((W.alloc (.cells #[v, .string s] 59)).setCell ⟨g, off + ws.length * 2, none⟩ v).setCell ⟨g, off + ws.length * 2 + 1, none⟩ (.string s)).heap[k]? = W.heap[k]? := fun k hk hne => by
      rw [Below.heap_setCell _ _ _ _ (by intro e; exact hne (by rw [e])), Below.heap_setCell _ _ _ _ (by intro e; exact hne (by rw [e]))]
      exact Below.heap_alloc _ _ _ hk
    have hsz : W.heap.size ≤ (((W.alloc (.cells #[v, .string s] 59)).setCell ⟨g, off + ws.length * 2, none⟩ v).setCell ⟨g, off + ws.length * 2 + 1, none⟩ (.string s)).heap.size := by simp [World.setCell]
    refine h g off cap _ _ ⟨H.base, H.ne, blk_set (blk_set hblk (off + ws.length * 2) v) (off + ws.length * 2 + 1) (.string s), by omega, fun _ => by rw [Array.size_setIfInBounds, Array.size_setIfInBounds]; exact hf, H.small, fun j hj => ?_⟩ ?_ ⟨rfl, rfl, rfl, hsz, fun k hk hne => hm k hk (fun e => hne (by rw [e]))⟩ (Or.inl rfl)
    · rw [hlen] at hj
      by_cases e : j = ws.length
      · subst e
        refine ⟨v, ?_, ?_, ?_⟩
        · rw [Array.getElem?_setIfInBounds, if_neg (by omega), Array.getElem?_setIfInBounds, if_pos rfl, if_pos (by omega)]
        · rw [Array.getElem?_setIfInBounds, if_pos rfl, if_pos (by rw [Array.size_setIfInBounds]; omega)]
          simp
        · have := HV.move hsz (fun k hk h2 _ => hm k hk h2) (g' := g) (Or.inl rfl)
          simpa using this
      · obtain ⟨u, h1, h2, h3⟩ := H.cells j (by omega)
        refine ⟨u, ?_, ?_, ?_⟩
        · rw [Array.getElem?_setIfInBounds, if_neg (by omega), Array.getElem?_setIfInBounds, if_neg (by omega)]
          exact h1
        · rw [Array.getElem?_setIfInBounds, if_neg (by omega), Array.getElem?_setIfInBounds, if_neg (by omega), h2]
          simp [List.getElem_append_left (show j < ws.length by omega)]
        · have := h3.move hsz (fun k hk h2 _ => hm k hk h2) (g' := g) (Or.inl rfl)
          simpa [List.getElem_append_left (show j < ws.length by omega)] using this
    · exact ((HB.alloc hbase _).setCell (by show base ≤ g; exact H.base) _).setCell (by show base ≤ g; exact H.base) _
  · rcases hown.2 with ⟨-, h0⟩ | ⟨g', cap', cur', rfl, h2, h3, h4, h5, h6, h7⟩
    · omega
    have hg' : W.heap.size < g' := by simp at h2; omega
    have hm : ∀ k, k < W.heap.size → w'.heap[k]? = W.heap[k]? := fun k hk => (hg.block k (by simp; omega) (by simp)).trans (Below.heap_alloc _ _ _ hk)
    have hsz : W.heap.size ≤ w'.heap.size := by have := hg.size; simp at this; omega
    have hc : ∀ j, j < (ws.length + 1) * 2 → cur'[j]? = ((cur.toList.drop off |>.take (ws.length * 2)) ++ [v, .string s])[j]? := fun j hj => by
      rw [← h7, List.getElem?_take_of_lt hj, Array.getElem?_toList]
    refine h g' 0 cap' cur' w' ⟨by omega, by omega, h3, by omega, fun _ => by omega, h5, fun j hj => ?_⟩ ?_ ⟨hg.os, hg.tape, hg.output, hsz, fun k hk _ => hm k hk⟩ (Or.inr (by omega))
    · rw [hlen] at hj
      by_cases e : j = ws.length
      · subst e
        refine ⟨v, ?_, ?_, ?_⟩
        · rw [Nat.zero_add, hc _ (by omega), List.getElem?_append_right (by omega), hol]
          simp
        · rw [Nat.zero_add, hc _ (by omega), List.getElem?_append_right (by omega), hol]
          simp
        · have := HV.move hsz (fun k hk _ _ => hm k hk) (g' := g') (Or.inr (by omega))
          simpa using this
      · obtain ⟨u, h1, h2', h3'⟩ := H.cells j (by omega)
        refine ⟨u, ?_, ?_, ?_⟩
        · rw [Nat.zero_add, hc _ (by omega), List.getElem?_append_left (by omega), hold _ (by omega)]
          exact h1
        · rw [Nat.zero_add, hc _ (by omega), List.getElem?_append_left (by omega), hold _ (by omega), ← Nat.add_assoc, h2']
          simp [List.getElem_append_left (show j < ws.length by omega)]
        · have := h3'.move hsz (fun k hk _ _ => hm k hk) (g' := g') (Or.inr (by omega))
          simpa [List.getElem_append_left (show j < ws.length by omega)] using this
    · have h1 : Go.RowKit.Below base w0 (W.alloc (.cells #[v, .string s] 59)) := HB.alloc hbase _
      exact ⟨hg.os.trans h1.os, hg.tape.trans h1.tape, hg.output.trans h1.output, Nat.le_trans h1.size hg.size, fun k hk => (hg.block k (by simp; omega) (by simp)).trans (h1.block k hk)⟩
theorem mw_makeMap {P : Program} {w : World} {ops : Array Oper} {rest : List Oper} {o : Oper} {a : Act} {Q : Exit → Act → World → Prop} (hg : o.guard = none) (t : TypeId) (hop : o.op = Op.makeMap t none)
    (hK : wpList P ops Q rest (a.put o.dst (.map (some w.heap.size))) (w.alloc (.map #[] 0))) : wpList P ops Q (o :: rest) a w := by
  refine wpList_plain hg fun K' hK' => ?_
  unfold Oper.wp
  simp [execOp, hop, run_makeMap, Result.andThen]
  exact hK' _ _ hK
/-- the letter at a place -/
def letK (k : Nat) : ByteArray := (⟨#[97, 98, 99]⟩ : ByteArray).extract k (k + 1)
/-- the letters behind a way -/
def tg_inner (nx : List (List Int)) (row : List Int) (word : ByteArray) : Nat → Nat → List (List Int × ByteArray) → List Int → Option (List (List Int × ByteArray) × List Int)
  | 0, _, ws, met => some (ws, met)
  | c + 1, k, ws, met => (impl_stepper_together__1.f 4 (bhd nx row k)).bind fun n => if (Lit.int .i64 n).wf = true then (if met.contains n = true then tg_inner nx row word c (k + 1) ws met else if word.size < 60 then (if ws.length < 1000 ∧ met.length < 1000 then tg_inner nx row word c (k + 1) (ws ++ [(bhd nx row k, word ++ letK k)]) (n :: met) else none) else tg_inner nx row word c (k + 1) ws met) else none
/-- the search -/
def tg_outer (nx : List (List Int)) (many : Nat) : Nat → List (List Int × ByteArray) → List Int → Option (ByteArray × Bool)
  | 0, _, _ => none
  | _ + 1, [], _ => some (⟨#[]⟩, false)
  | k + 1, (row, word) :: ws, met => if row.length = 1 then some (word, true) else if row.length = 2 ∧ (∀ x ∈ row, 0 ≤ x ∧ x < nx.length) then (tg_inner nx row word many 0 ws met).bind fun p => tg_outer nx many k p.1 p.2 else none
def tg_f (k : Nat) (nx : List (List Int)) (many : Nat) (xs : List Int) : Option (ByteArray × Bool) := (impl_stepper_together__1.f 4 xs).bind fun n => if (Lit.int .i64 n).wf = true then tg_outer nx many k [(xs, ⟨#[]⟩)] [n] else none
theorem letK_fact (i : Nat) (hi : i < 3) : (letK i).size = 1 ∧ ∀ h : 0 < (letK i).size, ((((letK i)[0]'h).toNat : Int) - 97) % 256 = (i : Int) := by
  rcases (show i = 0 ∨ i = 1 ∨ i = 2 by omega) with rfl | rfl | rfl
  · exact ⟨by decide, fun _ => rfl⟩
  · exact ⟨by decide, fun _ => rfl⟩
  · exact ⟨by decide, fun _ => rfl⟩
theorem RowV.reads' {w : World} {g bm k o c : Nat} {xs : List Int} (h : RowV w g bm (.slice (some ⟨k, o, none⟩) xs.length c) xs) : Kd.C (Kd.int .i64) w (some ⟨k, o, none⟩) xs.length xs := by
  obtain ⟨k', o', c', e, hC, -⟩ := h.reads
  injection e with e1 e2 e3
  injection e1 with e1
  rw [e1]
  exact hC
theorem WayAt.below {w w' : World} {base bm g off cap : Nat} {cur : Array Value} {ws : List (List Int × ByteArray)} (h : WayAt w base bm g off cap cur ws) (hb : Below w.heap.size w w') : WayAt w' base bm g off cap cur ws := h.move hb.size (fun k hk _ => hb.block k hk)
theorem RowV.below {w w' : World} {g bm : Nat} {v : Value} {xs : List Int} (h : RowV w g bm v xs) (hb : Below w.heap.size w w') : RowV w' g bm v xs := h.move hb.size (fun k hk _ _ => hb.block k hk) (Or.inl rfl)
theorem MetI.below {w w' : World} {b n : Nat} {l : List Int} (h : MetI w b n l) (hb : Below w.heap.size w w') : MetI w' b n l := h.move (hb.block _ h.lt)
theorem grown_below {w W W' : World} {b : Nat} (hb : Below b w W) (hbw : b ≤ W.heap.size) {g : Nat} (hg : W.grownBy W' (some g)) (h : b ≤ g) : Below b w W' :=
  ⟨hg.os.trans hb.os, hg.tape.trans hb.tape, hg.output.trans hb.output, Nat.le_trans hb.size hg.size, fun k hk => (hg.block k (Nat.lt_of_lt_of_le hk hbw) (fun e => by injection e with e; omega)).trans (hb.block k hk)⟩
theorem st_S {w w' : World} {p1 p2 p3 : Addr} {v1 v2 v3 : Value} (h : w.cell? p1 = some v1 ∧ w.cell? p2 = some v2 ∧ w.cell? p3 = some v3) (hb : Below w.heap.size w w') : w'.cell? p1 = some v1 ∧ w'.cell? p2 = some v2 ∧ w'.cell? p3 = some v3 :=
  ⟨(hb.cell (World.block_lt_of_cell? _ _ h.1)).trans h.1, (hb.cell (World.block_lt_of_cell? _ _ h.2.1)).trans h.2.1, (hb.cell (World.block_lt_of_cell? _ _ h.2.2)).trans h.2.2⟩
theorem st_G {w w1 w2 : World} {g o : Nat} {v : Value} {row : Option Nat} (h : w.cell? ⟨g, o, none⟩ = some v ∧ w.cell? ⟨g, o, none⟩ = some v ∧ w.cell? ⟨g, o, none⟩ = some v) (hb : Below w.heap.size w w1) (hg : w1.grownBy w2 row) (hne : some g ≠ row) : w2.cell? ⟨g, o, none⟩ = some v ∧ w2.cell? ⟨g, o, none⟩ = some v ∧ w2.cell? ⟨g, o, none⟩ = some v := by
  have h1 := (st_S h hb).1
  have h2 : w2.cell? ⟨g, o, none⟩ = some v := by
    rw [← h1]
    unfold World.cell?
    rw [hg.block g (World.block_lt_of_cell? _ _ h1) hne]
  exact ⟨h2, h2, h2⟩
theorem st_append {ops : Array Oper} {o : Oper} {a : Act} {K : Act → World → Prop} {Q : Exit → Act → World → Prop} {E : Prop} {w0 W : World} (base : Nat) {v : Value} {xs : List Int} (p : Int) (HO : Kd.R (Kd.int .i64) 3 W base (fun _ => True) v xs) (HB : Below base w0 W) (hbase : base ≤ W.heap.size) (hl : xs.length + 1 ≤ 1000000) (hgd : o.guard = none) (s x : Operand)
    (ho : o.op = .call { callee := .builtin .append, args := #[s, x], argTypes := #[42, 42] }) (hs : a.eval s = v) (hx : a.eval x = .slice (some ⟨W.heap.size, 0, none⟩) 1 1)
    (h : ∀ v1 w1, Kd.R (Kd.int .i64) 3 w1 base (fun _ => True) v1 (xs ++ [p]) → Below base w0 w1 → W.grownBy w1 v.ownBlock → (v1.ownBlock = v.ownBlock ∨ ∃ b, v1.ownBlock = some b ∧ W.heap.size ≤ b) → K (a.put o.dst v1) w1) :
    if Region.wanted o (yielded ops a.tmps) = true then Oper.wp Tryz.prog o a (W.alloc (.cells #[.int .i64 p] 3)) K Q else E := by
  have hw : Region.wanted o (yielded ops a.tmps) = true := by simp [Region.wanted, hgd]
  have h1 := Kd.R_append_step (ops := ops) (Q := Q) (Kc := K) (Kd.int .i64) (w0 := w0) (W := W) base hw s x 42 3 (.int .i64 0) 8 ho Tryz.underlying42 infoInt rfl (by decide) (by omega) v xs p [.int .i64 p] (fun _ => True) (fun _ => False) hs hx rfl (fun _ hk => hk.elim) (fun _ _ => trivial) HO HB hbase (by omega) h
  rw [if_pos hw] at h1 ⊢
  exact h1
set_option maxHeartbeats 8000000 in
set_option maxRecDepth 100000 in
theorem together_calls {w : World} {g : Nat} {m : Int} {st : List ByteArray} {nx : List (List Int)} (h : StBox w g m st nx) (many : Nat) (hm : m = many) (hmany : many = 2 ∨ many = 3) (hT : ∀ x : Int, 0 ≤ x → x < nx.length → (rd_L2 nx x).length = many) (k : Nat) (xs : List Int) {base g0 off0 cap0 : Nat} {cur0 : Array Value} (hR : RowAt w base g0 off0 cap0 cur0 xs) (r1 : ByteArray) (r2 : Bool) (H : tg_f k nx many xs = some (r1, r2)) :
    Calls Tryz.prog 15 #[.pointer (some ⟨g, 0, none⟩), .slice (some ⟨g0, off0, none⟩) xs.length cap0] w fun e w' => e = .returned (.tuple #[.string r1, .bool r2]) ∧ Below w.heap.size w w' := by
  subst hm
  unfold tg_f at H
  obtain ⟨n, hn, H1⟩ := Option.bind_eq_some_iff.mp H
  by_cases hwf : (Lit.int .i64 n).wf = true
  · rw [if_pos hwf] at H1
    have HN := Aside0.mk hn
    have HWF := Aside0.mk hwf
    have H' := Aside0.mk H1
    have HBX := Aside0.mk h
    have HMANY := Aside0.mk hmany
    have HT := Aside0.mk hT
    have HROW := Aside0.mk hR
    clear H H1 hn hwf h hmany hT hR
    go_enter Tryz.func15, Tryz.ntmps15
    (try simp only [List.append_eq, List.cons_append, List.nil_append])
    have hrd := HROW.out.reads
    have hm0 := metI_made (w.alloc (.cells #[.slice (some ⟨g0, off0, none⟩) xs.length cap0, .string ⟨#[]⟩] 59))
    rw [show (w.alloc (.cells #[.slice (some ⟨g0, off0, none⟩) xs.length cap0, .string ⟨#[]⟩] 59)).heap.size = w.heap.size + 1 from by simp] at hm0
    go_upto_region 3 with (first
      | (refine mw_makeMap rfl 61 rfl ?_; simp only [Act.put, List.setIfInBounds_toArray, List.set_cons_zero, List.set_cons_succ])
      | (go_at_call 29; (with_reducible refine (impl_stepper_together__1.calls 4 _ _ xs n _ (Kd.C_below hrd (below_alloc (below_alloc (Below.refl _ _) _) _)) HROW.out.len HN.out).mono ?_); rintro e w' ⟨rfl, n2, rfl⟩; obtain ⟨w3, hput, hm3, hg3⟩ := metI_put (hm0.move (w' := ((w.alloc (.cells #[.slice (some ⟨g0, off0, none⟩) xs.length cap0, .string ⟨#[]⟩] 59)).alloc (.map #[] 0)).drewN n2) rfl) n HWF.out (by unfold maxLen; omega)))
    have HB3 := Aside0.mk (show Below w.heap.size w w3 from by
      have h1 : Below w.heap.size w (((w.alloc (.cells #[.slice (some ⟨g0, off0, none⟩) xs.length cap0, .string ⟨#[]⟩] 59)).alloc (.map #[] 0)).drewN n2) := pw_below_drewN (below_alloc (below_alloc (Below.refl _ _) _) _) n2
      exact ⟨hg3.os.trans h1.os, hg3.tape.trans h1.tape, hg3.output.trans h1.output, Nat.le_trans h1.size hg3.size, fun k_ hk_ => (hg3.block k_ (Nat.lt_of_lt_of_le hk_ h1.size) (fun e => by injection e with e; omega)).trans (h1.block k_ hk_)⟩)
    have HM3 := Aside0.mk hm3
    have HW3 := Aside0.mk (show WayAt w3 w.heap.size (w.heap.size + 1) w.heap.size 0 1 #[.slice (some ⟨g0, off0, none⟩) xs.length cap0, .string ⟨#[]⟩] [(xs, ⟨#[]⟩)] from ⟨Nat.le_refl _, by omega, by
      rw [hg3.block _ (by simp; omega) (fun e => by injection e with e; omega)]
      show ((w.alloc (.cells #[.slice (some ⟨g0, off0, none⟩) xs.length cap0, .string ⟨#[]⟩] 59)).alloc (.map #[] 0)).heap[w.heap.size]? = _
      rw [Below.heap_alloc _ _ _ (by simp)]
      exact st_new _ _, Nat.le_refl _, fun _ => Nat.le_refl _, by unfold maxLen; omega, fun j hj => by
        have hj0 : j = 0 := by simpa using hj
        subst hj0
        have hlt := HROW.out.lt
        have hr3 : RowAt w3 base g0 off0 cap0 cur0 xs := HROW.out.move (HB3.out.block _ hlt)
        exact ⟨_, rfl, rfl, RowV.of hr3 (by omega) (by omega)⟩⟩)
    clear hput hm3 hg3 hm0 hrd
    go_loopg [7] k (fun kq v7 w' => ∃ (ws : List (List Int × ByteArray)) (met : List Int) (gq offq capq : Nat) (curq : Array Value), v7 = .slice (some ⟨gq, offq, none⟩) ws.length capq ∧ Aside0 (tg_outer nx many kq ws met = some (r1, r2)) ∧ Aside0 (kq ≤ k) ∧ Aside0 (WayAt w' w.heap.size (w.heap.size + 1) gq offq capq curq ws) ∧ Aside0 (MetI w' (w.heap.size + 1) met.length met) ∧ Aside0 (Below w.heap.size w w'))
    case atStart => exact ⟨[(xs, ⟨#[]⟩)], [n], w.heap.size, 0, 1, _, rfl, H', ⟨Nat.le_refl _⟩, HW3, HM3, HB3⟩
    case round =>
      clear H'
      obtain ⟨ws, met, gq, offq, capq, curq, rfl, HA, HK1, HW, HM, HB⟩ := hrel
      cases gk with
      | zero => exact absurd HA.out (by simp [tg_outer])
      | succ k1 =>
        match ws, HA, HW with
        | [], HA, HW =>
          have H := HA.out
          simp only [tg_outer, Option.some.injEq, Prod.mk.injEq] at H
          obtain ⟨rfl, rfl⟩ := H
          clear HA
          go_wp2
          go_ret2
          exact ⟨rfl, HB.out⟩
        | (row, word) :: ws, HA, HW =>
          obtain ⟨L, hL⟩ : ∃ L, L = ws.length + 1 := ⟨_, rfl⟩
          have HL := Aside0.mk hL
          obtain ⟨v, hx0, hx1, hv⟩ := HW.out.first
          obtain ⟨kr, orr, cr, rfl, hC, hcr⟩ := hv.reads
          obtain ⟨offn, hcut, hW2⟩ := HW.out.cut
          rw [← hL] at hcut
          rw [List.length_cons, ← hL]
          have l1 : decide ((L : Int) > 0) = true := decide_eq_true (by omega)
          have l2 : decide (0 < (L : Int)) = true := decide_eq_true (by omega)
          have l3 : decide (0 < L) = true := decide_eq_true (by omega)
          have l4 := eq_true (show (0 : Int) < (L : Int) by omega)
          have l5 := eq_true (show 0 < L by omega)
          have HV := Aside0.mk hv
          have HC := Aside0.mk hC
          have HCR := Aside0.mk hcr
          have HW2 := Aside0.mk hW2
          clear hL hv hC hcr hW2
          go_upto_region 6 with ((with_reducible refine gate_dst (N := 9) rfl ?_); refine box_event ?hg (N := 9) ?hd (cs := #[.slice none 0 0, .string (⟨#[]⟩ : ByteArray)]) (t := 59) ?hr ?_; (case hd => rfl); (case hg => rfl); (case hr => first | (go_simp; done) | (go_simp; rfl)); intro gb hgb w10 hbox hb10; have hcz0 : w10.cell? ⟨gb, 0, none⟩ = some (.slice none 0 0) := (blk_cell hbox 0).trans rfl; have hcz1 : w10.cell? ⟨gb, 1, none⟩ = some (.string (⟨#[]⟩ : ByteArray)) := (blk_cell hbox 1).trans rfl; have hfz0 := blk_frozen hbox 0; have hfz1 := blk_frozen hbox 1; have HGB := Aside0.mk hgb; have HB10 := Aside0.mk hb10; have HBOX := Aside0.mk hbox; clear hgb hb10 hbox)
          obtain ⟨W11, hW11⟩ : ∃ W11, W11 = (w10.setCell ⟨gb, 0, none⟩ (.slice (some ⟨kr, orr, none⟩) row.length cr)).setCell ⟨gb, 1, none⟩ (.string word) := ⟨_, rfl⟩
          have hold : ∀ k_, k_ < wr.heap.size → W11.heap[k_]? = wr.heap[k_]? := fun k_ hk_ => by
            have hne : k_ ≠ gb := by have := HGB.out; omega
            rw [hW11, Below.heap_setCell _ _ _ _ hne, Below.heap_setCell _ _ _ _ hne]
            exact HB10.out.block k_ hk_
          have hsz11 : wr.heap.size ≤ W11.heap.size := by
            rw [hW11]
            have := HB10.out.size
            simpa [World.setCell] using this
          have HBX11 := Aside0.mk (show W11.heap[gb]? = some (.cells #[.slice (some ⟨kr, orr, none⟩) row.length cr, .string word] 59 (0, 0)) from by
            rw [hW11]
            exact blk_set (blk_set HBOX.out 0 _) 1 _)
          have HB11 := Aside0.mk (show Below wr.heap.size wr W11 from by
            rw [hW11]
            exact (HB10.out.setCell (by show wr.heap.size ≤ gb; have := HGB.out; omega) _).setCell (by show wr.heap.size ≤ gb; have := HGB.out; omega) _)
          have HBW := Aside0.mk (below_step HB.out HB11.out)
          have HW11 := Aside0.mk (HW2.out.move hsz11 (fun k_ hk_ _ => hold k_ hk_))
          have HM11 := Aside0.mk (HM.out.move (hold _ HM.out.lt))
          have HV11 := Aside0.mk (HV.out.move hsz11 (fun k_ hk_ _ _ => hold k_ hk_) (Or.inl rfl))
          have HGQ := Aside0.mk (show gq ≠ gb from by have := HGB.out; have := HW.out.lt; omega)
          have HGM := Aside0.mk (show w.heap.size + 1 ≠ gb from by have := HGB.out; have := HM.out.lt; omega)
          have HGW := Aside0.mk (show w.heap.size ≤ gb from by have := HGB.out; have := HB.out.size; omega)
          rw [← hW11]
          clear hW11 hold hsz11 hx0 hx1 hcut hcz0 hcz1 hfz0 hfz1 l1 l2 l3 l4 l5
          have hc0 : W11.cell? ⟨gb, 0, none⟩ = some (.slice (some ⟨kr, orr, none⟩) row.length cr) := (blk_cell HBX11.out 0).trans rfl
          have hc1 : W11.cell? ⟨gb, 1, none⟩ = some (.string word) := (blk_cell HBX11.out 1).trans rfl
          have H := HA.out
          simp only [tg_outer] at H
          clear HA
          by_cases e1 : row.length = 1
          · rw [if_pos e1] at H
            simp only [Option.some.injEq, Prod.mk.injEq] at H
            obtain ⟨rfl, rfl⟩ := H
            have t1 : ((row.length : Int) == 1) = true := by rw [e1]; rfl
            have t2 : decide ((row.length : Int) = 1) = true := by rw [e1]; rfl
            clear e1
            go_wp2
            go_ret2
            exact ⟨rfl, HBW.out⟩
          · rw [if_neg e1] at H
            have t1 : ((row.length : Int) == 1) = false := beq_eq_false_iff_ne.2 (by omega)
            have t2 : decide ((row.length : Int) = 1) = false := decide_eq_false (by omega)
            by_cases e2 : row.length = 2 ∧ ∀ x ∈ row, 0 ≤ x ∧ x < nx.length
            · rw [if_pos e2] at H
              have HE2 := Aside0.mk e2
              have H' := Aside0.mk H
              clear e1 e2 H
              have hcm : W11.cell? ⟨g, 0, none⟩ = some (.int .i64 (many : Int)) := by
                obtain ⟨A1, c1, A2, c2, h1, -⟩ := HBX.out.below HBW.out
                exact st_cell h1 0 _ rfl
              go_upto_region 9 with fail
              clear hcm hc0 hc1 t1 t2
              go_loopg [7, 40] many (fun kq v7 v40 w' => ∃ (i : Nat) (ws' : List (List Int × ByteArray)) (met' : List Int) (gq' offq' capq' : Nat) (curq' : Array Value), v7 = .slice (some ⟨gq', offq', none⟩) ws'.length capq' ∧ v40 = .int .i64 (i : Int) ∧ Aside0 (i ≤ many ∧ kq = many - i) ∧ Aside0 ((tg_inner nx row word (many - i) i ws' met').bind (fun p => tg_outer nx many k1 p.1 p.2) = some (r1, r2)) ∧ Aside0 (WayAt w' w.heap.size (w.heap.size + 1) gq' offq' capq' curq' ws') ∧ Aside0 (MetI w' (w.heap.size + 1) met'.length met') ∧ Aside0 (Below w.heap.size w w') ∧ Aside0 (w'.heap[gb]? = some (.cells #[.slice (some ⟨kr, orr, none⟩) row.length cr, .string word] 59 (0, 0))) ∧ Aside0 (RowV w' gq' (w.heap.size + 1) (.slice (some ⟨kr, orr, none⟩) row.length cr) row) ∧ Aside0 (gq' ≠ gb))
              case atStart => exact ⟨0, ws, met, gq, offn, capq - 1, curq, rfl, rfl, ⟨Nat.zero_le _, rfl⟩, H', HW11, HM11, HBW, HBX11, HV11, HGQ⟩
              case round =>
                obtain ⟨i, ws', met', gq', offq', capq', curq', rfl, rfl, HI, HH, HW', HM', HB', HBX', HV', HGQ'⟩ := hrel
                by_cases c1 : i < many
                · have c1b : decide ((i : Int) < (many : Int)) = true := decide_eq_true (by omega)
                  have HC1 := Aside0.mk c1
                  obtain ⟨p, hp, hq⟩ := Option.bind_eq_some_iff.mp HH.out
                  obtain ⟨c, hc⟩ : ∃ c, many - i = c + 1 := ⟨many - i - 1, by omega⟩
                  have HCC := Aside0.mk hc
                  rw [hc] at hp
                  simp only [tg_inner] at hp
                  obtain ⟨n3, hn3, hp⟩ := Option.bind_eq_some_iff.mp hp
                  have HN3 := Aside0.mk hn3
                  have i0 : (0 : Int) ≤ (i : Int) := by omega
                  have i3 : i < 3 := by have := HMANY.out; omega
                  have w1 : wrap64 ((i : Int) + 1) = ((i + 1 : Nat) : Int) := by unfold wrap64; omega
                  have c1n : decide (i < many) = true := decide_eq_true c1
                  have s2 := eq_true (show (i : Int) + 1 ≤ 3 by omega)
                  have s4 := eq_true (show i + 1 ≤ 3 by omega)
                  have s5 := eq_true (show i < 3 by omega)
                  have s6 := eq_true (show i ≤ 2 by omega)
                  have s3 := eq_true i0
                  clear HH c1 hc hn3 i0 i3
                  go_upto_region 12 with fail
                  obtain ⟨s, hs⟩ : ∃ s, s = letK i := ⟨_, rfl⟩
                  rw [show (⟨#[97, 98, 99]⟩ : ByteArray).extract i (i + 1) = s from hs.symm]
                  rw [← hs] at hp
                  have HS := Aside0.mk hs
                  have HS1 := Aside0.mk (show s.size = 1 from by rw [hs]; exact (letK_fact i (by have := HC1.out; have := HMANY.out; omega)).1)
                  have hbeh := behind_calls (HBX.out.below HB'.out) row HE2.out.2 (Or.inr HE2.out.1) (some ⟨kr, orr, none⟩) cr HV'.out.reads' i (fun x hx => by rw [HT.out x (HE2.out.2 x hx).1 (HE2.out.2 x hx).2]; exact HC1.out) s HS1.out (by
                    have h1 := letK_fact i (by have := HC1.out; have := HMANY.out; omega)
                    rw [← HS.out] at h1
                    exact h1.2 (by have := h1.1; omega))
                  have hc0 : wr.cell? ⟨gb, 0, none⟩ = some (.slice (some ⟨kr, orr, none⟩) row.length cr) := (blk_cell HBX'.out 0).trans rfl
                  obtain ⟨nxt, hnxt⟩ : ∃ nxt, nxt = bhd nx row i := ⟨_, rfl⟩
                  rw [← hnxt] at hbeh hp HN3
                  have HNX := Aside0.mk hnxt
                  clear hnxt hs s2 s3 s4 s5 s6 w1 c1b c1n
                  go_upto_region 14 with (first
                    | (go_at_call 30; (with_reducible refine hbeh.mono ?_); rintro e w12 ⟨g1, off1, cap1, cur1, rfl, hr12, hb12⟩; have HR12 := Aside0.mk hr12; have HB12 := Aside0.mk hb12; clear hr12 hb12)
                    | (go_at_call 29; (with_reducible refine (impl_stepper_together__1.calls 4 _ _ nxt n3 _ HR12.out.reads HR12.out.len HN3.out).mono ?_); rintro e w' ⟨rfl, n4, rfl⟩))
                  obtain ⟨w13, hw13⟩ : ∃ w13, w13 = w12.drewN n4 := ⟨_, rfl⟩
                  have HB13 := Aside0.mk (show Below wr.heap.size wr w13 from by rw [hw13]; exact HB12.out.trans (pw_below_drewN (Below.refl _ w12) n4))
                  have HR13 := Aside0.mk (HR12.out.move (w1 := w13) (by rw [hw13]; rfl))
                  rw [← hw13]
                  clear hw13 hbeh hc0
                  have HBW13 := Aside0.mk (below_step HB'.out HB13.out)
                  have HW13 := Aside0.mk (HW'.out.below HB13.out)
                  have HM13 := Aside0.mk (HM'.out.below HB13.out)
                  have HBX13 := Aside0.mk ((HB13.out.block _ (blk_lt HBX'.out)).trans HBX'.out)
                  have HV13 := Aside0.mk (HV'.out.below HB13.out)
                  have hc1 : w13.cell? ⟨gb, 1, none⟩ = some (.string word) := (blk_cell HBX13.out 1).trans rfl
                  by_cases hwf3 : (Lit.int .i64 n3).wf = true
                  · rw [if_pos hwf3] at hp
                    have HWF3 := Aside0.mk hwf3
                    have hlook := metI_look HM13.out n3 hwf3
                    clear hwf3
                    cases hct : met'.contains n3 with
                    | true =>
                      rw [hct] at hlook hp
                      rw [if_pos rfl] at hp
                      have H2 := Aside0.mk (show (tg_inner nx row word (many - (i + 1)) (i + 1) ws' met').bind (fun p => tg_outer nx many k1 p.1 p.2) = some (r1, r2) from by
                        rw [show many - (i + 1) = c by have := HCC.out; omega, hp]
                        exact hq)
                      clear hct hp hq
                      go_wp2
                      go_roundg (many - (i + 1))
                      case measure => have := HI.out; have := HC1.out; omega
                      case rel => exact ⟨i + 1, ws', met', gq', offq', capq', curq', rfl, by have := HC1.out; have := HMANY.out; simp; unfold wrap64; omega, ⟨by have := HC1.out; omega, rfl⟩, H2, HW13, HM13, HBW13, HBX13, HV13, HGQ'⟩
                    | false =>
                      rw [hct] at hlook hp
                      rw [if_neg (by simp)] at hp
                      clear hct
                      by_cases c2 : word.size < 60
                      · rw [if_pos c2] at hp
                        have d1 : decide ((word.size : Int) < 60) = true := decide_eq_true (by omega)
                        have d2 : decide (word.size < 60) = true := decide_eq_true c2
                        have HC2 := Aside0.mk c2
                        clear c2
                        by_cases c3 : ws'.length < 1000 ∧ met'.length < 1000
                        · rw [if_pos c3] at hp
                          have H2 := Aside0.mk (show (tg_inner nx row word (many - (i + 1)) (i + 1) (ws' ++ [(nxt, word ++ s)]) (n3 :: met')).bind (fun p => tg_outer nx many k1 p.1 p.2) = some (r1, r2) from by
                            rw [show many - (i + 1) = c by have := HCC.out; omega, hp]
                            exact hq)
                          have HC3 := Aside0.mk c3
                          obtain ⟨w14, hput, hm14, hg14⟩ := metI_put HM13.out n3 HWF3.out (by unfold maxLen; omega)
                          have HM14 := Aside0.mk hm14
                          have HG14 := Aside0.mk hg14
                          clear c3 hp hq hm14 hg14
                          go_upto_region 16 with fail
                          have hbm := HM'.out.lt
                          have hsz13 := HB13.out.size
                          have hne14 : ∀ k_, k_ < w13.heap.size → k_ ≠ w.heap.size + 1 → w14.heap[k_]? = w13.heap[k_]? := fun k_ hk_ hn_ => HG14.out.block k_ hk_ (fun e => hn_ (by injection e))
                          have HW14 := Aside0.mk (HW13.out.move HG14.out.size hne14)
                          have HBX14 := Aside0.mk ((hne14 _ (blk_lt HBX13.out) (fun e => HGM.out e.symm)).trans HBX13.out)
                          have HV14 := Aside0.mk (HV13.out.move HG14.out.size (fun k_ hk_ _ hn_ => hne14 k_ hk_ hn_) (Or.inl rfl))
                          have HBW14 := Aside0.mk (grown_below HBW13.out HBW13.out.size HG14.out (by omega))
                          have HR14 := Aside0.mk (HR13.out.move (hne14 _ HR13.out.lt (by have := HR13.out.base; omega)))
                          have HVN := Aside0.mk (RowV.of HR14.out (g := gq') (bm := w.heap.size + 1) (by have := HR13.out.base; have := HW'.out.lt; omega) (by have := HR13.out.base; omega))
                          have HBM := Aside0.mk (show w.heap.size + 1 < w14.heap.size from by have := HG14.out.size; omega)
                          have hc1 : w14.cell? ⟨gb, 1, none⟩ = some (.string word) := (blk_cell HBX14.out 1).trans rfl
                          have z1 := eq_true (show word.size + s.size ≤ 9223372036854775807 by have := HC2.out; have := HS1.out; omega)
                          have z2 : decide (word.size + s.size ≤ 9223372036854775807) = true := decide_eq_true (by have := HC2.out; have := HS1.out; omega)
                          have z3 : (9223372036854775807 < word.size + s.size) = False := eq_false (by have := HC2.out; have := HS1.out; omega)
                          clear hbm hsz13 hne14 hput hlook d1 d2
                          go_wp2_with ((with_reducible refine gate_builtin (b := .append) (xs := #[.tmp 67, .tmp 74]) rfl ?_); at_builtin; refine WayAt.append HW14.out (.slice (some ⟨g1, off1, none⟩) nxt.length cap1) nxt (word ++ s) ws'.length rfl rfl (.tmp 67) (.tmp 74) rfl rfl rfl HVN.out rfl HBW14.out HBM.out (by have := HC3.out; omega) ?_; intro g2 off2 cap2 cur2 w2 hW2 hb2 hg2 hat2; have HWN := Aside0.mk hW2; have HBN := Aside0.mk hb2; have HGN := Aside0.mk hg2; have HAT := Aside0.mk hat2; clear hW2 hb2 hg2 hat2)
                          go_roundg (many - (i + 1))
                          case measure => have := HI.out; have := HC1.out; omega
                          case rel =>
                            have hgb : gb < w14.heap.size := blk_lt HBX14.out
                            have hgk := HV14.out
                            exact ⟨i + 1, ws' ++ [(nxt, word ++ s)], n3 :: met', g2, off2, cap2, cur2, by simp, by have := HC1.out; have := HMANY.out; simp; unfold wrap64; omega, ⟨by have := HC1.out; omega, rfl⟩, H2, HWN, ⟨HM14.out.kept HGN.out (fun e => by injection e with e; exact HW14.out.ne e.symm)⟩, HBN, ⟨(HGN.out.block _ hgb (fun e => by injection e with e; exact HGQ'.out e.symm)).trans HBX14.out⟩, ⟨HV14.out.move HGN.out.size (fun k_ hk_ h2_ _ => HGN.out.block k_ hk_ (fun e => h2_ (by injection e))) (HAT.out)⟩, ⟨by rcases HAT.out with rfl | h; exact HGQ'.out; omega⟩⟩
                        · rw [if_neg c3] at hp
                          exact absurd hp (by simp)
                      · rw [if_neg c2] at hp
                        have d1 : decide ((word.size : Int) < 60) = false := decide_eq_false (by omega)
                        have d2 : decide (word.size < 60) = false := decide_eq_false c2
                        have H2 := Aside0.mk (show (tg_inner nx row word (many - (i + 1)) (i + 1) ws' met').bind (fun p => tg_outer nx many k1 p.1 p.2) = some (r1, r2) from by
                          rw [show many - (i + 1) = c by have := HCC.out; omega, hp]
                          exact hq)
                        clear hp hq c2
                        go_wp2
                        go_roundg (many - (i + 1))
                        case measure => have := HI.out; have := HC1.out; omega
                        case rel => exact ⟨i + 1, ws', met', gq', offq', capq', curq', rfl, by have := HC1.out; have := HMANY.out; simp; unfold wrap64; omega, ⟨by have := HC1.out; omega, rfl⟩, H2, HW13, HM13, HBW13, HBX13, HV13, HGQ'⟩
                  · rw [if_neg hwf3] at hp
                    exact absurd hp (by simp)
                · have c1b : decide ((i : Int) < (many : Int)) = false := decide_eq_false (by omega)
                  have c1n : decide (i < many) = false := decide_eq_false c1
                  obtain ⟨p, hp, hq⟩ := Option.bind_eq_some_iff.mp HH.out
                  rw [show many - i = 0 by omega] at hp
                  simp only [tg_inner, Option.some.injEq] at hp
                  subst hp
                  have H2 := Aside0.mk hq
                  clear hq HH c1
                  go_wp2
                  go_roundg k1
                  case measure => omega
                  case rel => exact ⟨ws', met', gq', offq', capq', curq', rfl, H2, ⟨by have := HK1.out; omega⟩, HW', HM', HB'⟩
            · rw [if_neg e2] at H
              exact absurd H (by simp)
  · rw [if_neg hwf] at H1
    exact absurd H1 (by simp)
/-- the row of a state: where each letter leads -/
def so_row (k : Nat) (st : List ByteArray) (s : ByteArray) : Nat → Nat → List Int → Option (List Int)
  | 0, _, row => some row
  | c + 1, i, row => (slices_Index_string_string.f k st (s ++ letK i)).bind fun x => so_row k st s c (i + 1) (row ++ [max x 0])
/-- the rows of all states -/
def so_rows (k : Nat) (st : List ByteArray) (many : Nat) : List ByteArray → List (List Int) → Option (List (List Int))
  | [], nx => some nx
  | s :: r, nx => if s.size < 1000 then (so_row k st s many 0 []).bind fun row => so_rows k st many r (nx ++ [row]) else none
/-- the stepper of a set -/
def impl_stepperOf.f (k : Nat) (l0 : List ByteArray) : Option (Option (Int × List ByteArray × List (List Int))) :=
  (impl_isSet.f k l0).bind fun b => if b = true then (if l0.length ≤ 12 then (impl_letterCount.f k l0).bind fun m => (impl_innerWords.f k l0).bind fun st => (impl_isMaximalPrefix.f k l0 m).bind fun b2 => if b2 = true then (if st.length ≤ 1000 ∧ (m = 2 ∨ m = 3) then (so_rows k st m.toNat st []).bind fun nx => some (some (m, st, nx)) else none) else some none else some none) else some none
def SoPost (w w' : World) (e : Ending) (r : Option (Int × List ByteArray × List (List Int))) : Prop := Below w.heap.size w w' ∧ ((r = none ∧ e = .returned (.tuple #[.pointer none, .bool false])) ∨ ∃ m st nx gs, r = some (m, st, nx) ∧ e = .returned (.tuple #[.pointer (some ⟨gs, 0, none⟩), .bool true]) ∧ StBox w' gs m st nx)
set_option maxHeartbeats 8000000 in
set_option maxRecDepth 100000 in
theorem impl_stepperOf.calls' (k : Nat) (A0 : Option Addr) (c0 : Nat) (l0 : List ByteArray) (r : Option (Int × List ByteArray × List (List Int))) (w : World) (hr0 : Kd.C Kd.string w A0 l0.length l0) (hc0 : l0.length ≤ c0) (h : impl_stepperOf.f k l0 = some r) :
    Calls Tryz.prog 14 #[.slice A0 l0.length c0] w fun e w' => SoPost w w' e r := by
  have HR0 := Aside0.mk hr0
  have HC0 := Aside0.mk hc0
  unfold impl_stepperOf.f at h
  obtain ⟨b, hb, H⟩ := Option.bind_eq_some_iff.mp h
  have A1 := Aside0.mk hb
  clear h hb hr0 hc0
  cases b with
  | false =>
    rw [if_neg (by simp)] at H
    obtain rfl := Option.some.inj H
    clear H
    go_enter Tryz.func14, Tryz.ntmps14
    (try simp only [List.append_eq, List.cons_append, List.nil_append])
    go_wp2_with (go_at_call 24; (with_reducible refine (impl_isSet.calls k _ _ l0 false _ HR0.out HC0.out A1.out).mono ?_); rintro e w1 ⟨rfl, hb1⟩; have HB1 := Aside0.mk hb1; clear hb1)
    go_ret2
    exact ⟨HB1.out, Or.inl ⟨rfl, rfl⟩⟩
  | true =>
    rw [if_pos rfl] at H
    by_cases d1 : l0.length ≤ 12
    · rw [if_pos d1] at H
      obtain ⟨m, hm, H⟩ := Option.bind_eq_some_iff.mp H
      obtain ⟨st, hst, H⟩ := Option.bind_eq_some_iff.mp H
      obtain ⟨b2, hb2, H⟩ := Option.bind_eq_some_iff.mp H
      have A2 := Aside0.mk hm
      have A3 := Aside0.mk hst
      have A4 := Aside0.mk hb2
      have H' := Aside0.mk H
      have e1 : decide ((l0.length : Int) > 12) = false := decide_eq_false (by omega)
      have e2 : decide (12 < (l0.length : Int)) = false := decide_eq_false (by omega)
      have e3 : decide (12 < l0.length) = false := decide_eq_false (by omega)
      clear hm hst hb2 H d1
      go_enter Tryz.func14, Tryz.ntmps14
      (try simp only [List.append_eq, List.cons_append, List.nil_append])
      go_upto_region 4 with (first
        | (go_at_call 24; (with_reducible refine (impl_isSet.calls k _ _ l0 true _ HR0.out HC0.out A1.out).mono ?_); rintro e w1 ⟨rfl, hb1⟩; have HB1 := Aside0.mk hb1; clear hb1)
        | (go_at_call 25; (with_reducible refine (impl_letterCount.calls k _ _ l0 m _ (Kd.C_below HR0.out HB1.out) HC0.out A2.out).mono ?_); rintro e w2 ⟨rfl, hb2⟩; have HB2 := Aside0.mk (below_step HB1.out (Drawn0.below hb2)); clear hb2)
        | (go_at_call 26; (with_reducible refine (impl_innerWords.calls k _ _ l0 st _ (Kd.C_below HR0.out HB2.out) HC0.out A3.out).mono ?_); rintro e w3 ⟨v3, rfl, ho3, hb3⟩; obtain ⟨A5, c5, e5⟩ := Kd.R_slice ho3; subst e5; have HO3 := Aside0.mk ho3; have HB3 := Aside0.mk (below_step HB2.out hb3); clear ho3 hb3)
        | ((with_reducible refine gate_dst (N := 22) rfl ?_); refine box_event ?hg (N := 22) ?hd (cs := #[.int .i64 m, .slice A5 st.length c5, .slice none 0 0]) (t := 40) ?hr ?_; (case hd => rfl); (case hg => rfl); (case hr => first | (go_simp; done) | (go_simp; rfl)); intro gb hgb w10 hbox hb10; have HGB := Aside0.mk hgb; have HB10 := Aside0.mk hb10; have HBOX := Aside0.mk hbox; clear hgb hb10 hbox))
      have HB10w := Aside0.mk (below_step HB3.out HB10.out)
      have hcm : w10.cell? ⟨gb, 0, none⟩ = some (.int .i64 m) := (blk_cell HBOX.out 0).trans rfl
      cases b2 with
      | false =>
        have H := H'.out
        rw [if_neg (by simp)] at H
        obtain rfl := Option.some.inj H
        clear H H'
        go_wp2_with (go_at_call 27; (with_reducible refine (impl_isMaximalPrefix.calls k _ _ l0 m false _ (Kd.C_below HR0.out HB10w.out) HC0.out A4.out).mono ?_); rintro e w11 ⟨rfl, hb11⟩; have HB11 := Aside0.mk (below_step HB10w.out hb11); clear hb11)
        go_ret2
        exact ⟨HB11.out, Or.inl ⟨rfl, rfl⟩⟩
      | true =>
        have H := H'.out
        rw [if_pos rfl] at H
        clear H'
        by_cases d2 : st.length ≤ 1000 ∧ (m = 2 ∨ m = 3)
        · rw [if_pos d2] at H
          obtain ⟨mn, rfl⟩ : ∃ mn : Nat, m = (mn : Int) := ⟨m.toNat, by omega⟩
          have HD2 := Aside0.mk (show st.length ≤ 1000 ∧ mn ≤ 3 from by omega)
          rw [Int.toNat_natCast] at H
          obtain ⟨nxr, hnx, H⟩ := Option.bind_eq_some_iff.mp H
          obtain rfl := Option.some.inj H
          have A6 := Aside0.mk hnx
          clear H hnx d2
          go_upto_region 6 with (go_at_call 27; (with_reducible refine (impl_isMaximalPrefix.calls k _ _ l0 (mn : Int) true _ (Kd.C_below HR0.out HB10w.out) HC0.out A4.out).mono ?_); rintro e w11 ⟨rfl, hb11⟩; have HB11 := Aside0.mk hb11; clear hb11)
          have HX11 := Aside0.mk ((HB11.out.block _ (blk_lt HBOX.out)).trans HBOX.out)
          have HB311 := Aside0.mk (below_step HB10.out HB11.out)
          have hcs : w11.cell? ⟨gb, 1, none⟩ = some (.slice A5 st.length c5) := (blk_cell HX11.out 1).trans rfl
          clear hcm
          go_upto_region 7 with fail
          clear hcs
          go_loopg [35] st.length (fun kq v35 w' => ∃ (j : Nat) (vn : Value) (nx : List (List Int)), v35 = .int .i64 (j : Int) ∧ Aside0 (j ≤ st.length ∧ kq = st.length - j) ∧ Aside0 (so_rows k st mn (st.drop j) nx = some nxr) ∧ Aside0 (w'.heap[gb]? = some (.cells #[.int .i64 (mn : Int), .slice A5 st.length c5, vn] 40 (0, 0))) ∧ Aside0 (Kd.S (Kd.slice 3 (Kd.int .i64)) 42 w' w3.heap.size (fun _ => True) vn nx ∧ nx.length = j) ∧ Aside0 (Below w3.heap.size w3 w'))
          case atStart => exact ⟨0, .slice none 0 0, [], rfl, ⟨Nat.zero_le _, rfl⟩, A6, HX11, ⟨Kd.S_nil _ _ _ _ _, rfl⟩, HB311⟩
          case round =>
            obtain ⟨j, vn, nx, rfl, HJ, HS, HX, HN, HB⟩ := hrel
            by_cases c1 : j < st.length
            · have c1b : decide ((j : Int) < (st.length : Int)) = true := decide_eq_true (by omega)
              have c1n : decide (j < st.length) = true := decide_eq_true c1
              have HC1 := Aside0.mk c1
              obtain ⟨s, hs⟩ : ∃ s, s = st[j] := ⟨_, rfl⟩
              have hsr := HS.out
              rw [List.drop_eq_getElem_cons c1, ← hs] at hsr
              simp only [so_rows] at hsr
              by_cases d3 : s.size < 1000
              · rw [if_pos d3] at hsr
                obtain ⟨row, hrow, hsr⟩ := Option.bind_eq_some_iff.mp hsr
                have HROW := Aside0.mk hrow
                have HSR := Aside0.mk hsr
                have HD3 := Aside0.mk d3
                have p1 : (0 : Int) ≤ (j : Int) := by omega
                have q1 : (j : Int) < (st.length : Int) := by omega
                obtain ⟨ad, hA, hxr⟩ := Kd.at_string (Kd.C_below (Kd.R_reads' HO3.out).2.2 HB.out) (j : Int) p1 q1
                subst hA
                have hrd : rdOf ByteArray.empty st (j : Int) = s := by
                  rw [hs]
                  unfold rdOf
                  simp [c1]
                rw [hrd, Int.toNat_natCast] at hxr
                have hcm : wr.cell? ⟨gb, 0, none⟩ = some (.int .i64 (mn : Int)) := (blk_cell HX.out 0).trans rfl
                clear hsr hrow d3 hs hrd c1 HS
                go_upto_region 10 with ((with_reducible refine gate_dst (N := 39) rfl ?_); refine Kd.R_lit (Kd.int .i64) _ 3 ?hg (N := 39) ?hd (xs := ([] : List Int)) (inner := []) (ok := fun _ => True) (okp := fun _ => True) ?hr ?hp (fun _ hk => hk) trivial (Below.refl _ _) (Nat.le_refl _) (by simp) ?_; (case hd => rfl); (case hg => rfl); (case hr => first | (go_simp; done) | (go_simp; rfl)); (case hp => exact (Reps.none _ _)); intro vr w12 ho12 hb12 hg12 hnew12; have HO12 := Aside0.mk ho12; have HB12 := Aside0.mk hb12; clear ho12 hb12 hg12 hnew12)
                clear hcm hxr
                have HB12w := Aside0.mk (below_step HB.out HB12.out)
                have hX12 := (HB12.out.block _ (blk_lt HX.out)).trans HX.out
                have HX12 := Aside0.mk hX12
                have hcm : w12.cell? ⟨gb, 0, none⟩ = some (.int .i64 (mn : Int)) := (blk_cell hX12 0).trans rfl
                clear hX12
                have HN12 := Aside0.mk (Kd.S_elder' HN.out.1 (Kd.R_base HO12.out) HB12.out)
                have HR12 := Aside0.mk (Kd.R_lower HO12.out HB.out.size)
                go_upto_region 11 with fail
                clear hcm
                go_loopg [7, 44] mn (fun kq v7 v44 w' => ∃ (i : Nat) (row' : List Int), v44 = .int .i64 (i : Int) ∧ Aside0 (i ≤ mn ∧ kq = mn - i) ∧ Aside0 (so_row k st s (mn - i) i row' = some row) ∧ Aside0 (row'.length = i) ∧ Aside0 (w'.heap[gb]? = some (.cells #[.int .i64 (mn : Int), .slice (some ad) st.length c5, vn] 40 (0, 0))) ∧ Aside0 (Kd.S (Kd.slice 3 (Kd.int .i64)) 42 w' w3.heap.size (fun k_ => True ∧ some k_ ≠ (v7 : Value).ownBlock) vn nx) ∧ Aside0 (Kd.R (Kd.int .i64) 3 w' w3.heap.size (fun _ => True) v7 row') ∧ Aside0 (Below w3.heap.size w3 w'))
                case atStart => exact ⟨0, [], rfl, ⟨Nat.zero_le _, rfl⟩, HROW, ⟨rfl⟩, HX12, HN12, HR12, HB12w⟩
                case round =>
                  obtain ⟨i, row', rfl, HI, HRR, HRL, HX', HN', HR', HB'⟩ := hrel
                  by_cases c2 : i < mn
                  · have c2b : decide ((i : Int) < (mn : Int)) = true := decide_eq_true (by omega)
                    have c2n : decide (i < mn) = true := decide_eq_true c2
                    have HC2 := Aside0.mk c2
                    obtain ⟨c, hc⟩ : ∃ c, mn - i = c + 1 := ⟨mn - i - 1, by omega⟩
                    have HCC := Aside0.mk hc
                    have h3 := HRR.out
                    rw [hc] at h3
                    simp only [so_row] at h3
                    obtain ⟨x, hx, h3⟩ := Option.bind_eq_some_iff.mp h3
                    have HXX := Aside0.mk (show slices_Index_string_string.f k st (s ++ (⟨#[97, 98, 99]⟩ : ByteArray).extract i (i + 1)) = some x from hx)
                    have HR3 := Aside0.mk (show so_row k st s (mn - (i + 1)) (i + 1) (row' ++ [max x 0]) = some row from by rw [show mn - (i + 1) = c by omega]; exact h3)
                    have i0 : (0 : Int) ≤ (i : Int) := by omega
                    have i3 : i < 3 := by have := HD2.out; omega
                    have w1' : wrap64 ((i : Int) + 1) = ((i + 1 : Nat) : Int) := by unfold wrap64; omega
                    have w2' : IntKind.i64.wrap ((i : Int) + 1) = (i : Int) + 1 := (Go.IntWalk.i64_left _).trans (Go.IntWalk.wrap64_in _ (by omega))
                    have t0 : (0 : Int) ≤ (i : Int) := i0
                    have t1 : (i : Int) ≤ (i : Int) + 1 := by omega
                    have t2 : (i : Int) + 1 ≤ 3 := by omega
                    have t3 : (0 : Int) ≤ (i : Int) + 1 := by omega
                    have s2 := eq_true (show (i : Int) + 1 ≤ 3 by omega)
                    have s4 := eq_true (show i + 1 ≤ 3 by omega)
                    have s5 := eq_true (show i < 3 by omega)
                    have s6 := eq_true (show i ≤ 2 by omega)
                    have s3 := eq_true i0
                    have hl1 : (letK i).size = 1 := (letK_fact i i3).1
                    have z3 : (9223372036854775807 < s.size + (letK i).size) = False := eq_false (by have := HD3.out; omega)
                    have z4 : (9223372036854775807 < s.size + ((⟨#[97, 98, 99]⟩ : ByteArray).extract i (i + 1)).size) = False := z3
                    have z5 : (9223372036854775807 < s.size + (i + 1 - i)) = False := eq_false (by have := HD3.out; omega)
                    have z6 : (9223372036854775807 < s.size + 1) = False := eq_false (by have := HD3.out; omega)
                    clear c2 hc h3 hx i0 i3 hl1 HRR
                    go_upto_region 13 with fail
                    have HS0 := Aside0.mk (show wr.cell? ⟨gb, 1, none⟩ = some (.slice (some ad) st.length c5) ∧ wr.cell? ⟨gb, 1, none⟩ = some (.slice (some ad) st.length c5) ∧ wr.cell? ⟨gb, 1, none⟩ = some (.slice (some ad) st.length c5) from ⟨(blk_cell HX'.out 1).trans rfl, (blk_cell HX'.out 1).trans rfl, (blk_cell HX'.out 1).trans rfl⟩)
                    have HST := Aside0.mk (Kd.R_reads' HO3.out).2
                    by_cases hx0 : x < 0
                    · have l1 := eq_true hx0
                      have l2 := eq_true (show (0 : Int) > x from hx0)
                      have HR4 := Aside0.mk (show so_row k st s (mn - (i + 1)) (i + 1) (row' ++ [0]) = some row from by rw [← show max x 0 = 0 by omega]; exact HR3.out)
                      clear hx0
                      go_region_held3 (fun w' => w'.cell? ⟨gb, 1, none⟩ = some (.slice (some ad) st.length c5) ∧ w'.cell? ⟨gb, 1, none⟩ = some (.slice (some ad) st.length c5) ∧ w'.cell? ⟨gb, 1, none⟩ = some (.slice (some ad) st.length c5))
                        (first | exact HS21.out | exact st_S HS0.out HB20.out | exact st_S HS0.out (below_alloc HB20.out _) | exact HS0.out | exact st_S HS0.out (below_drew (Below.refl _ _)))
                        (first
                          | (go_at_call 28; (with_reducible refine (slices_Index_string_string.calls k _ _ st (s ++ (⟨#[97, 98, 99]⟩ : ByteArray).extract i (i + 1)) x _ (Kd.C_below HST.out.2 (below_step HB'.out (below_drew (Below.refl _ _)))) HST.out.1 HXX.out).mono ?_); rintro e w20 ⟨rfl, hd20⟩; have HB20 := Aside0.mk (below_step (below_drew (Below.refl wr.heap.size wr)) (Drawn0.below hd20)); clear hd20)
                          | (refine st_append (w0 := w3) w3.heap.size 0 (Kd.R_below HR'.out HB20.out) (below_step HB'.out HB20.out) (Nat.le_trans HB'.out.size HB20.out.size) (by have := HRL.out; have := HD2.out; have := HC2.out; omega) rfl (.tmp 47) (.tmp 60) rfl (by rfl) (by rfl) ?_; intro vr2 w21 ho21 hb21 hg21 hat21; have HO21 := Aside0.mk ho21; have HB21 := Aside0.mk hb21; have HG21 := Aside0.mk hg21; have HAT21 := Aside0.mk hat21; have HS21 := Aside0.mk (st_G HS0.out HB20.out HG21.out (Kd.R_ne (Kd.R_below HR'.out HB20.out) ((HB20.out.block _ (blk_lt HX'.out)).trans HX'.out) (by decide))); clear ho21 hb21 hg21 hat21))
                      go_wp2
                      go_roundg (mn - (i + 1))
                      case measure => have := HI.out; have := HC2.out; omega
                      case rel => exact ⟨i + 1, row' ++ [0], by have := HC2.out; have := HD2.out; first | rfl | (simp; done) | (simp; unfold wrap64; omega), ⟨by have := HC2.out; omega, rfl⟩, HR4, ⟨by rw [List.length_append, HRL.out]; rfl⟩, ⟨(HG21.out.block gb (blk_lt ((HB20.out.block _ (blk_lt HX'.out)).trans HX'.out)) (Kd.R_ne (Kd.R_below HR'.out HB20.out) ((HB20.out.block _ (blk_lt HX'.out)).trans HX'.out) (by decide))).trans ((HB20.out.block _ (blk_lt HX'.out)).trans HX'.out)⟩, ⟨Kd.S_after (ok := fun _ => True) (Kd.S_below HN'.out HB20.out) HG21.out HAT21.out⟩, HO21, HB21⟩
                    · have l1 := eq_false hx0
                      have l2 := eq_false (show ¬ (0 : Int) > x from hx0)
                      have HR4 := Aside0.mk (show so_row k st s (mn - (i + 1)) (i + 1) (row' ++ [x]) = some row from by rw [← show max x 0 = x by omega]; exact HR3.out)
                      clear hx0
                      go_region_held3 (fun w' => w'.cell? ⟨gb, 1, none⟩ = some (.slice (some ad) st.length c5) ∧ w'.cell? ⟨gb, 1, none⟩ = some (.slice (some ad) st.length c5) ∧ w'.cell? ⟨gb, 1, none⟩ = some (.slice (some ad) st.length c5))
                        (first | exact HS21.out | exact st_S HS0.out HB20.out | exact st_S HS0.out (below_alloc HB20.out _) | exact HS0.out | exact st_S HS0.out (below_drew (Below.refl _ _)))
                        (first
                          | (go_at_call 28; (with_reducible refine (slices_Index_string_string.calls k _ _ st (s ++ (⟨#[97, 98, 99]⟩ : ByteArray).extract i (i + 1)) x _ (Kd.C_below HST.out.2 (below_step HB'.out (below_drew (Below.refl _ _)))) HST.out.1 HXX.out).mono ?_); rintro e w20 ⟨rfl, hd20⟩; have HB20 := Aside0.mk (below_step (below_drew (Below.refl wr.heap.size wr)) (Drawn0.below hd20)); clear hd20)
                          | (refine st_append (w0 := w3) w3.heap.size x (Kd.R_below HR'.out HB20.out) (below_step HB'.out HB20.out) (Nat.le_trans HB'.out.size HB20.out.size) (by have := HRL.out; have := HD2.out; have := HC2.out; omega) rfl (.tmp 47) (.tmp 60) rfl (by rfl) (by rfl) ?_; intro vr2 w21 ho21 hb21 hg21 hat21; have HO21 := Aside0.mk ho21; have HB21 := Aside0.mk hb21; have HG21 := Aside0.mk hg21; have HAT21 := Aside0.mk hat21; have HS21 := Aside0.mk (st_G HS0.out HB20.out HG21.out (Kd.R_ne (Kd.R_below HR'.out HB20.out) ((HB20.out.block _ (blk_lt HX'.out)).trans HX'.out) (by decide))); clear ho21 hb21 hg21 hat21))
                      go_wp2
                      go_roundg (mn - (i + 1))
                      case measure => have := HI.out; have := HC2.out; omega
                      case rel => exact ⟨i + 1, row' ++ [x], by have := HC2.out; have := HD2.out; first | rfl | (simp; done) | (simp; unfold wrap64; omega), ⟨by have := HC2.out; omega, rfl⟩, HR4, ⟨by rw [List.length_append, HRL.out]; rfl⟩, ⟨(HG21.out.block gb (blk_lt ((HB20.out.block _ (blk_lt HX'.out)).trans HX'.out)) (Kd.R_ne (Kd.R_below HR'.out HB20.out) ((HB20.out.block _ (blk_lt HX'.out)).trans HX'.out) (by decide))).trans ((HB20.out.block _ (blk_lt HX'.out)).trans HX'.out)⟩, ⟨Kd.S_after (ok := fun _ => True) (Kd.S_below HN'.out HB20.out) HG21.out HAT21.out⟩, HO21, HB21⟩
                  · have c2b : decide ((i : Int) < (mn : Int)) = false := decide_eq_false (by omega)
                    have c2n : decide (i < mn) = false := decide_eq_false c2
                    have h3 := HRR.out
                    rw [show mn - i = 0 by omega] at h3
                    simp only [so_row, Option.some.injEq] at h3
                    subst h3
                    have hcn : wr.cell? ⟨gb, 2, none⟩ = some vn := (blk_cell HX'.out 2).trans rfl
                    obtain ⟨Ar, cr, er⟩ := Kd.R_slice HR'.out
                    subst er
                    have HXT := Aside0.mk (Kd.S_typed HN'.out)
                    clear c2 HRR HROW
                    go_wp2_with ((with_reducible refine gate_builtin (b := .append) (xs := #[.tmp 67, .tmp 69]) rfl ?_); at_builtin; refine Kd.S_append (Kd.slice 3 (Kd.int .i64)) (w0 := w3) w3.heap.size rfl (.tmp 67) (.tmp 69) 32 42 (.slice none 0 0) 24 rfl Tryz.underlying32 (by kernel_rfl) rfl (by decide) (by omega) vn nx row' [.slice Ar row'.length cr] (fun _ => True) (fun k_ => some k_ = (Value.slice Ar row'.length cr).ownBlock) rfl rfl ?aP ?aK ?aF ?aO ?aB ?aS ?aL ?_; (case aP => exact Kd.M_row (Kd.R_tight rfl HR'.out)); (case aK => exact fun k_ hk_ => ⟨trivial, ((Kd.R_apart' HR'.out HXT.out (by decide)).1 k_ hk_.symm).2⟩); (case aF => exact fun _ _ => trivial); (case aO => exact Kd.S_mono HN'.out (fun k_ hk => ⟨trivial, fun e_ => hk.2 e_⟩)); (case aB => exact HB'.out); (case aS => exact HB'.out.size); (case aL => have := HN.out.2; have := HC1.out; have := HD2.out; omega); intro v31 w31 ho31 hb31 hg31 hat31; (obtain ⟨A31, c31, e31⟩ := Kd.S_slice ho31); subst e31; have HX31 := Aside0.mk ((hg31.block gb (blk_lt HX'.out) (Kd.S_ne HN'.out HX'.out (by decide))).trans HX'.out); have HO31 := Aside0.mk ho31; have HB31 := Aside0.mk hb31; have hcz : w31.cell? ⟨gb, 2, none⟩ = some vn := (blk_cell HX31.out 2).trans rfl; have hfz : w31.frozen? ⟨gb, 2, none⟩ = false := blk_frozen HX31.out 2; clear ho31 hb31 hg31 hat31)
                    go_roundg (st.length - (j + 1))
                    case measure => have := HJ.out; have := HC1.out; omega
                    case rel => exact ⟨j + 1, .slice A31 (nx ++ [row']).length c31, nx ++ [row'], by have := HC1.out; have := HD2.out; simp; unfold wrap64; omega, ⟨by have := HC1.out; omega, rfl⟩, HSR, ⟨by have h9 := blk_set HX31.out 2 (.slice A31 (nx.length + 1) c31); rw [List.length_append]; exact h9⟩, ⟨Kd.S_set HO31.out HX31.out (by decide) 2 _, by rw [List.length_append, HN.out.2]; rfl⟩, ⟨HB31.out.setCell (by show w3.heap.size ≤ gb; have := HGB.out; omega) _⟩⟩
              · rw [if_neg d3] at hsr
                exact absurd hsr (by simp)
            · have c1b : decide ((j : Int) < (st.length : Int)) = false := decide_eq_false (by omega)
              have c1n : decide (j < st.length) = false := decide_eq_false c1
              have h3 := HS.out
              rw [List.drop_of_length_le (by omega)] at h3
              simp only [so_rows, Option.some.injEq] at h3
              subst h3
              clear c1 HS A6
              go_wp2
              go_ret2
              refine ⟨below_step HB3.out HB.out, Or.inr ⟨_, st, nx, gb, rfl, rfl, ?_⟩⟩
              obtain ⟨A41, c41, e41, -, hC41⟩ := Kd.S_reads HN.out.1
              subst e41
              exact ⟨_, _, _, _, HX.out, Kd.C_below (Kd.R_reads' HO3.out).2.2 HB.out, hC41⟩
        · rw [if_neg d2] at H
          exact absurd H (by simp)
    · rw [if_neg d1] at H
      obtain rfl := Option.some.inj H
      have e1 : decide ((l0.length : Int) > 12) = true := decide_eq_true (by omega)
      have e2 : decide (12 < (l0.length : Int)) = true := decide_eq_true (by omega)
      have e3 : decide (12 < l0.length) = true := decide_eq_true (by omega)
      clear H d1
      go_enter Tryz.func14, Tryz.ntmps14
      (try simp only [List.append_eq, List.cons_append, List.nil_append])
      go_wp2_with (go_at_call 24; (with_reducible refine (impl_isSet.calls k _ _ l0 true _ HR0.out HC0.out A1.out).mono ?_); rintro e w1 ⟨rfl, hb1⟩; have HB1 := Aside0.mk hb1; clear hb1)
      go_ret2
      exact ⟨HB1.out, Or.inl ⟨rfl, rfl⟩⟩
theorem so_row.mono (k : Nat) (st : List ByteArray) (s : ByteArray) : ∀ (c i : Nat) (row : List Int), LeO (so_row k st s c i row) (so_row (k + 1) st s c i row)
  | 0, _, _ => LeO.refl _
  | c + 1, i, row => by
    unfold so_row
    exact LeO.bind (slices_Index_string_string.mono _ _ _) (fun _ => so_row.mono k st s c (i + 1) _)
theorem so_rows.mono (k : Nat) (st : List ByteArray) (many : Nat) : ∀ (r : List ByteArray) (nx : List (List Int)), LeO (so_rows k st many r nx) (so_rows (k + 1) st many r nx)
  | [], _ => LeO.refl _
  | s :: r, nx => by
    unfold so_rows
    refine LeO.ite (LeO.bind (so_row.mono k st s many 0 []) (fun _ => so_rows.mono k st many r _)) (LeO.refl _)
theorem impl_stepperOf.mono (l0 : List ByteArray) (k : Nat) : LeO (impl_stepperOf.f k l0) (impl_stepperOf.f (k + 1) l0) := by
  unfold impl_stepperOf.f
  refine LeO.bind (impl_isSet.mono _ _) (fun _ => LeO.ite (LeO.ite (LeO.bind (impl_letterCount.mono _ _) (fun _ => LeO.bind (impl_innerWords.mono _ _) (fun _ => LeO.bind (impl_isMaximalPrefix.mono _ _ _) (fun _ => LeO.ite (LeO.ite (LeO.bind (so_rows.mono _ _ _ _ _) (fun _ => LeO.refl _)) (LeO.refl _)) (LeO.refl _))))) (LeO.refl _)) (LeO.refl _))
theorem tg_outer.mono (nx : List (List Int)) (many : Nat) : ∀ (k : Nat) (ws : List (List Int × ByteArray)) (met : List Int), LeO (tg_outer nx many k ws met) (tg_outer nx many (k + 1) ws met)
  | 0, _, _ => LeO.none _
  | k + 1, [], _ => LeO.refl _
  | k + 1, (row, word) :: ws, met => by
    unfold tg_outer
    refine LeO.ite (LeO.refl _) (LeO.ite (LeO.bind (LeO.refl _) (fun p => tg_outer.mono nx many k p.1 p.2)) (LeO.refl _))
theorem tg_f.mono (nx : List (List Int)) (many : Nat) (xs : List Int) (k : Nat) : LeO (tg_f k nx many xs) (tg_f (k + 1) nx many xs) := by
  unfold tg_f
  exact LeO.bind (LeO.refl _) (fun _ => LeO.ite (tg_outer.mono nx many k _ _) (LeO.refl _))
/-- whether a number is from 0 to another -/
def inR (a c : Int) : Bool := decide (0 ≤ a ∧ a ≤ c)
theorem inR_f (a c : Int) : impl_in.f a 0 c = some (inR a c) := by
  unfold impl_in.f inR
  by_cases h : 0 ≤ a <;> simp [h]
/-- two states, from one to the other -/
def mw_two (nx : List (List Int)) (k many : Nat) (xs : List Int) : Option (ByteArray × Bool) := if (many = 2 ∨ many = 3) ∧ (∀ row ∈ nx, row.length = many) then tg_f k nx many xs else none
theorem mw_two.mono (nx : List (List Int)) (many : Nat) (xs : List Int) (k : Nat) : LeO (mw_two nx k many xs) (mw_two nx (k + 1) many xs) := by
  unfold mw_two
  exact LeO.ite (tg_f.mono nx many xs k) (LeO.refl _)
def impl_MeetingWord.g (k : Nat) (a1 a2 : Int) : Option (Int × List ByteArray × List (List Int)) → Option (ByteArray × Bool)
  | none => some (⟨#[]⟩, false)
  | some (m, st, nx) => if st.length ≤ 1000 ∧ 0 ≤ m then (if inR a1 ((st.length : Int) - 1) = true then (if inR a2 ((st.length : Int) - 1) = true then mw_two nx k m.toNat (dd [min a1 a2, max a1 a2]) else some (⟨#[]⟩, false)) else some (⟨#[]⟩, false)) else none
def impl_MeetingWord.f (k : Nat) (l0 : List ByteArray) (a1 a2 : Int) : Option (ByteArray × Bool) := (impl_stepperOf.f k l0).bind fun r => impl_MeetingWord.g k a1 a2 r
theorem impl_MeetingWord.g_mono (a1 a2 : Int) (k : Nat) : ∀ r, LeO (impl_MeetingWord.g k a1 a2 r) (impl_MeetingWord.g (k + 1) a1 a2 r)
  | none => LeO.refl _
  | some (m, st, nx) => by
    unfold impl_MeetingWord.g
    exact LeO.ite (LeO.ite (LeO.ite (mw_two.mono nx _ _ k) (LeO.refl _)) (LeO.refl _)) (LeO.refl _)
theorem impl_MeetingWord.mono : ∀ a0 a1 a2 k, LeO (impl_MeetingWord.f k a0 a1 a2) (impl_MeetingWord.f (k + 1) a0 a1 a2) := fun a0 a1 a2 k => by
  unfold impl_MeetingWord.f
  exact LeO.bind (impl_stepperOf.mono a0 k) (fun r => impl_MeetingWord.g_mono a1 a2 k r)
theorem mw_rows {nx : List (List Int)} {many : Nat} (h : ∀ row ∈ nx, row.length = many) (x : Int) (h0 : 0 ≤ x) (h1 : x < nx.length) : (rd_L2 nx x).length = many := by
  unfold rd_L2
  have h2 : x.toNat < nx.length := by omega
  have e : (rdOf [] nx x : List Int) = nx[x.toNat] := by
    unfold rdOf
    simp [h2]
  first
    | (rw [e]; exact h _ (List.getElem_mem h2))
    | (simp [h2]; exact h _ (List.getElem_mem h2))
/-- each two states, from one on -/
def cs_in (nx : List (List Int)) (k many i : Nat) : Nat → Nat → Option Bool
  | 0, _ => some true
  | c + 1, j => (mw_two nx k many [(j : Int), (i : Int)]).bind fun p => if p.2 = true then cs_in nx k many i c (j + 1) else some false
def cs_out (nx : List (List Int)) (k many : Nat) : Nat → Nat → Option Bool
  | 0, _ => some true
  | c + 1, i => (cs_in nx k many i i 0).bind fun b => if b = true then cs_out nx k many c (i + 1) else some false
def impl_CanBeInStep.g (k : Nat) : Option (Int × List ByteArray × List (List Int)) → Option (Bool × Bool)
  | none => some (false, false)
  | some (m, st, nx) => if st.length ≤ 1000 ∧ 0 ≤ m then (cs_out nx k m.toNat st.length 0).bind fun b => some (b, true) else none
def impl_CanBeInStep.f (k : Nat) (l0 : List ByteArray) : Option (Bool × Bool) := (impl_stepperOf.f k l0).bind fun r => impl_CanBeInStep.g k r
theorem cs_in.mono (nx : List (List Int)) (k many i : Nat) : ∀ c j, LeO (cs_in nx k many i c j) (cs_in nx (k + 1) many i c j)
  | 0, _ => LeO.refl _
  | c + 1, j => by
    unfold cs_in
    exact LeO.bind (mw_two.mono _ _ _ _) (fun _ => LeO.ite (cs_in.mono nx k many i c (j + 1)) (LeO.refl _))
theorem cs_out.mono (nx : List (List Int)) (k many : Nat) : ∀ c i, LeO (cs_out nx k many c i) (cs_out nx (k + 1) many c i)
  | 0, _ => LeO.refl _
  | c + 1, i => by
    unfold cs_out
    exact LeO.bind (cs_in.mono nx k many i i 0) (fun _ => LeO.ite (cs_out.mono nx k many c (i + 1)) (LeO.refl _))
theorem impl_CanBeInStep.g_mono (k : Nat) : ∀ r, LeO (impl_CanBeInStep.g k r) (impl_CanBeInStep.g (k + 1) r)
  | none => LeO.refl _
  | some (m, st, nx) => by
    unfold impl_CanBeInStep.g
    exact LeO.ite (LeO.bind (cs_out.mono _ _ _ _ _) (fun _ => LeO.refl _)) (LeO.refl _)
theorem impl_CanBeInStep.mono : ∀ a0 k, LeO (impl_CanBeInStep.f k a0) (impl_CanBeInStep.f (k + 1) a0) := fun a0 k => by
  unfold impl_CanBeInStep.f
  exact LeO.bind (impl_stepperOf.mono a0 k) (fun r => impl_CanBeInStep.g_mono k r)
set_option maxHeartbeats 8000000 in
set_option maxRecDepth 100000 in
theorem impl_CanBeInStep.calls (k : Nat) (A0 : Option Addr) (c0 : Nat) (l0 : List ByteArray) (r1 : Bool) (r2 : Bool) (w : World) (hr0 : Kd.C Kd.string w A0 l0.length l0) (hc0 : l0.length ≤ c0) (h : impl_CanBeInStep.f k l0 = some (r1, r2)) :
    Calls Tryz.prog 8 #[.slice A0 l0.length c0] w fun e w' => e = .returned (.tuple #[.bool r1, .bool r2]) ∧ Below w.heap.size w w' := by
  unfold impl_CanBeInStep.f at h
  obtain ⟨r, hr, H⟩ := Option.bind_eq_some_iff.mp h
  have hso := impl_stepperOf.calls' k A0 c0 l0 r w hr0 hc0 hr
  clear h hr hr0 hc0
  match r, hso, H with
  | none, hso, H =>
    unfold impl_CanBeInStep.g at H
    simp only [Option.some.injEq, Prod.mk.injEq] at H
    obtain ⟨rfl, rfl⟩ := H
    go_enter Tryz.func8, Tryz.ntmps8
    go_wp2_with (go_at_call 14; (with_reducible refine hso.mono ?_); rintro e w1 ⟨hb1, hs1⟩; (obtain rfl : e = .returned (.tuple #[.pointer none, .bool false]) := by (rcases hs1 with ⟨-, h⟩ | ⟨m, st, nx, gs, h, -⟩; exact h; cases h)); have HB1 := Aside0.mk hb1; clear hb1 hs1)
    go_ret2
    exact ⟨rfl, HB1.out⟩
  | some (m, st, nx), hso, H =>
    replace H : (if st.length ≤ 1000 ∧ 0 ≤ m then (cs_out nx k m.toNat st.length 0).bind fun b => some (b, true) else none) = some (r1, r2) := H
    by_cases d1 : st.length ≤ 1000 ∧ 0 ≤ m
    · rw [if_pos d1] at H
      have HD1 := Aside0.mk d1
      obtain ⟨b, hb, H⟩ := Option.bind_eq_some_iff.mp H
      simp only [Option.some.injEq, Prod.mk.injEq] at H
      obtain ⟨rfl, rfl⟩ := H
      have HO := Aside0.mk hb
      clear hb d1
      go_enter Tryz.func8, Tryz.ntmps8
      go_upto_region 4 with (go_at_call 14; (with_reducible refine hso.mono ?_); rintro e w1 ⟨hb1, hs1⟩; (obtain ⟨gs, rfl, hst⟩ : ∃ gs, e = .returned (.tuple #[.pointer (some ⟨gs, 0, none⟩), .bool true]) ∧ StBox w1 gs m st nx := by (rcases hs1 with ⟨h, -⟩ | ⟨m', st', nx', gs, h, h2, h3⟩; cases h; (injection h with h; injection h with e1 e2; injection e2 with e2 e3; subst e1 e2 e3; exact ⟨gs, h2, h3⟩))); have HB1 := Aside0.mk hb1; have HST := Aside0.mk hst; clear hb1 hs1 hst)
      clear hso
      obtain ⟨As, cs, hcs⟩ : ∃ As cs, w1.cell? ⟨gs, 1, none⟩ = some (.slice As st.length cs) := by
        obtain ⟨B1, cc1, B2, cc2, hh, -⟩ := HST.out
        exact ⟨B1, cc1, st_cell hh 1 _ rfl⟩
      go_upto_region 5 with fail
      clear hcs
      go_loopg [22] st.length (fun kq v22 w' => ∃ (i : Nat), v22 = .int .i64 (i : Int) ∧ Aside0 (i ≤ st.length ∧ kq = st.length - i) ∧ Aside0 (cs_out nx k m.toNat (st.length - i) i = some b) ∧ Aside0 (Below w1.heap.size w1 w'))
      case atStart => exact ⟨0, rfl, ⟨Nat.zero_le _, rfl⟩, HO, ⟨Below.refl _ _⟩⟩
      case round =>
        obtain ⟨i, rfl, HI, HH, HB⟩ := hrel
        by_cases c1 : i < st.length
        · have c1b : decide ((i : Int) < (st.length : Int)) = true := decide_eq_true (by omega)
          have c1n : decide (i < st.length) = true := decide_eq_true c1
          have HC1 := Aside0.mk c1
          obtain ⟨c, hc⟩ : ∃ c, st.length - i = c + 1 := ⟨st.length - i - 1, by omega⟩
          have h3 := HH.out
          rw [hc] at h3
          simp only [cs_out] at h3
          obtain ⟨bi, hbi, h3⟩ := Option.bind_eq_some_iff.mp h3
          have HBI := Aside0.mk hbi
          have HNEXT := Aside0.mk (show (if bi = true then cs_out nx k m.toNat (st.length - (i + 1)) (i + 1) else some false) = some b from by rw [show st.length - (i + 1) = c by omega]; exact h3)
          clear hc h3 hbi c1 HH
          go_upto_region 8 with fail
          clear c1b c1n
          go_loopg [26] i (fun kq v26 w' => ∃ (j : Nat), v26 = .int .i64 (j : Int) ∧ Aside0 (j ≤ i ∧ kq = i - j) ∧ Aside0 (cs_in nx k m.toNat i (i - j) j = some bi) ∧ Aside0 (Below w1.heap.size w1 w'))
          case atStart => exact ⟨0, rfl, ⟨Nat.zero_le _, rfl⟩, HBI, HB⟩
          case round =>
            obtain ⟨j, rfl, HJ, HH, HB'⟩ := hrel
            by_cases c2 : j < i
            · have c2b : decide ((j : Int) < (i : Int)) = true := decide_eq_true (by omega)
              have c2n : decide (j < i) = true := decide_eq_true c2
              have HC2 := Aside0.mk c2
              obtain ⟨c, hc⟩ : ∃ c, i - j = c + 1 := ⟨i - j - 1, by omega⟩
              have h3 := HH.out
              rw [hc] at h3
              simp only [cs_in] at h3
              obtain ⟨p, hp, h3⟩ := Option.bind_eq_some_iff.mp h3
              unfold mw_two at hp
              by_cases d2 : (m.toNat = 2 ∨ m.toNat = 3) ∧ ∀ row ∈ nx, row.length = m.toNat
              · rw [if_pos d2] at hp
                have HD2 := Aside0.mk d2
                obtain ⟨p1, p2⟩ := p
                have HP := Aside0.mk hp
                have H3 := Aside0.mk (show (if p2 = true then cs_in nx k m.toNat i (i - (j + 1)) (j + 1) else some false) = some bi from by rw [show i - (j + 1) = c by omega]; exact h3)
                clear d2 hp h3 hc c2 HH
                go_upto_region 10 with fail
                have hR4 : RowAt (wr.alloc (.cells #[.int .i64 (j : Int), .int .i64 (i : Int)] 3)) wr.heap.size wr.heap.size 0 2 #[.int .i64 (j : Int), .int .i64 (i : Int)] [(j : Int), (i : Int)] := ⟨Nat.le_refl _, st_new _ _, Nat.le_refl _, fun _ => Nat.le_refl _, by unfold maxLen; omega, fun q hq => by
                  have hj2 : q < 2 := by simpa using hq
                  rcases (show q = 0 ∨ q = 1 by omega) with rfl | rfl <;> rfl⟩
                have HR4 := Aside0.mk hR4
                have HB4 := Aside0.mk (below_step HB'.out (below_alloc (Below.refl _ wr) (.cells #[.int .i64 (j : Int), .int .i64 (i : Int)] 3)))
                clear hR4
                cases p2 with
                | true =>
                  have h4 := H3.out
                  rw [if_pos rfl] at h4
                  have H4 := Aside0.mk h4
                  clear h4 H3
                  have htog : Calls Tryz.prog 15 #[.pointer (some ⟨gs, 0, none⟩), .slice (some ⟨wr.heap.size, 0, none⟩) 2 2] _ _ := together_calls (HST.out.below HB4.out) m.toNat (by have := HD1.out; omega) HD2.out.1 (mw_rows HD2.out.2) k [(j : Int), (i : Int)] HR4.out p1 true HP.out
                  go_wp2_with (go_at_call 15; (with_reducible refine htog.mono ?_); rintro e w6 ⟨rfl, hb6⟩; have HB6 := Aside0.mk (below_step HB4.out hb6); clear hb6)
                  go_roundg (i - (j + 1))
                  case measure => have := HJ.out; have := HC2.out; omega
                  case rel => exact ⟨j + 1, by have := HC2.out; have := HC1.out; have := HD1.out; first | rfl | (simp; done) | (simp; unfold wrap64; omega), ⟨by have := HC2.out; omega, rfl⟩, H4, HB6⟩
                | false =>
                  have h4 := H3.out
                  rw [if_neg (by simp)] at h4
                  obtain rfl := Option.some.inj h4
                  have h5 := HNEXT.out
                  rw [if_neg (by simp)] at h5
                  obtain rfl := Option.some.inj h5
                  clear h4 h5 H3
                  have htog : Calls Tryz.prog 15 #[.pointer (some ⟨gs, 0, none⟩), .slice (some ⟨wr.heap.size, 0, none⟩) 2 2] _ _ := together_calls (HST.out.below HB4.out) m.toNat (by have := HD1.out; omega) HD2.out.1 (mw_rows HD2.out.2) k [(j : Int), (i : Int)] HR4.out p1 false HP.out
                  go_wp2_with (go_at_call 15; (with_reducible refine htog.mono ?_); rintro e w6 ⟨rfl, hb6⟩; have HB6 := Aside0.mk (below_step HB4.out hb6); clear hb6)
                  go_ret2
                  exact ⟨rfl, below_step HB1.out HB6.out⟩
              · rw [if_neg d2] at hp
                exact absurd hp (by simp)
            · have c2b : decide ((j : Int) < (i : Int)) = false := decide_eq_false (by omega)
              have c2n : decide (j < i) = false := decide_eq_false c2
              have h3 := HH.out
              rw [show i - j = 0 by omega] at h3
              simp only [cs_in, Option.some.injEq] at h3
              subst h3
              have h5 := HNEXT.out
              rw [if_pos rfl] at h5
              have H5 := Aside0.mk h5
              clear h5 c2 HH
              go_wp2
              go_roundg (st.length - (i + 1))
              case measure => have := HI.out; have := HC1.out; omega
              case rel => exact ⟨i + 1, by have := HC1.out; have := HD1.out; first | rfl | (simp; done) | (simp; unfold wrap64; omega), ⟨by have := HC1.out; omega, rfl⟩, H5, HB'⟩
        · have c1b : decide ((i : Int) < (st.length : Int)) = false := decide_eq_false (by omega)
          have c1n : decide (i < st.length) = false := decide_eq_false c1
          have h3 := HH.out
          rw [show st.length - i = 0 by omega] at h3
          simp only [cs_out, Option.some.injEq] at h3
          subst h3
          clear c1 HH
          go_wp2
          go_ret2
          exact ⟨rfl, below_step HB1.out HB.out⟩
    · rw [if_neg d1] at H
      exact absurd H (by simp)

end Go.Proofs.YthlldokmjpfilaaGreatDoor.XFnExactCanBeInStep
