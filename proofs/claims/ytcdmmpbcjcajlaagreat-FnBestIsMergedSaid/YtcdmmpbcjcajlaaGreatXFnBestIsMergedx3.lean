-- Cut out of longer texts by a program of this session (wip/shake.py): what the claim uses.
import Derived.Test.YtcdmmpbcjcajlaaGreatXFnBestIsMergedx0
import Derived.Test.YtcdmmpbcjcajlaaGreatXFnBestIsMergedx2
namespace Go.Proofs.YtcdmmpbcjcajlaaGreat.XFnBestIsMerged
open Go.RowKit Go.Proofs.YtcdmmpbcjcajlaaGreat.Hand Go.Proofs.YtcdmmpbcjcajlaaGreatW.PrintWords Go.Proofs.YtcdmmpbcjcajlaaGreatW.PrintLast Go.Proofs.YtcdmmpbcjcajlaaGreatW.PrintMore
attribute [local go_sem] max2_int min2_int max_two min_two max_three min_three max_four min_four   -- for this text's walks alone
set_option linter.unusedVariables false
set_option linter.unusedSimpArgs false
open Go.Proofs.YtcdmmpbcjcajlaaGreat.Hand
mutual
def impl_allBest.add : Nat → List Int → Int → Int → List Int → Int → Int → List (List Int) → Option (List (List Int))
  | 0, _, _, _, _, _, _, _ => none
  | q + 1, ws, due, m, done, cost, left, out => if done.length ≤ ws.length ∧ ws.length ≤ 12 ∧ out.length ≤ 1000000000000 then (if done.length = ws.length then (if cost = due then some (out ++ [done]) else some out) else impl_allBest.loop q ws due m done cost left out 1) else none
def impl_allBest.loop : Nat → List Int → Int → Int → List Int → Int → Int → List (List Int) → Nat → Option (List (List Int))
  | 0, _, _, _, _, _, _, _, _ => none
  | q + 1, ws, due, m, done, cost, left, out, l => if l ≤ 11 then (if wrap64 (cost + wrap64 (rd ws done.length * (l : Int))) ≤ due then ((impl_power.f q m (11 - (l : Int))).bind fun p => if p ≤ left then ((impl_allBest.add q ws due m (done ++ [(l : Int)]) (wrap64 (cost + wrap64 (rd ws done.length * (l : Int)))) (wrap64 (left - p)) out).bind fun o => impl_allBest.loop q ws due m done cost left o (l + 1)) else impl_allBest.loop q ws due m done cost left out (l + 1)) else some out) else some out
end
def impl_allBest.f (k : Nat) (l0 : List Int) (a1 : Int) : Option (List (List Int)) := (impl_bestCost.f k l0 a1).bind fun due => (impl_power.f k a1 11).bind fun p => impl_allBest.add k l0 due a1 [] 0 p []
theorem impl_allBest.mono_l : ∀ k, (∀ ws due m done cost left out, LeO (impl_allBest.add k ws due m done cost left out) (impl_allBest.add (k + 1) ws due m done cost left out)) ∧ (∀ ws due m done cost left out l, LeO (impl_allBest.loop k ws due m done cost left out l) (impl_allBest.loop (k + 1) ws due m done cost left out l))
  | 0 => ⟨fun _ _ _ _ _ _ _ r h => by simp [impl_allBest.add] at h, fun _ _ _ _ _ _ _ _ r h => by simp [impl_allBest.loop] at h⟩
  | k + 1 => by
    obtain ⟨ih1, ih2⟩ := impl_allBest.mono_l k
    refine ⟨fun ws due m done cost left out => ?_, fun ws due m done cost left out l => ?_⟩
    · unfold impl_allBest.add
      exact LeO.ite (LeO.ite (LeO.refl _) (ih2 _ _ _ _ _ _ _ _)) (LeO.refl _)
    · unfold impl_allBest.loop
      exact LeO.ite (LeO.ite (LeO.bind (impl_power.mono _ _ _) fun p => LeO.ite (LeO.bind (ih1 _ _ _ _ _ _ _) fun o => ih2 _ _ _ _ _ _ _ _) (ih2 _ _ _ _ _ _ _ _)) (LeO.refl _)) (LeO.refl _)
theorem impl_allBest.mono : ∀ a0 a1 k, LeO (impl_allBest.f k a0 a1) (impl_allBest.f (k + 1) a0 a1) := by
  intro a0 a1 k
  unfold impl_allBest.f
  exact LeO.bind (impl_bestCost.mono _ _ _) fun b => LeO.bind (impl_power.mono _ _ _) fun p => (impl_allBest.mono_l k).1 _ _ _ _ _ _ _
structure AbBox (w0 w : World) (ws : List Int) (A0 : Option Addr) (c0 : Nat) (due m : Int) (Bw Bd Bo Bm Bf : Nat) (vo : Value) (out : List (List Int)) (okO : Nat → Prop) : Prop where
  hw : w.heap[Bw]? = some (.cells #[.slice A0 ws.length c0] 24 (0, 0))
  hd : w.heap[Bd]? = some (.cells #[.int .i64 due] 3 (0, 0))
  ho : w.heap[Bo]? = some (.cells #[vo] 52 (0, 0))
  hm : w.heap[Bm]? = some (.cells #[.int .i64 m] 3 (0, 0))
  hf : w.heap[Bf]? = some (.cells #[.func (.func 55) #[] #[.pointer (some ⟨Bw, 0, none⟩), .pointer (some ⟨Bd, 0, none⟩), .pointer (some ⟨Bo, 0, none⟩), .pointer (some ⟨Bm, 0, none⟩), .pointer (some ⟨Bf, 0, none⟩)]] 68 (0, 0))
  ge : w0.heap.size ≤ Bo
  ne : Bw ≠ Bo ∧ Bd ≠ Bo ∧ Bm ≠ Bo ∧ Bf ≠ Bo
  bel : Below w0.heap.size w0 w
  row : Kd.C (Kd.int .i64) w0 A0 ws.length ws
  own : Kd.S (Kd.slice 3 (Kd.int .i64)) 24 w w0.heap.size okO vo out
  far : ∀ k, okO k → k ≠ Bw ∧ k ≠ Bd ∧ k ≠ Bo ∧ k ≠ Bm ∧ k ≠ Bf
theorem ab_cell {w : World} {g : Nat} {cur : Array Value} {t : TypeId} (h : w.heap[g]? = some (.cells cur t (0, 0))) (j : Nat) (v : Value) (hv : cur[j]? = some v) : w.cell? ⟨g, j, none⟩ = some v := (blk_cell h j).trans hv
theorem AbBox.step {w0 w w' : World} {ws : List Int} {A0 : Option Addr} {c0 : Nat} {due m : Int} {Bw Bd Bo Bm Bf : Nat} {vo : Value} {out : List (List Int)} {okO : Nat → Prop} (h : AbBox w0 w ws A0 c0 due m Bw Bd Bo Bm Bf vo out okO) (hb : Below w0.heap.size w0 w')
    (hk : ∀ k, k < w.heap.size → (k = Bw ∨ k = Bd ∨ k = Bo ∨ k = Bm ∨ k = Bf ∨ okO k) → w'.heap[k]? = w.heap[k]?) : AbBox w0 w' ws A0 c0 due m Bw Bd Bo Bm Bf vo out (fun k => okO k ∧ k < w.heap.size) where
  hw := (hk _ (blk_lt h.hw) (by simp)).trans h.hw
  hd := (hk _ (blk_lt h.hd) (by simp)).trans h.hd
  ho := (hk _ (blk_lt h.ho) (by simp)).trans h.ho
  hm := (hk _ (blk_lt h.hm) (by simp)).trans h.hm
  hf := (hk _ (blk_lt h.hf) (by simp)).trans h.hf
  ge := h.ge
  ne := h.ne
  bel := hb
  row := h.row
  own := Kd.S_mono (Kd.S_move (Kd.S_bound h.own) (fun k hk' => hk k hk'.2.2.1 (by simp [hk'.1]))) (fun k hk' => ⟨hk'.1, hk'.2.2.1⟩)
  far := fun k hk' => h.far k hk'.1
def AbKeep (w w' : World) (g Bo : Nat) (okO : Nat → Prop) : Prop := w.heap.size ≤ w'.heap.size ∧ ∀ k, k < w.heap.size → k ≠ g → k ≠ Bo → ¬ okO k → w'.heap[k]? = w.heap[k]?
def AbDone (w0 w w' : World) (ws : List Int) (A0 : Option Addr) (c0 : Nat) (due m : Int) (Bw Bd Bo Bm Bf g cap : Nat) (cur : Array Value) (done : List Int) (okO : Nat → Prop) (out : List (List Int)) : Prop :=
  ∃ vo okR curR, AbBox w0 w' ws A0 c0 due m Bw Bd Bo Bm Bf vo out okR ∧ (∀ k, okR k → okO k ∨ w.heap.size ≤ k) ∧ RowAt w' w0.heap.size g 0 cap curR done ∧ curR.size = cur.size ∧ AbKeep w w' g Bo okO
theorem AbDone.start {w0 w : World} {ws : List Int} {A0 : Option Addr} {c0 : Nat} {due m : Int} {Bw Bd Bo Bm Bf g cap : Nat} {cur : Array Value} {done : List Int} {okO : Nat → Prop} {out : List (List Int)} {vo : Value} (h : AbBox w0 w ws A0 c0 due m Bw Bd Bo Bm Bf vo out okO) (hr : RowAt w w0.heap.size g 0 cap cur done) :
    AbDone w0 w w ws A0 c0 due m Bw Bd Bo Bm Bf g cap cur done okO out := ⟨vo, okO, cur, h, fun _ hk => Or.inl hk, hr, rfl, Nat.le_refl _, fun _ _ _ _ _ => rfl⟩
theorem AbDone.drew {w0 w w' : World} {ws : List Int} {A0 : Option Addr} {c0 : Nat} {due m : Int} {Bw Bd Bo Bm Bf g cap : Nat} {cur : Array Value} {done : List Int} {okO : Nat → Prop} {out : List (List Int)} (h : AbDone w0 w w' ws A0 c0 due m Bw Bd Bo Bm Bf g cap cur done okO out) (j : Nat) :
    AbDone w0 w (w'.drewN j) ws A0 c0 due m Bw Bd Bo Bm Bf g cap cur done okO out := by
  obtain ⟨vo, okR, curR, hb, hs, hr, hz, hk⟩ := h
  exact ⟨vo, okR, curR, ⟨hb.hw, hb.hd, hb.ho, hb.hm, hb.hf, hb.ge, hb.ne, pw_below_drewN hb.bel j, hb.row, Kd.S_drewN hb.own j, hb.far⟩, hs, hr.move rfl, hz, hk⟩
theorem AbDone.round {w0 w wr W8 W9 : World} {ws : List Int} {A0 : Option Addr} {c0 : Nat} {due m x : Int} {Bw Bd Bo Bm Bf g cap g1 cap1 : Nat} {cur curR cur1 : Array Value} {done : List Int} {okO okR : Nat → Prop} {out' : List (List Int)}
    (hsub : ∀ k, okR k → okO k ∨ w.heap.size ≤ k) (hrow : RowAt wr w0.heap.size g 0 cap curR done) (hsz : curR.size = cur.size) (hkeep : AbKeep w wr g Bo okO) (hg : g ≠ Bo) (hno : ¬ okR g)
    (hgr : wr.grownBy W8 (some g)) (hcase : (g1 = g ∧ cap1 = cap ∧ cur1.size = curR.size) ∨ (wr.heap.size ≤ g1 ∧ W8.heap[g]? = wr.heap[g]?))
    (h2 : AbDone w0 W8 W9 ws A0 c0 due m Bw Bd Bo Bm Bf g1 cap1 cur1 (done ++ [x]) (fun k => okR k ∧ k < wr.heap.size) out') :
    AbDone w0 w W9 ws A0 c0 due m Bw Bd Bo Bm Bf g cap cur done okO out' := by
  obtain ⟨vo', ok', cur', hb', hs', hr', hz', hk1, hk2⟩ := h2
  have hgs := hgr.size
  have hlt := hrow.lt
  have hks := hkeep.1
  have hk9 : ∀ k, k < w.heap.size → k ≠ g → k ≠ Bo → ¬ okO k → k ≠ g1 → W9.heap[k]? = w.heap[k]? := fun k h1 h2 h3 h4 h5 =>
    (hk2 k (by omega) h5 h3 (fun h6 => by rcases hsub k h6.1 with h7 | h7; exact h4 h7; omega)).trans ((hgr.block k (by omega) (fun e => h2 (by injection e))).trans (hkeep.2 k h1 h2 h3 h4))
  have hsub' : ∀ k, ok' k → okO k ∨ w.heap.size ≤ k := fun k hk => by
    rcases hs' k hk with h1 | h1
    · exact hsub k h1.1
    · exact Or.inr (by omega)
  rcases hcase with ⟨rfl, rfl, hc⟩ | ⟨hc1, hc2⟩
  · refine ⟨vo', ok', cur', hb', hsub', ?_, by omega, by omega, fun k h1 h2 h3 h4 => hk9 k h1 h2 h3 h4 h2⟩
    have := hr'.take done.length
    rwa [List.take_left] at this
  · refine ⟨vo', ok', curR, hb', hsub', hrow.move ?_, hsz, by omega, fun k h1 h2 h3 h4 => hk9 k h1 h2 h3 h4 (by omega)⟩
    exact (hk2 g (by omega) (by omega) hg (fun h => hno h.1)).trans hc2
theorem AbBox.next {w0 wr W8 : World} {ws : List Int} {A0 : Option Addr} {c0 : Nat} {due m : Int} {Bw Bd Bo Bm Bf g : Nat} {vo : Value} {out : List (List Int)} {okR : Nat → Prop} (h : AbBox w0 wr ws A0 c0 due m Bw Bd Bo Bm Bf vo out okR)
    (hg : g ≠ Bw ∧ g ≠ Bd ∧ g ≠ Bo ∧ g ≠ Bm ∧ g ≠ Bf) (hno : ¬ okR g) (hge : w0.heap.size ≤ g) (hgr : wr.grownBy W8 (some g)) : AbBox w0 W8 ws A0 c0 due m Bw Bd Bo Bm Bf vo out (fun k => okR k ∧ k < wr.heap.size) := by
  refine h.step (h.bel.grown hgr h.bel.size (fun k e => by injection e with e; omega)) (fun k hk hc => hgr.block k hk (fun e => ?_))
  injection e with e
  subst e
  obtain ⟨n1, n2, n3, n4, n5⟩ := hg
  rcases hc with hc | hc | hc | hc | hc | hc
  · exact n1 hc
  · exact n2 hc
  · exact n3 hc
  · exact n4 hc
  · exact n5 hc
  · exact hno hc
theorem AbBox.leaf {w0 w w12 w13 : World} {ws : List Int} {A0 : Option Addr} {c0 : Nat} {due m : Int} {Bw Bd Bo Bm Bf g cap : Nat} {cur : Array Value} {done : List Int} {okO : Nat → Prop} {out : List (List Int)} {vo v13 : Value} (h : AbBox w0 w ws A0 c0 due m Bw Bd Bo Bm Bf vo out okO) (hr : RowAt w w0.heap.size g 0 cap cur done)
    (hg : g ≠ Bw ∧ g ≠ Bd ∧ g ≠ Bo ∧ g ≠ Bm ∧ g ≠ Bf) (hno : ¬ okO g) (hb12 : Below w.heap.size w w12) (hS : Kd.S (Kd.slice 3 (Kd.int .i64)) 24 w13 w0.heap.size (fun k => okO k ∨ w.heap.size ≤ k) v13 (out ++ [done])) (hB : Below w0.heap.size w0 w13) (hgr : w12.grownBy w13 vo.ownBlock) :
    AbDone w0 w (w13.setCell ⟨Bo, 0, none⟩ v13) ws A0 c0 due m Bw Bd Bo Bm Bf g cap cur done okO (out ++ [done]) := by
  have hs12 := hb12.size
  have hs13 := hgr.size
  have hok : ∀ k, vo.ownBlock = some k → okO k := (Kd.S_R h.own).1
  have hk13 : ∀ k, k < w.heap.size → ¬ okO k → w13.heap[k]? = w.heap[k]? := fun k h1 h2 => (hgr.block k (by omega) (fun e => h2 (hok k e.symm))).trans (hb12.block k h1)
  have hk14 : ∀ k, k < w.heap.size → k ≠ Bo → ¬ okO k → (w13.setCell ⟨Bo, 0, none⟩ v13).heap[k]? = w.heap[k]? := fun k h1 h2 h3 => (Below.heap_setCell w13 ⟨Bo, 0, none⟩ v13 k h2).trans (hk13 k h1 h3)
  have lw := blk_lt h.hw
  have ld := blk_lt h.hd
  have lo := blk_lt h.ho
  have lm := blk_lt h.hm
  have lf := blk_lt h.hf
  obtain ⟨n1, n2, n3, n4⟩ := h.ne
  have far' : ∀ k, okO k ∨ w.heap.size ≤ k → k ≠ Bw ∧ k ≠ Bd ∧ k ≠ Bo ∧ k ≠ Bm ∧ k ≠ Bf := fun k hk => by
    rcases hk with hk | hk
    · exact h.far k hk
    · exact ⟨by omega, by omega, by omega, by omega, by omega⟩
  refine ⟨v13, fun k => okO k ∨ w.heap.size ≤ k, cur, ⟨?_, ?_, ?_, ?_, ?_, h.ge, h.ne, hB.setCell h.ge _, h.row, Kd.S_far (p := ⟨Bo, 0, none⟩) hS (fun k hk => (far' k hk).2.2.1) _, far'⟩, fun _ hk => hk, hr.move (hk14 g hr.lt hg.2.2.1 hno), rfl, by simpa [World.setCell] using Nat.le_trans hs12 hs13, fun k h1 h2 h3 h4 => hk14 k h1 h3 h4⟩
  · exact (hk14 _ lw n1 (fun h9 => (h.far _ h9).1 rfl)).trans h.hw
  · exact (hk14 _ ld n2 (fun h9 => (h.far _ h9).2.1 rfl)).trans h.hd
  · exact blk_set ((hk13 _ lo (fun h9 => (h.far _ h9).2.2.1 rfl)).trans h.ho) 0 v13
  · exact (hk14 _ lm n3 (fun h9 => (h.far _ h9).2.2.2.1 rfl)).trans h.hm
  · exact (hk14 _ lf n4 (fun h9 => (h.far _ h9).2.2.2.2 rfl)).trans h.hf
theorem ab_R {w : World} {base g cap : Nat} {cur : Array Value} {xs : List Int} (h : RowAt w base g 0 cap cur xs) (hz : cap = cur.size) : Kd.R (Kd.int .i64) 3 w base (fun _ => True) (.slice (some ⟨g, 0, none⟩) xs.length cap) xs := by
  refine Kd.R_of_own ⟨by simp [encs], .inr ⟨g, cap, cur, rfl, h.base, h.blk, h.len, h.small, by omega, ?_⟩⟩ (fun _ _ => trivial)
  apply List.ext_getElem?
  intro j
  rw [Nat.mul_one]
  by_cases hj : j < xs.length
  · rw [List.getElem?_take_of_lt hj]
    have := h.cells j hj
    rw [Nat.zero_add] at this
    rw [Array.getElem?_toList, this]
    simp [encs, List.getD_eq_getElem?_getD, hj]
  · rw [List.getElem?_eq_none (by rw [List.length_take]; omega), List.getElem?_eq_none (by simp [encs]; omega)]
theorem ab_run {W : World} {base g cap : Nat} {cur : Array Value} {xs : List Int} (H : RowAt W base g 0 cap cur xs) (hz : cap = cur.size) (p : Int) (n : Nat) (hn : n = xs.length) (ty : TypeId) (hl : n + 1 ≤ 1099511627777) :
    ∃ g1 cap1 cur1 w1, (Builtin.append_ #[24, 24] ty #[.slice (some ⟨g, 0, none⟩) n cap, .slice (some ⟨W.heap.size, 0, none⟩) 1 1]).run Tryz.prog (W.alloc (.cells #[.int .i64 p] 3)) = .ok (.slice (some ⟨g1, 0, none⟩) (n + 1) cap1) w1 ∧ RowAt w1 base g1 0 cap1 cur1 (xs ++ [p]) ∧ cap1 = cur1.size ∧ W.grownBy w1 (some g) ∧ ((g1 = g ∧ cap1 = cap ∧ cur1.size = cur.size) ∨ (W.heap.size ≤ g1 ∧ w1.heap[g]? = W.heap[g]?)) := by
  subst hn
  obtain ⟨i0, hi, hz0, hz1, hz2⟩ := info_parts infoInt
  have hlt := H.lt
  have hblk : (W.alloc (.cells #[.int .i64 p] 3)).heap[g]? = some (.cells cur 3 (0, 0)) := (Below.heap_alloc _ _ _ hlt).trans H.blk
  have hlen : (xs ++ [p]).length = xs.length + 1 := by simp
  have hsmall := H.small
  have hbase := H.base
  by_cases hroom : xs.length + 1 ≤ cap
  · have hfit := H.fits (by omega)
    have hr := run_append_room_cells (P := Tryz.prog) (W.alloc (.cells #[.int .i64 p] 3)) 24 ty 3 i0 Tryz.underlying24 hi g 0 xs.length cap ⟨W.heap.size, 0, none⟩ 1 1 [.int .i64 p] (by rw [hz1]; rfl) (cell_one_new _ _ _) (by simp [Value.oneCell']) hroom
      (fun j hj => by
        have hj' : j = 0 := by simpa using hj
        subst hj'
        rw [blk_cell hblk, hz1, Array.getElem?_eq_getElem (by omega)]
        rfl) (fun j hj => blk_frozen hblk _)
    have hw : (W.alloc (.cells #[.int .i64 p] 3)).setCells g (0 + xs.length * i0.size) [.int .i64 p] = (W.alloc (.cells #[.int .i64 p] 3)).setCell ⟨g, 0 + xs.length, none⟩ (.int .i64 p) := by
      rw [hz1, Nat.mul_one]; rfl
    rw [hw] at hr
    refine ⟨g, cap, _, _, hr, ⟨H.base, blk_set hblk (0 + xs.length) (.int .i64 p), by omega, fun _ => by rw [Array.size_setIfInBounds]; exact hfit, H.small, fun j hj => ?_⟩, by rw [Array.size_setIfInBounds]; exact hz, ⟨rfl, rfl, rfl, by simp [World.setCell], fun k hk hne => ?_⟩, Or.inl ⟨rfl, rfl, by rw [Array.size_setIfInBounds]⟩⟩
    · rw [hlen] at hj
      rw [Array.getElem?_setIfInBounds]
      by_cases e : j = xs.length
      · subst e
        rw [if_pos rfl, if_pos (by omega)]
        simp [List.getD_eq_getElem?_getD]
      · rw [if_neg (by omega), H.cells j (by omega)]
        simp [List.getD_eq_getElem?_getD, List.getElem?_append_left (show j < xs.length by omega)]
    · rw [Below.heap_setCell _ _ _ _ (by intro e; exact hne (by rw [e]))]
      exact Below.heap_alloc _ _ _ hk
  · obtain ⟨v', w', hr, hown, hg⟩ := run_append_arg_grows (P := Tryz.prog) (W.alloc (.cells #[.int .i64 p] 3)) 24 ty 3 i0 (.int .i64 0) 1 8 Tryz.underlying24 hi hz0 hz1 hz2 rfl (by decide) ⟨g, 0, none⟩ xs.length cap (xs.map (Value.int .i64)) (by simp) (fun j u hj => by
        obtain ⟨hj', e⟩ := List.getElem?_eq_some_iff.1 hj
        rw [List.length_map] at hj'
        rw [Addr.add_lit, blk_cell hblk, H.cells j hj', ← e]
        simp [List.getD_eq_getElem?_getD, hj']) ⟨W.heap.size, 0, none⟩ 1 1 [.int .i64 p] rfl (cell_one_new _ _ _) (by omega) (by unfold maxLen; omega) (by omega)
    have hne : v' ≠ .slice none 0 0 := by
      intro e
      subst e
      rcases hown.2 with ⟨-, h0⟩ | ⟨g', cap', cur', h', -⟩
      · omega
      · injection h' with h'; cases h'
    have hown' : w'.ownsRow (W.heap.size + 1) 3 1 v' (xs ++ [p]).length ((xs ++ [p]).map (Value.int .i64)) := by
      rw [hlen, List.map_append]
      simpa using hown
    obtain ⟨g', cap', cur', rfl, hR, hcs⟩ := RowAt.of_own hown' hne
    have hR' := hR.base
    rw [hlen] at hr
    refine ⟨g', cap', cur', w', hr, ⟨by omega, hR.blk, hR.len, hR.fits, hR.small, hR.cells⟩, hcs, ⟨hg.os, hg.tape, hg.output, by have := hg.size; simp at this; omega, fun k hk hne' => (hg.block k (by simp; omega) (by simp)).trans (Below.heap_alloc _ _ _ hk)⟩, Or.inr ⟨by omega, (hg.block g (by simp; omega) (by simp)).trans (Below.heap_alloc _ _ _ hlt)⟩⟩
theorem ab_append {ops : Array Oper} {o : Oper} {a : Act} {K : Act → World → Prop} {Q : Exit → Act → World → Prop} {E : Prop} {W : World} {base g cap : Nat} {cur : Array Value} {xs : List Int} (H : RowAt W base g 0 cap cur xs) (hz : cap = cur.size) (p : Int) (n : Nat) (hn : n = xs.length) (hl : n + 1 ≤ 1099511627777) (hgd : o.guard = none) (s x : Operand)
    (ho : o.op = .call { callee := .builtin .append, args := #[s, x], argTypes := #[24, 24] }) (hs : a.eval s = .slice (some ⟨g, 0, none⟩) n cap) (hx : a.eval x = .slice (some ⟨W.heap.size, 0, none⟩) 1 1)
    (h : ∀ g1 cap1 cur1 w1, RowAt w1 base g1 0 cap1 cur1 (xs ++ [p]) → cap1 = cur1.size → W.grownBy w1 (some g) → ((g1 = g ∧ cap1 = cap ∧ cur1.size = cur.size) ∨ (W.heap.size ≤ g1 ∧ w1.heap[g]? = W.heap[g]?)) → K (a.put o.dst (.slice (some ⟨g1, 0, none⟩) (n + 1) cap1)) w1) :
    if Region.wanted o (yielded ops a.tmps) = true then Oper.wp Tryz.prog o a (W.alloc (.cells #[.int .i64 p] 3)) K Q else E := by
  have hw : Region.wanted o (yielded ops a.tmps) = true := by simp [Region.wanted, hgd]
  rw [if_pos hw]
  obtain ⟨g1, cap1, cur1, w1, hr, h2, h3, h4, h5⟩ := ab_run H hz p n hn o.type hl
  unfold Oper.wp execOp
  simp only [ho, resolve, invoke, builtin, Sem.run_bind, Sem.run_pure, Result.andThen_ok, List.map_toArray, List.map_cons, List.map_nil, hs, hx, hr]
  exact h g1 cap1 cur1 w1 h2 h3 h4 h5
theorem AbDone.drew1 {w0 w w' : World} {ws : List Int} {A0 : Option Addr} {c0 : Nat} {due m : Int} {Bw Bd Bo Bm Bf g cap : Nat} {cur : Array Value} {done : List Int} {okO : Nat → Prop} {out : List (List Int)} (h : AbDone w0 w w' ws A0 c0 due m Bw Bd Bo Bm Bf g cap cur done okO out) :
    AbDone w0 w w'.drew ws A0 c0 due m Bw Bd Bo Bm Bf g cap cur done okO out := by
  obtain ⟨vo, okR, curR, hb, hs, hr, hz, hk⟩ := h
  exact ⟨vo, okR, curR, ⟨hb.hw, hb.hd, hb.ho, hb.hm, hb.hf, hb.ge, hb.ne, below_drew1 hb.bel, hb.row, Kd.S_drew hb.own, hb.far⟩, hs, hr.move rfl, hz, hk⟩
theorem ab_S {w w' : World} {p1 p2 p3 : Addr} {v1 v2 v3 : Value} (h : w.cell? p1 = some v1 ∧ w.cell? p2 = some v2 ∧ w.cell? p3 = some v3) (hb : Below w.heap.size w w') : w'.cell? p1 = some v1 ∧ w'.cell? p2 = some v2 ∧ w'.cell? p3 = some v3 :=
  ⟨(hb.cell (World.block_lt_of_cell? _ _ h.1)).trans h.1, (hb.cell (World.block_lt_of_cell? _ _ h.2.1)).trans h.2.1, (hb.cell (World.block_lt_of_cell? _ _ h.2.2)).trans h.2.2⟩
theorem ab_g1 {w0 w : World} {ws : List Int} {A0 : Option Addr} {c0 : Nat} {due m : Int} {Bw Bd Bo Bm Bf g g1 : Nat} {vo : Value} {out : List (List Int)} {okR : Nat → Prop} {X Y : Prop} (h : AbBox w0 w ws A0 c0 due m Bw Bd Bo Bm Bf vo out okR) (hg : g ≠ Bw ∧ g ≠ Bd ∧ g ≠ Bo ∧ g ≠ Bm ∧ g ≠ Bf) (hno : ¬ okR g) (hc : (g1 = g ∧ X) ∨ (w.heap.size ≤ g1 ∧ Y)) :
    (g1 ≠ Bw ∧ g1 ≠ Bd ∧ g1 ≠ Bo ∧ g1 ≠ Bm ∧ g1 ≠ Bf) ∧ ¬ (okR g1 ∧ g1 < w.heap.size) := by
  have lw := blk_lt h.hw
  have ld := blk_lt h.hd
  have lo := blk_lt h.ho
  have lm := blk_lt h.hm
  have lf := blk_lt h.hf
  rcases hc with ⟨rfl, -⟩ | ⟨hc, -⟩
  · exact ⟨hg, fun h => hno h.1⟩
  · exact ⟨⟨by omega, by omega, by omega, by omega, by omega⟩, fun h => by omega⟩
theorem ab_own {w0 w w12 : World} {vo x : Value} {out : List (List Int)} {okO : Nat → Prop} (hS : Kd.S (Kd.slice 3 (Kd.int .i64)) 24 w w0.heap.size okO vo out) (hb : Below w.heap.size w w12) (hx : ∀ k, x.ownBlock = some k → w.heap.size ≤ k) :
    Kd.S (Kd.slice 3 (Kd.int .i64)) 24 w12 w0.heap.size (fun k => (okO k ∨ w.heap.size ≤ k) ∧ ¬ (some k = x.ownBlock)) vo out ∧ ∀ k, some k = x.ownBlock → (okO k ∨ w.heap.size ≤ k) ∧ some k ≠ vo.ownBlock :=
  ⟨Kd.S_mono (Kd.S_below (Kd.S_bound hS) hb |> fun h => Kd.S_mono h (fun _ hk => hk)) (fun k hk => ⟨Or.inl hk.1, fun e => by have := hx k e.symm; have := hk.2.2.1; omega⟩), fun k hk => ⟨Or.inr (hx k hk.symm), fun e => by have := hx k hk.symm; have := Kd.S_lt hS k e.symm; omega⟩⟩
set_option maxHeartbeats 8000000 in
set_option maxRecDepth 100000 in
theorem impl_allBest.add_calls : ∀ (q : Nat) (ws : List Int) (due m : Int) (done : List Int) (cost left : Int) (out r : List (List Int)) (w0 w : World) (A0 : Option Addr) (c0 Bw Bd Bo Bm Bf : Nat) (vo : Value) (okO : Nat → Prop) (g cap : Nat) (cur : Array Value) (n : Nat),
    AbBox w0 w ws A0 c0 due m Bw Bd Bo Bm Bf vo out okO → RowAt w w0.heap.size g 0 cap cur done → cap = cur.size → (g ≠ Bw ∧ g ≠ Bd ∧ g ≠ Bo ∧ g ≠ Bm ∧ g ≠ Bf) → ¬ okO g → n = done.length → impl_allBest.add q ws due m done cost left out = some r →
    Calls Tryz.prog 55 #[.slice (some ⟨g, 0, none⟩) n cap, .int .i64 cost, .int .i64 left, .pointer (some ⟨Bw, 0, none⟩), .pointer (some ⟨Bd, 0, none⟩), .pointer (some ⟨Bo, 0, none⟩), .pointer (some ⟨Bm, 0, none⟩), .pointer (some ⟨Bf, 0, none⟩)] w fun e w' => e = .returned (.tuple #[]) ∧ AbDone w0 w w' ws A0 c0 due m Bw Bd Bo Bm Bf g cap cur done okO r := by
  intro q
  induction q using Nat.strongRecOn with
  | _ q ih =>
    intro ws due m done cost left out r w0 w A0 c0 Bw Bd Bo Bm Bf vo okO g cap cur n hbox hrow hcs hgne hno hn h
    have BOX := Aside0.mk hbox
    have ROW := Aside0.mk hrow
    have HCS := Aside0.mk hcs
    have HGN := Aside0.mk hgne
    have HNO := Aside0.mk hno
    have HN := Aside0.mk hn
    have hcw := ab_cell hbox.hw 0 _ rfl
    have hcd := ab_cell hbox.hd 0 _ rfl
    cases q with
    | zero => exact absurd h (by simp [impl_allBest.add])
    | succ q =>
      simp only [impl_allBest.add] at h
      split at h
      case isFalse => cases h
      rename_i hfit
      have HFIT := Aside0.mk hfit
      by_cases c1 : done.length = ws.length
      · rw [if_pos c1] at h
        have c1a : ((n : Int) = (ws.length : Int)) = True := eq_true (by omega)
        have c1b : decide ((n : Int) = (ws.length : Int)) = true := decide_eq_true (by omega)
        have c1c : ((n : Int) == (ws.length : Int)) = true := beq_iff_eq.2 (by omega)
        by_cases c2 : cost = due
        · rw [if_pos c2] at h
          obtain rfl := Option.some.inj h
          have c2c : (cost == due) = true := beq_iff_eq.2 c2
          obtain ⟨Ao, co, evo⟩ := Kd.S_slice hbox.own
          subst evo
          have hco := ab_cell hbox.ho 0 _ rfl
          have hclone := fun W (hR : RowAt W w0.heap.size g 0 cap cur done) => clone_calls hR n HN.out (by have := HFIT.out; omega)
          clear hbox hrow hcs hgne hno hn h hfit c1 c2
          go_enter Tryz.func55, Tryz.ntmps55
          go_upto_region 3 with fail
          go_region_law (first
            | (go_simp; go_at_call 56; (with_reducible refine (hclone _ ?hR).mono ?_); (case hR => exact ROW.out.move rfl); rintro e w12 ⟨Ar, cr, cur12, rfl, hr12, hb12, hz12⟩; have HB12 := Aside0.mk (below_step (below_drew1 (Below.refl w.heap.size w)) hb12); have hown := ab_own (x := .slice (some ⟨Ar, 0, none⟩) n cr) BOX.out.own HB12.out (fun k hk => by have h8 := hr12.base; have h9 : Ar = k := (by simpa [Value.ownBlock] using hk); subst h9; exact h8); have HPK := Aside0.mk hown.2; have HPO := Aside0.mk hown.1; have HPM := Aside0.mk (show (Kd.slice 3 (Kd.int .i64)).M w12 w0.heap.size (fun k => some k = (Value.slice (some ⟨Ar, 0, none⟩) n cr).ownBlock) done [.slice (some ⟨Ar, 0, none⟩) n cr] from by rw [HN.out]; exact Kd.M_row (Kd.R_tight rfl (Kd.R_lower (ab_R hr12 hz12) BOX.out.bel.size))); have HBB := Aside0.mk (below_then BOX.out.bel BOX.out.bel.size HB12.out); have hBO := (HB12.out.block Bo (blk_lt BOX.out.ho)).trans BOX.out.ho; have HBO12 := Aside0.mk hBO; have hco2 := cell_of_one hBO; have hco4 := cell_of_one (blk_alloc hBO (.cells #[.slice (some ⟨Ar, 0, none⟩) n cr] 24)); clear hr12 hb12 hz12 hown hBO)
            | (refine Kd.S_append_step (Kd.slice 3 (Kd.int .i64)) (w0 := w0) w0.heap.size rfl (.tmp 23) (.tmp 26) 52 24 (.slice none 0 0) 24 rfl Tryz.underlying52 (by kernel_rfl) rfl (by decide) (by omega) (.slice Ao out.length co) out done [.slice (some ⟨Ar, 0, none⟩) n cr] (fun k => okO k ∨ w.heap.size ≤ k) (fun k => some k = (Value.slice (some ⟨Ar, 0, none⟩) n cr).ownBlock) rfl rfl ?aP ?aK ?aF ?aO ?aB ?aS ?aL ?_; (case aP => exact HPM.out); (case aK => exact HPK.out); (case aF => exact fun k hk => Or.inr (Nat.le_trans HB12.out.size hk)); (case aO => exact HPO.out); (case aB => exact HBB.out); (case aS => exact HBB.out.size); (case aL => have := HFIT.out; omega); intro v13 w13 ho hb hg hat; (obtain ⟨A13, c13, e13⟩ := Kd.S_slice ho); subst e13; have HS13 := Aside0.mk ho; have HB13 := Aside0.mk hb; have HG13 := Aside0.mk hg; have hbl := (hg.block Bo (blk_lt HBO12.out) (Kd.S_away HPO.out (fun k hk => by rcases hk.1 with h1 | h1; exact (BOX.out.far k h1).2.2.1; have h2 := blk_lt BOX.out.ho; omega))).trans HBO12.out; have hco3 := cell_of_one hbl; have hfz3 := blk_frozen hbl 0; clear ho hb hg hat hbl))
          all_goals
            go_wp2
            refine bodyPost_ret (results_none rfl _ _ _) rfl ?_
            rw [List.length_append, List.length_singleton] at HS13
            exact ⟨rfl, BOX.out.leaf ROW.out HGN.out HNO.out HB12.out HS13.out HB13.out HG13.out⟩
        · rw [if_neg c2] at h
          obtain rfl := Option.some.inj h
          have c2c : (cost == due) = false := beq_eq_false_iff_ne.2 c2
          clear hbox hrow hcs hgne hno hn h hfit c1 c2
          go_enter Tryz.func55, Tryz.ntmps55
          go_wp2
          refine bodyPost_ret (results_none rfl _ _ _) rfl ?_
          exact ⟨rfl, AbDone.start BOX.out ROW.out⟩
      · rw [if_neg c1] at h
        have H' := Aside0.mk h
        have c1a : ((n : Int) = (ws.length : Int)) = False := eq_false (by omega)
        have c1b : decide ((n : Int) = (ws.length : Int)) = false := decide_eq_false (by omega)
        have c1c : ((n : Int) == (ws.length : Int)) = false := beq_eq_false_iff_ne.2 (by omega)
        have c1d : (0 : Int) ≤ (n : Int) := by omega
        have c1e : (n : Int) < (ws.length : Int) := by omega
        obtain ⟨ad, ead, hx⟩ := Kd.at_int hbox.row (n : Int) c1d c1e
        rw [Int.toNat_natCast] at hx
        obtain ⟨x, hxx⟩ : ∃ x, x = rd ws (n : Int) := ⟨_, rfl⟩
        rw [← hxx] at hx
        have HX := Aside0.mk hxx
        have HXC := Aside0.mk hx
        subst ead
        clear hbox hrow hcs hgne hno hn h hfit c1 hxx hx
        go_enter Tryz.func55, Tryz.ntmps55
        go_wp2
        go_loopg [12] q (fun kq v12 w' => ∃ (l : Nat) (out' : List (List Int)), v12 = .int .i64 (l : Int) ∧ Aside0 (l ≤ 12) ∧ Aside0 (impl_allBest.loop kq ws due m done cost left out' l = some r) ∧ Aside0 (kq ≤ q) ∧ Aside0 (AbDone w0 w w' ws (some ad) c0 due m Bw Bd Bo Bm Bf g cap cur done okO out'))
        case atStart => exact ⟨1, out, rfl, ⟨by omega⟩, H', ⟨Nat.le_refl _⟩, ⟨AbDone.start BOX.out ROW.out⟩⟩
        case round =>
          clear H' hcw hcd
          obtain ⟨l, out', rfl, HL, HA, HK1, HD⟩ := hrel
          cases gk with
          | zero => exact absurd HA.out (by simp [impl_allBest.loop])
          | succ k1 =>
            have H := HA.out
            clear HA
            simp only [impl_allBest.loop] at H
            rw [← HN.out, ← HX.out] at H
            obtain ⟨vo1, okR1, cur1_, hb1, -, -, -, -⟩ := HD.out
            have hcw := ab_cell hb1.hw 0 _ rfl
            have hcd := ab_cell hb1.hd 0 _ rfl
            have hcm := ab_cell hb1.hm 0 _ rfl
            have hcx : wr.cell? (ad.add n) = some (.int .i64 x) := (hb1.bel.cell (World.block_lt_of_cell? _ _ HXC.out)).trans HXC.out
            clear hb1
            obtain ⟨M1, hm1⟩ : ∃ y, y = wrap64 (x * (l : Int)) := ⟨_, rfl⟩
            rw [← hm1] at H
            obtain ⟨C1, hc1⟩ : ∃ y, y = wrap64 (cost + M1) := ⟨_, rfl⟩
            rw [← hc1] at H
            have e1 : IntKind.i64.wrap (x * (l : Int)) = M1 := (Go.IntWalk.i64_left _).trans hm1.symm
            have e2 : IntKind.i64.wrap (cost + M1) = C1 := (Go.IntWalk.i64_left _).trans hc1.symm
            clear hm1 hc1
            by_cases d1 : l ≤ 11
            · rw [if_pos d1] at H
              have d1a : decide ((l : Int) ≤ 11) = true := decide_eq_true (by omega)
              have d1b : decide (l ≤ 11) = true := decide_eq_true d1
              by_cases d2 : C1 ≤ due
              · rw [if_pos d2] at H
                have d2a : decide (C1 ≤ due) = true := decide_eq_true d2
                obtain ⟨p, hp, h1⟩ := Option.bind_eq_some_iff.mp H
                have A1 := Aside0.mk hp
                have hpw := fun W (y : Int) (hy : y = 11 - (l : Int)) => (by subst hy; exact impl_power.calls k1 m (11 - (l : Int)) p W A1.out : Calls Tryz.prog 57 #[.int .i64 m, .int .i64 y] W fun e w' => e = .returned (.int .i64 p) ∧ Drawn0 W w')
                have D1 := Aside0.mk d1
                have e5 : Aside0 (wrap64 ((l : Int) + 1) = ((l + 1 : Nat) : Int)) := ⟨by unfold wrap64; have := D1.out; omega⟩
                by_cases d3 : p ≤ left
                · rw [if_pos d3] at h1
                  have d3a : decide (p ≤ left) = true := decide_eq_true d3
                  obtain ⟨o1, hf1, h2⟩ := Option.bind_eq_some_iff.mp h1
                  have H7 := Aside0.mk h2
                  have A2 := Aside0.mk hf1
                  clear H hp h1 h2 hf1 d1 d2 d3
                  go_upto_region 5 with fail
                  go_quiet (fail)
                  go_upto_region 9 with (go_at_call 57; (with_reducible refine (hpw _ _ ?hy).mono ?_); (case hy => first | rfl | (have := D1.out; unfold wrap64; omega)); rintro e w9 ⟨rfl, hb9⟩; have HD9 := Aside0.mk (show AbDone w0 w w9 ws (some ad) c0 due m Bw Bd Bo Bm Bf g cap cur done okO out' from by obtain ⟨nd, rfl⟩ := hb9; first | exact HD.out.drew _ | exact (HD.out.drew _).drew _ | exact (HD.out.drew1).drew _); clear hb9)
                  obtain ⟨vo2, okR, curR, hb, hs, hr, hz, hk⟩ := HD9.out.drew1
                  have HB2 := Aside0.mk hb
                  have HS2 := Aside0.mk hs
                  have HR2 := Aside0.mk hr
                  have HZ2 := Aside0.mk hz
                  have HK2 := Aside0.mk hk
                  have HNR := Aside0.mk (show ¬ okR g from fun h9 => by rcases hs g h9 with h8 | h8; exact HNO.out h8; have := ROW.out.lt; omega)
                  have HSR := Aside0.mk (show w9.cell? ⟨Bf, 0, none⟩ = some (.func (.func 55) #[] #[.pointer (some ⟨Bw, 0, none⟩), .pointer (some ⟨Bd, 0, none⟩), .pointer (some ⟨Bo, 0, none⟩), .pointer (some ⟨Bm, 0, none⟩), .pointer (some ⟨Bf, 0, none⟩)]) ∧ w9.cell? ⟨Bw, 0, none⟩ = some (.slice (some ad) ws.length c0) ∧ w9.cell? (ad.add n) = some (.int .i64 x) from ⟨ab_cell hb.hf 0 _ rfl, ab_cell hb.hw 0 _ rfl, (hb.bel.cell (World.block_lt_of_cell? _ _ HXC.out)).trans HXC.out⟩)
                  obtain ⟨L1, hl1⟩ : ∃ y, y = wrap64 (left - p) := ⟨_, rfl⟩
                  have A3 := Aside0.mk (show impl_allBest.add k1 ws due m (done ++ [(l : Int)]) C1 L1 out' = some o1 from by rw [hl1]; exact A2.out)
                  have e3 : IntKind.i64.wrap (left - p) = L1 := (Go.IntWalk.i64_left _).trans hl1.symm
                  have hadd := fun W g1 cap1 cur1 okX hbx hR hz hg hno => ih k1 (by have := HK1.out; omega) ws due m (done ++ [(l : Int)]) C1 L1 out' o1 w0 W (some ad) c0 Bw Bd Bo Bm Bf vo2 okX g1 cap1 cur1 (n + 1) hbx hR hz hg hno (by rw [List.length_append, HN.out]; rfl) A3.out
                  have HLN := Aside0.mk (show n + 1 ≤ 1099511627777 from by have h8 := HFIT.out; have h9 := HN.out; omega)
                  clear hb hs hr hz hk hl1
                  go_region_held3 (fun w' => w'.cell? ⟨Bf, 0, none⟩ = some (.func (.func 55) #[] #[.pointer (some ⟨Bw, 0, none⟩), .pointer (some ⟨Bd, 0, none⟩), .pointer (some ⟨Bo, 0, none⟩), .pointer (some ⟨Bm, 0, none⟩), .pointer (some ⟨Bf, 0, none⟩)]) ∧ w'.cell? ⟨Bw, 0, none⟩ = some (.slice (some ad) ws.length c0) ∧ w'.cell? (ad.add n) = some (.int .i64 x))
                    (first | exact HS10.out | exact HS8.out | exact ab_S HSR.out (below_drew (Below.refl _ _)) | exact ab_S HSR.out (below_alloc (below_drew (Below.refl _ _)) _))
                    (first
                      | (refine ab_append HR2.out (HCS.out.trans HZ2.out.symm) (l : Int) n HN.out HLN.out rfl (.tmp 52) (.tmp 54) rfl (by rfl) (by rfl) ?_; intro g1 cap1 cur1 w8 hr8 hz8 hg8 hc8; have HR8 := Aside0.mk hr8; have HZ8 := Aside0.mk hz8; have HG8 := Aside0.mk hg8; have HC8 := Aside0.mk hc8; have HB8 := Aside0.mk (HB2.out.next HGN.out HNR.out HR2.out.base hg8); have HS8 := Aside0.mk (show w8.cell? ⟨Bf, 0, none⟩ = some (.func (.func 55) #[] #[.pointer (some ⟨Bw, 0, none⟩), .pointer (some ⟨Bd, 0, none⟩), .pointer (some ⟨Bo, 0, none⟩), .pointer (some ⟨Bm, 0, none⟩), .pointer (some ⟨Bf, 0, none⟩)]) ∧ w8.cell? ⟨Bw, 0, none⟩ = some (.slice (some ad) ws.length c0) ∧ w8.cell? (ad.add n) = some (.int .i64 x) from ⟨ab_cell HB8.out.hf 0 _ rfl, ab_cell HB8.out.hw 0 _ rfl, (HB8.out.bel.cell (World.block_lt_of_cell? _ _ HXC.out)).trans HXC.out⟩); have HG1 := Aside0.mk (ab_g1 HB2.out HGN.out HNR.out (g1 := g1) (X := cap1 = cap ∧ cur1.size = curR.size) hc8); clear hr8 hz8 hg8 hc8)
                      | (go_at_call 55; (with_reducible refine (hadd _ _ _ _ _ HB8.out HR8.out HZ8.out HG1.out.1 HG1.out.2).mono ?_); rintro e w10 ⟨rfl, h10⟩; have HD10 := Aside0.mk (AbDone.round HS2.out HR2.out HZ2.out HK2.out HGN.out.2.2.1 HNR.out HG8.out HC8.out h10); have hs10 : w10.cell? ⟨Bf, 0, none⟩ = some (.func (.func 55) #[] #[.pointer (some ⟨Bw, 0, none⟩), .pointer (some ⟨Bd, 0, none⟩), .pointer (some ⟨Bo, 0, none⟩), .pointer (some ⟨Bm, 0, none⟩), .pointer (some ⟨Bf, 0, none⟩)]) ∧ w10.cell? ⟨Bw, 0, none⟩ = some (.slice (some ad) ws.length c0) ∧ w10.cell? (ad.add n) = some (.int .i64 x) := (by obtain ⟨vo3, okR3, curR3, hb3, -, -, -, -⟩ := HD10.out; exact ⟨ab_cell hb3.hf 0 _ rfl, ab_cell hb3.hw 0 _ rfl, (hb3.bel.cell (World.block_lt_of_cell? _ _ HXC.out)).trans HXC.out⟩); have HS10 := Aside0.mk hs10; clear h10 hs10))
                  all_goals
                    clear e1 e2 e3
                    go_wp2
                    go_roundg k1
                    case measure => omega
                    case rel => exact ⟨l + 1, o1, by rw [e5.out], ⟨by have := D1.out; omega⟩, H7, ⟨by have := HK1.out; omega⟩, HD10⟩
                · rw [if_neg d3] at h1
                  have d3a : decide (p ≤ left) = false := decide_eq_false d3
                  have H7 := Aside0.mk h1
                  clear H hp h1 d1 d2 d3
                  go_upto_region 5 with fail
                  go_quiet (fail)
                  go_wp2_with (go_at_call 57; (with_reducible refine (hpw _ _ ?hy).mono ?_); (case hy => first | rfl | (have := D1.out; unfold wrap64; omega)); rintro e w9 ⟨rfl, hb9⟩; have HD9 := Aside0.mk (show AbDone w0 w w9 ws (some ad) c0 due m Bw Bd Bo Bm Bf g cap cur done okO out' from by obtain ⟨nd, rfl⟩ := hb9; first | exact HD.out.drew _ | exact (HD.out.drew _).drew _ | exact (HD.out.drew1).drew _); clear hb9)
                  go_roundg k1
                  case measure => omega
                  case rel => exact ⟨l + 1, out', by rw [e5.out], ⟨by have := D1.out; omega⟩, H7, ⟨by have := HK1.out; omega⟩, HD9⟩
              · rw [if_neg d2] at H
                have d2a : decide (C1 ≤ due) = false := decide_eq_false d2
                obtain rfl := Option.some.inj H
                clear H d1 d2
                go_upto_region 5 with fail
                go_quiet (fail)
                go_wp2
                refine bodyPost_end (results_none rfl _ _ _) rfl ?_
                exact ⟨rfl, by first | exact HD.out | exact HD.out.drew _ | exact HD.out.drew1⟩
            · rw [if_neg d1] at H
              have d1a : decide ((l : Int) ≤ 11) = false := decide_eq_false (by omega)
              have d1b : decide (l ≤ 11) = false := decide_eq_false d1
              obtain rfl := Option.some.inj H
              clear H d1
              go_upto_region 5 with fail
              go_quiet (fail)
              go_wp2
              refine bodyPost_end (results_none rfl _ _ _) rfl ?_
              exact ⟨rfl, by first | exact HD.out | exact HD.out.drew _ | exact HD.out.drew1⟩
theorem AbBox.start {w W2 : World} {A0 : Option Addr} {c0 Bw Bd Bo Bm : Nat} {l0 : List Int} {due m : Int} {vo : Value} {okO : Nat → Prop} (hW : W2.heap[Bw]? = some (.cells #[.slice A0 l0.length c0] 24 (0, 0))) (hD : W2.heap[Bd]? = some (.cells #[.int .i64 due] 3 (0, 0))) (hO : W2.heap[Bo]? = some (.cells #[vo] 52 (0, 0))) (hM : W2.heap[Bm]? = some (.cells #[.int .i64 m] 3 (0, 0)))
    (hge : w.heap.size ≤ Bo) (hne : Bw ≠ Bo ∧ Bd ≠ Bo ∧ Bm ≠ Bo) (hb : Below w.heap.size w W2) (hC : Kd.C (Kd.int .i64) w A0 l0.length l0)
    (hS : Kd.S (Kd.slice 3 (Kd.int .i64)) 24 W2 w.heap.size okO vo []) (hok : ∀ k, okO k → k ≠ Bw ∧ k ≠ Bd ∧ k ≠ Bo ∧ k ≠ Bm ∧ k < W2.heap.size) :
    AbBox w (W2.alloc (.cells #[.func (.func 55) #[] #[.pointer (some ⟨Bw, 0, none⟩), .pointer (some ⟨Bd, 0, none⟩), .pointer (some ⟨Bo, 0, none⟩), .pointer (some ⟨Bm, 0, none⟩), .pointer (some ⟨W2.heap.size, 0, none⟩)]] 68)) l0 A0 c0 due m Bw Bd Bo Bm W2.heap.size vo [] okO := by
  have l1 := blk_lt hW
  have l2 := blk_lt hD
  have l3 := blk_lt hO
  have l4 := blk_lt hM
  refine ⟨(Below.heap_alloc _ _ _ l1).trans hW, (Below.heap_alloc _ _ _ l2).trans hD, (Below.heap_alloc _ _ _ l3).trans hO, (Below.heap_alloc _ _ _ l4).trans hM, by unfold World.alloc; simp, hge, ⟨hne.1, hne.2.1, hne.2.2, by omega⟩, below_alloc hb _, hC, Kd.S_alloc hS _, fun k hk => ?_⟩
  obtain ⟨h1, h2, h3, h4, h5⟩ := hok k hk
  exact ⟨h1, h2, h3, h4, by omega⟩
theorem ab_two {w8 : World} {o1 o2 : Obj} : ((w8.alloc o1).alloc o2).heap[w8.heap.size]? = some o1 ∧ ((w8.alloc o1).alloc o2).heap[w8.heap.size + 1]? = some o2 := by
  have n1 : ∀ (W : World) (o : Obj) (i : Nat), i = W.heap.size → (W.alloc o).heap[i]? = some o := fun W o i e => by rw [e]; unfold World.alloc; simp
  exact ⟨(Below.heap_alloc _ _ _ (by simp)).trans (n1 _ _ _ rfl), n1 _ _ _ (by simp)⟩
theorem AbBox.below {w0 w w' : World} {ws : List Int} {A0 : Option Addr} {c0 : Nat} {due m : Int} {Bw Bd Bo Bm Bf : Nat} {vo : Value} {out : List (List Int)} {okO : Nat → Prop} (h : AbBox w0 w ws A0 c0 due m Bw Bd Bo Bm Bf vo out okO) (hb : Below w.heap.size w w') : AbBox w0 w' ws A0 c0 due m Bw Bd Bo Bm Bf vo out okO :=
  ⟨(hb.block _ (blk_lt h.hw)).trans h.hw, (hb.block _ (blk_lt h.hd)).trans h.hd, (hb.block _ (blk_lt h.ho)).trans h.ho, (hb.block _ (blk_lt h.hm)).trans h.hm, (hb.block _ (blk_lt h.hf)).trans h.hf, h.ge, h.ne, below_then h.bel h.bel.size hb, h.row, Kd.S_below h.own hb, h.far⟩
theorem AbBox.away {w0 w : World} {ws : List Int} {A0 : Option Addr} {c0 : Nat} {due m : Int} {Bw Bd Bo Bm Bf b : Nat} {vo : Value} {out : List (List Int)} {okO : Nat → Prop} (h : AbBox w0 w ws A0 c0 due m Bw Bd Bo Bm Bf vo out okO) (hb : w.heap.size ≤ b) : b ≠ Bw ∧ b ≠ Bd ∧ b ≠ Bo ∧ b ≠ Bm ∧ b ≠ Bf := by
  have lw := blk_lt h.hw
  have ld := blk_lt h.hd
  have lo := blk_lt h.ho
  have lm := blk_lt h.hm
  have lf := blk_lt h.hf
  exact ⟨by omega, by omega, by omega, by omega, by omega⟩
theorem ab_empty {w W : World} (h : w.heap.size ≤ W.heap.size) : RowAt (W.alloc (.cells #[] 3)) w.heap.size W.heap.size 0 0 #[] [] :=
  ⟨h, by unfold World.alloc; simp, by simp, fun h => by omega, by omega, fun j hj => by simp at hj⟩
set_option maxHeartbeats 8000000 in
set_option maxRecDepth 100000 in
theorem impl_allBest.calls (k : Nat) (A0 : Option Addr) (c0 : Nat) (l0 : List Int) (a1 : Int) (r : List (List Int)) (w : World) (hr0 : Kd.C (Kd.int .i64) w A0 l0.length l0) (hc0 : l0.length ≤ c0) (h : impl_allBest.f k l0 a1 = some r) :
    Calls Tryz.prog 29 #[.slice A0 l0.length c0, .int .i64 a1] w fun e w' => ∃ v0_ : Value, e = .returned v0_ ∧ Kd.S (Kd.slice 3 (Kd.int .i64)) 24 w' w.heap.size (fun _ => True) v0_ r ∧ Below w.heap.size w w' := by
  unfold impl_allBest.f at h
  obtain ⟨due, hb, h1⟩ := Option.bind_eq_some_iff.mp h
  obtain ⟨p, hp, h2⟩ := Option.bind_eq_some_iff.mp h1
  have A1 := Aside0.mk hb
  have A2 := Aside0.mk hp
  have A3 := Aside0.mk h2
  have HR0 := Aside0.mk hr0
  have HC0 := Aside0.mk hc0
  clear h h1 hp hb h2 hr0 hc0
  go_enter Tryz.func29, Tryz.ntmps29
  go_upto_region 1 with fail
  have HB1 := Aside0.mk (below_alloc (below_alloc (Below.refl w.heap.size w) (.cells #[.slice A0 l0.length c0] 24)) (.cells #[.int .i64 a1] 3))
  have HW1 := Aside0.mk (show ((w.alloc (.cells #[.slice A0 l0.length c0] 24)).alloc (.cells #[.int .i64 a1] 3)).heap[w.heap.size]? = some (.cells #[.slice A0 l0.length c0] 24 (0, 0)) from by rw [Below.heap_alloc _ _ _ (by simp)]; unfold World.alloc; simp)
  have HM1 := Aside0.mk (show ((w.alloc (.cells #[.slice A0 l0.length c0] 24)).alloc (.cells #[.int .i64 a1] 3)).heap[w.heap.size + 1]? = some (.cells #[.int .i64 a1] 3 (0, 0)) from ab_two.2)
  have HZ1 := Aside0.mk (show w.heap.size + 2 ≤ ((w.alloc (.cells #[.slice A0 l0.length c0] 24)).alloc (.cells #[.int .i64 a1] 3)).heap.size from by simp)
  generalize ((w.alloc (.cells #[.slice A0 l0.length c0] 24)).alloc (.cells #[.int .i64 a1] 3)) = W1 at HB1 HW1 HM1 HZ1 ⊢
  go_upto_region 2 with (first
    | ((with_reducible refine gate_dst (N := 8) rfl ?_); refine Kd.S_lit (Kd.slice 3 (Kd.int .i64)) (w0 := w) w.heap.size 24 ?hg (N := 8) ?hd (xs := ([] : List (List Int))) (inner := []) (ok := fun k => w.heap.size + 2 ≤ k) (okp := fun _ => False) ?hr ?hp (fun _ hk => hk.elim) HZ1.out HB1.out HB1.out.size (by simp) ?_; (case hd => rfl); (case hg => rfl); (case hr => first | (go_simp; done) | (go_simp; rfl)); (case hp => exact (Reps.none _ _)); intro v5 w5 ho hb hg_ hnew_; (obtain ⟨A5, c5, e5⟩ := Kd.S_slice ho); subst e5; have HO5 := Aside0.mk ho; have HB5 := Aside0.mk hb; have hw5 := (hg_.block _ (blk_lt HW1.out) (by simp)).trans HW1.out; have hm5 := (hg_.block _ (blk_lt HM1.out) (by simp)).trans HM1.out; have HW5 := Aside0.mk hw5; have HM5 := Aside0.mk hm5; have hcw5 := ab_cell hw5 0 _ rfl; have hcm5 := ab_cell hm5 0 _ rfl; clear ho hb hg_ hnew_ hw5 hm5)
    | (go_at_call 33; (with_reducible refine (impl_bestCost.calls k A0 c0 l0 a1 due _ (Kd.C_below HR0.out HB5.out) HC0.out A1.out).mono ?_); rintro e w8 ⟨rfl, hb8⟩; have HB8 := Aside0.mk (below_step HB5.out hb8); have HW8 := Aside0.mk ((hb8.block _ (blk_lt HW5.out)).trans HW5.out); have HM8 := Aside0.mk ((hb8.block _ (blk_lt HM5.out)).trans HM5.out); have HO8 := Aside0.mk (Kd.S_mono (Kd.S_below (Kd.S_bound HO5.out) hb8) (ok' := fun k => w.heap.size + 2 ≤ k ∧ k < w8.heap.size) (fun k hk => ⟨hk.1, Nat.lt_of_lt_of_le hk.2.2.1 hb8.size⟩)); clear hb8))
  have HW2 := Aside0.mk (show ((w8.alloc (.cells #[.slice A5 0 c5] 52)).alloc (.cells #[.int .i64 due] 3)).heap[w.heap.size]? = some (.cells #[.slice A0 l0.length c0] 24 (0, 0)) from blk_alloc (blk_alloc HW8.out _) _)
  have HM2 := Aside0.mk (show ((w8.alloc (.cells #[.slice A5 0 c5] 52)).alloc (.cells #[.int .i64 due] 3)).heap[w.heap.size + 1]? = some (.cells #[.int .i64 a1] 3 (0, 0)) from blk_alloc (blk_alloc HM8.out _) _)
  have HO2 := Aside0.mk (show ((w8.alloc (.cells #[.slice A5 0 c5] 52)).alloc (.cells #[.int .i64 due] 3)).heap[w8.heap.size]? = some (.cells #[.slice A5 0 c5] 52 (0, 0)) from ab_two.1)
  have HD2 := Aside0.mk (show ((w8.alloc (.cells #[.slice A5 0 c5] 52)).alloc (.cells #[.int .i64 due] 3)).heap[w8.heap.size + 1]? = some (.cells #[.int .i64 due] 3 (0, 0)) from ab_two.2)
  have HB2 := Aside0.mk (below_alloc (below_alloc HB8.out (.cells #[.slice A5 0 c5] 52)) (.cells #[.int .i64 due] 3))
  have HS2 := Aside0.mk (Kd.S_alloc (Kd.S_alloc HO8.out (.cells #[.slice A5 0 c5] 52)) (.cells #[.int .i64 due] 3))
  have HX2 := Aside0.mk (show ∀ k, (w.heap.size + 2 ≤ k ∧ k < w8.heap.size) → k ≠ w.heap.size ∧ k ≠ w8.heap.size + 1 ∧ k ≠ w8.heap.size ∧ k ≠ w.heap.size + 1 ∧ k < ((w8.alloc (.cells #[.slice A5 0 c5] 52)).alloc (.cells #[.int .i64 due] 3)).heap.size from fun k hk => ⟨by omega, by omega, by omega, by omega, by simp; omega⟩)
  have HL8 := Aside0.mk (show w.heap.size + 1 < w8.heap.size from blk_lt HM8.out)
  have hm2 := ab_cell HM2.out 0 (.int .i64 a1) rfl
  generalize ((w8.alloc (.cells #[.slice A5 0 c5] 52)).alloc (.cells #[.int .i64 due] 3)) = W2 at HW2 HM2 HO2 HD2 HB2 HS2 HX2 hm2 ⊢
  have HBX := Aside0.mk (AbBox.start HW2.out HD2.out HO2.out HM2.out (Nat.le_of_lt (Nat.lt_trans (Nat.lt_succ_self _) HL8.out)) ⟨by have := HL8.out; omega, by omega, by have := HL8.out; omega⟩ HB2.out HR0.out HS2.out HX2.out)
  clear hcw5 hcm5 HB1 HW1 HM1 HZ1 HO5 HB5 HW5 HM5 HW8 HM8 HO8 HB8 HW2 HD2 HO2 HM2 HB2 HS2 HX2
  go_upto_region 4 with fail
  generalize (W2.alloc (.cells #[.func (.func 55) #[] #[.pointer (some ⟨w.heap.size, 0, none⟩), .pointer (some ⟨w8.heap.size + 1, 0, none⟩), .pointer (some ⟨w8.heap.size, 0, none⟩), .pointer (some ⟨w.heap.size + 1, 0, none⟩), .pointer (some ⟨W2.heap.size, 0, none⟩)]] 68)) = W4 at HBX ⊢
  generalize W2.heap.size = Bf at HBX ⊢
  have HS0 := Aside0.mk (show W4.cell? ⟨Bf, 0, none⟩ = some (.func (.func 55) #[] #[.pointer (some ⟨w.heap.size, 0, none⟩), .pointer (some ⟨w8.heap.size + 1, 0, none⟩), .pointer (some ⟨w8.heap.size, 0, none⟩), .pointer (some ⟨w.heap.size + 1, 0, none⟩), .pointer (some ⟨Bf, 0, none⟩)]) ∧ W4.cell? ⟨w.heap.size + 1, 0, none⟩ = some (.int .i64 a1) ∧ W4.cell? ⟨w.heap.size, 0, none⟩ = some (.slice A0 l0.length c0) from ⟨ab_cell HBX.out.hf 0 _ rfl, ab_cell HBX.out.hm 0 _ rfl, ab_cell HBX.out.hw 0 _ rfl⟩)
  have HLT := Aside0.mk (show w8.heap.size < W4.heap.size from blk_lt HBX.out.ho)
  have hadd := fun W b hbx hR hg hno => impl_allBest.add_calls k l0 due a1 [] 0 p [] r w W A0 c0 w.heap.size (w8.heap.size + 1) w8.heap.size (w.heap.size + 1) Bf (.slice A5 0 c5) (fun k => w.heap.size + 2 ≤ k ∧ k < w8.heap.size) b 0 #[] 0 hbx hR rfl hg hno rfl A3.out
  clear hm2
  go_region_held3 (fun w' => w'.cell? ⟨Bf, 0, none⟩ = some (.func (.func 55) #[] #[.pointer (some ⟨w.heap.size, 0, none⟩), .pointer (some ⟨w8.heap.size + 1, 0, none⟩), .pointer (some ⟨w8.heap.size, 0, none⟩), .pointer (some ⟨w.heap.size + 1, 0, none⟩), .pointer (some ⟨Bf, 0, none⟩)]) ∧ w'.cell? ⟨w.heap.size + 1, 0, none⟩ = some (.int .i64 a1) ∧ w'.cell? ⟨w.heap.size, 0, none⟩ = some (.slice A0 l0.length c0))
    (first | exact HS10.out | exact ab_S HS0.out HB9.out | exact ab_S HS0.out (below_alloc HB9.out _) | exact ab_S HS0.out (below_drew (Below.refl _ _)) | exact ab_S HS0.out (below_alloc (below_drew (Below.refl _ _)) _))
    (first
      | (go_at_call 57; (with_reducible refine (impl_power.calls k a1 11 p _ A2.out).mono ?_); rintro e w9 ⟨rfl, hb9⟩; have HX9 := Aside0.mk (Drawn0.below hb9); have HB9 := Aside0.mk (show Below W4.heap.size W4 w9 from by first | exact below_step (below_drew (Below.refl _ _)) HX9.out | exact below_step (below_alloc (below_drew (Below.refl _ _)) _) HX9.out); clear hb9)
      | (go_at_call 55; (with_reducible refine (hadd _ _ ?hb ?hr ?hg ?hno).mono ?_); (case hb => first | exact HBX.out.below HB9.out | exact HBX.out.below (below_alloc HB9.out _)); (case hr => first | exact ab_empty (Nat.le_trans HBX.out.bel.size HB9.out.size) | exact (ab_empty (W := W4.drew) HBX.out.bel.size).move (HX9.out.block _ (by simp))); (case hg => first | exact (HBX.out.below HB9.out).away (Nat.le_refl _) | exact HBX.out.away (Nat.le_refl _)); (case hno => first | exact fun h9 => absurd h9.2 (Nat.not_lt.2 (Nat.le_trans (Nat.le_of_lt HLT.out) HB9.out.size)) | exact fun h9 => absurd h9.2 (Nat.not_lt.2 (Nat.le_of_lt HLT.out))); rintro e w10 ⟨rfl, h10⟩; (obtain ⟨vo, okR, curR, hb, -, -, -, -⟩ := h10); (obtain ⟨A11, c11, e11⟩ := Kd.S_slice hb.own); subst e11; have HBX10 := Aside0.mk hb; have hco := ab_cell hb.ho 0 _ rfl; have HS10 := Aside0.mk (show w10.cell? ⟨Bf, 0, none⟩ = some (.func (.func 55) #[] #[.pointer (some ⟨w.heap.size, 0, none⟩), .pointer (some ⟨w8.heap.size + 1, 0, none⟩), .pointer (some ⟨w8.heap.size, 0, none⟩), .pointer (some ⟨w.heap.size + 1, 0, none⟩), .pointer (some ⟨Bf, 0, none⟩)]) ∧ w10.cell? ⟨w.heap.size + 1, 0, none⟩ = some (.int .i64 a1) ∧ w10.cell? ⟨w.heap.size, 0, none⟩ = some (.slice A0 l0.length c0) from ⟨ab_cell hb.hf 0 _ rfl, ab_cell hb.hm 0 _ rfl, ab_cell hb.hw 0 _ rfl⟩); clear hb))
  all_goals
    go_wp2
    go_ret
    exact ⟨_, rfl, Kd.S_mono HBX10.out.own (fun _ _ => trivial), HBX10.out.bel⟩
def impl_FirstBest.f (k : Nat) (l0 : List Int) (a1 : Int) : Option (List Int × Bool) := (impl_isSearched.f k l0).bind fun t183 => (if t183 = true then ((impl_areLetters.f a1).bind fun t184 => (if t184 = true then ((impl_allBest.f k l0 a1).bind fun t185 => (if 0 < (t185.length : Int) then (some (rd_L2 t185 0, true)) else (none))) else (some (([] : List Int), false)))) else (some (([] : List Int), false)))
theorem impl_FirstBest.mono : ∀ a0 a1 k, LeO (impl_FirstBest.f k a0 a1) (impl_FirstBest.f (k + 1) a0 a1) := by
  intro a0 a1 k
  unfold impl_FirstBest.f
  repeat' first
      | (with_reducible exact impl_allBest.mono _ _ _)
      | (with_reducible exact impl_isSearched.mono _ _)
      | (with_reducible exact LeO.refl _)
      | (with_reducible exact LeO.none _)
      | (with_reducible refine LeO.ite ?_ ?_)
      | (with_reducible refine LeO.bind ?_ (fun _ => ?_))
      | exact impl_allBest.mono _ _ _
      | exact impl_isSearched.mono _ _
      | exact LeO.none _
      | refine LeO.ite ?_ ?_
      | refine LeO.bind ?_ (fun _ => ?_)
set_option maxHeartbeats 8000000 in
set_option maxRecDepth 100000 in
theorem impl_FirstBest.calls (k : Nat) (A0 : Option Addr) (c0 : Nat) (l0 : List Int) (a1 : Int) (r1 : List Int) (r2 : Bool) (w : World) (hr0 : Kd.C (Kd.int .i64) w A0 l0.length l0) (hc0 : l0.length ≤ c0) (h : impl_FirstBest.f k l0 a1 = some (r1, r2)) :
    Calls Tryz.prog 6 #[.slice A0 l0.length c0, .int .i64 a1] w fun e w' => ∃ v0_ : Value, e = .returned (.tuple #[v0_, .bool r2]) ∧ Kd.R (Kd.int .i64) 3 w' w.heap.size (fun _ => True) v0_ r1 ∧ Below w.heap.size w w' := by
  have HR0 := Aside0.mk hr0
  have HC0 := Aside0.mk hc0
  clear hr0 hc0
  have HB := Aside0.mk (Below.refl w.heap.size w)
  have H : ((impl_isSearched.f k l0).bind fun t183 => (if t183 = true then ((impl_areLetters.f a1).bind fun t184 => (if t184 = true then ((impl_allBest.f k l0 a1).bind fun t185 => (if 0 < (t185.length : Int) then (some (rd_L2 t185 0, true)) else (none))) else (some (([] : List Int), false)))) else (some (([] : List Int), false)))) = some (r1, r2) := h
  clear h
  replace H := Option.bind_eq_some_iff.mp H
  obtain ⟨t183, A30, H⟩ := H
  replace H : (if t183 = true then ((impl_areLetters.f a1).bind fun t184 => (if t184 = true then ((impl_allBest.f k l0 a1).bind fun t185 => (if 0 < (t185.length : Int) then (some (rd_L2 t185 0, true)) else (none))) else (some (([] : List Int), false)))) else (some (([] : List Int), false))) = some (r1, r2) := H
  have A3 := Aside0.mk A30
  clear A30
  by_cases c4 : t183 = true
  · subst c4
    have H1 : ((impl_areLetters.f a1).bind fun t184 => (if t184 = true then ((impl_allBest.f k l0 a1).bind fun t185 => (if 0 < (t185.length : Int) then (some (rd_L2 t185 0, true)) else (none))) else (some (([] : List Int), false)))) = some (r1, r2) := by rw [if_pos rfl] at H; exact H
    clear H
    have H := H1
    clear H1
    replace H := Option.bind_eq_some_iff.mp H
    obtain ⟨t184, A50, H⟩ := H
    replace H : (if t184 = true then ((impl_allBest.f k l0 a1).bind fun t185 => (if 0 < (t185.length : Int) then (some (rd_L2 t185 0, true)) else (none))) else (some (([] : List Int), false))) = some (r1, r2) := H
    have A5 := Aside0.mk A50
    clear A50
    by_cases c6 : t184 = true
    · subst c6
      have H1 : ((impl_allBest.f k l0 a1).bind fun t185 => (if 0 < (t185.length : Int) then (some (rd_L2 t185 0, true)) else (none))) = some (r1, r2) := by rw [if_pos rfl] at H; exact H
      clear H
      have H := H1
      clear H1
      replace H := Option.bind_eq_some_iff.mp H
      obtain ⟨t185, A70, H⟩ := H
      replace H : (if 0 < (t185.length : Int) then (some (rd_L2 t185 0, true)) else (none)) = some (r1, r2) := H
      have A7 := Aside0.mk A70
      clear A70
      by_cases c8 : 0 < (t185.length : Int)
      · rw [if_pos c8] at H
        have c8b0 : decide (0 < (t185.length : Int)) = true := decide_eq_true c8
        have c8b1 : decide (0 < t185.length) = true := decide_eq_true (by omega)
        clear c8
        simp only [Option.some.injEq, Prod.mk.injEq] at H
        obtain ⟨rfl, rfl⟩ := H
        go_enter Tryz.func6, Tryz.ntmps6
        go_wp2_with (first | ((with_reducible refine gate_callee (f := 27) rfl ?_); refine goesL_ (some 7) rfl rfl Tryz.func27 (by kernel_rfl) rfl #[.slice A0 l0.length c0] rfl (by (try simp only [List.map_toArray, List.map_cons, List.map_nil]); first | done | rfl | (simp only [List.length_drop, List.length_take]; rfl)) ?_; (with_reducible refine (impl_isSearched.calls k _ _ l0 true _ ?side1 ?side2 A3.out).mono ?_); (case side1 => repeat (first | exact HR0.out | (with_reducible refine Kd.C_alloc ?_ _) | (with_reducible refine Kd.C_drewN ?_ _) | (with_reducible refine Kd.C_drew ?_))); (case side2 => exact HC0.out); rintro e w' ⟨rfl, ⟨nd, rfl⟩⟩; refine ⟨_, rfl, ?_⟩) | (go_at_call 28; (with_reducible refine (impl_areLetters.calls a1 true _ A5.out).mono ?_); rintro e w' ⟨rfl, ⟨nd, rfl⟩⟩) | ((with_reducible refine gate_callee (f := 29) rfl ?_); refine goesL_ (some 16) rfl rfl Tryz.func29 (by kernel_rfl) rfl #[.slice A0 l0.length c0, .int .i64 a1] rfl (by (try simp only [List.map_toArray, List.map_cons, List.map_nil]); first | done | rfl | (simp only [List.length_drop, List.length_take]; rfl)) ?_; (with_reducible refine (impl_allBest.calls k _ _ l0 a1 t185 _ ?side1 ?side2 A7.out).mono ?_); (case side1 => repeat (first | exact HR0.out | (with_reducible refine Kd.C_alloc ?_ _) | (with_reducible refine Kd.C_drewN ?_ _) | (with_reducible refine Kd.C_drew ?_))); (case side2 => exact HC0.out); rintro e w9 ⟨v186, rfl, ho0, hb⟩; refine ⟨_, rfl, ?_⟩; have n0_ := Aside0.mk (Kd.S_lower ho0 (below_size (by repeat (first | (with_reducible first | exact HB.out | apply below_alloc | apply pw_below_drewN | apply below_drew1) | exact HB.out)))); have n1_ := Aside0.mk (below_step (by repeat (first | (with_reducible first | exact HB.out | apply below_alloc | apply pw_below_drewN | apply below_drew1) | exact HB.out)) hb); clear HB; have HO187 := n0_; have HB := n1_; clear n0_ n1_; (try clear hb); (try clear hb2); (try clear hk); (try clear hi); (try clear ho0); obtain ⟨Ao10, co10, eo10⟩ := Kd.S_slice HO187.out; subst eo10; have p188 : 0 ≤ (0 : Int) := (by omega); have q188 : 0 < (t185.length : Int) := of_decide_eq_true (by first | (with_reducible assumption) | assumption); obtain ⟨ad188, A188_0, c188_0, e188, hx188_0, hl188_0, hi188_0⟩ := at_L2 (Kd.S_reads' HO187.out).2.2 0 p188 q188; cases e188; obtain ⟨ce188, hce188, hMe188, hcc188⟩ := Kd.S_get HO187.out [] 0 p188 (by first | exact q188 | exact of_decide_eq_true (by first | (with_reducible assumption) | assumption) | (have e_ := (Kd.S_reads' HO187.out).1; omega)); obtain ⟨ve188_0, rfl, ge188_0⟩ := hMe188; have hv188_0 := hcc188 0 _ rfl; rw [Nat.add_zero, show ((Kd.slice 3 (Kd.int .i64))).sz = 1 from rfl, Nat.mul_one] at hv188_0; replace hv188_0 := Option.some.inj (hv188_0.symm.trans hx188_0); rw [hv188_0] at ge188_0; have HL188_0 := Aside0.mk (show Kd.R (Kd.int .i64) 3 _ _ _ _ (rd_L2 t185 0) from ge188_0); clear hv188_0 ge188_0; clear hcc188 hce188; have qi188 : (0 < t185.length) = True := eq_true (by omega); (try rw [show ((0 : Int)).toNat = 0 from rfl] at hx188_0); (try rw [Addr.add_zero'] at hx188_0); have HR188_0 := Aside0.mk hi188_0; have HC188_0 := Aside0.mk hl188_0; clear hi188_0 hl188_0; replace p188 := eq_true p188; replace q188 := eq_true q188))
        go_ret2
        exact ⟨_, by first | rfl | (simp [errW_none, errW_some] <;> rfl) | (simp [*, errW_none, errW_some] <;> rfl), by (with_reducible repeat (first | apply Kd.R_alloc | apply Kd.R_drewN | apply Kd.R_drew)); exact Kd.R_mono HL188_0.out (fun _ hk => trivial), by repeat (first | (with_reducible first | exact HB.out | apply below_alloc | apply pw_below_drewN | apply below_drew1) | exact HB.out)⟩
      · rw [if_neg c8] at H
        exact absurd H (by simp)
    · replace c6 := Bool.eq_false_iff.mpr c6
      subst c6
      have H1 : (some (([] : List Int), false)) = some (r1, r2) := by rw [if_neg (show ¬ (false = true) by decide)] at H; exact H
      clear H
      have H := H1
      clear H1
      simp only [Option.some.injEq, Prod.mk.injEq] at H
      obtain ⟨rfl, rfl⟩ := H
      go_enter Tryz.func6, Tryz.ntmps6
      go_wp2_with (first | ((with_reducible refine gate_callee (f := 27) rfl ?_); refine goesL_ (some 7) rfl rfl Tryz.func27 (by kernel_rfl) rfl #[.slice A0 l0.length c0] rfl (by (try simp only [List.map_toArray, List.map_cons, List.map_nil]); first | done | rfl | (simp only [List.length_drop, List.length_take]; rfl)) ?_; (with_reducible refine (impl_isSearched.calls k _ _ l0 true _ ?side1 ?side2 A3.out).mono ?_); (case side1 => repeat (first | exact HR0.out | (with_reducible refine Kd.C_alloc ?_ _) | (with_reducible refine Kd.C_drewN ?_ _) | (with_reducible refine Kd.C_drew ?_))); (case side2 => exact HC0.out); rintro e w' ⟨rfl, ⟨nd, rfl⟩⟩; refine ⟨_, rfl, ?_⟩) | (go_at_call 28; (with_reducible refine (impl_areLetters.calls a1 false _ A5.out).mono ?_); rintro e w' ⟨rfl, ⟨nd, rfl⟩⟩))
      go_ret2
      exact ⟨_, by first | rfl | (simp [errW_none, errW_some] <;> rfl) | (simp [*, errW_none, errW_some] <;> rfl), by first | exact Kd.R_nil _ _ _ _ _ | exact Kd.N_nil _ _ _ _ _ | exact Kd.V_nil _ _ _ _ _ | exact Kd.Q_nil _ _ _ _ _ | exact Kd.S_nil _ _ _ _ _, by repeat (first | (with_reducible first | exact HB.out | apply below_alloc | apply pw_below_drewN | apply below_drew1) | exact HB.out)⟩
  · replace c4 := Bool.eq_false_iff.mpr c4
    subst c4
    have H1 : (some (([] : List Int), false)) = some (r1, r2) := by rw [if_neg (show ¬ (false = true) by decide)] at H; exact H
    clear H
    have H := H1
    clear H1
    simp only [Option.some.injEq, Prod.mk.injEq] at H
    obtain ⟨rfl, rfl⟩ := H
    go_enter Tryz.func6, Tryz.ntmps6
    go_wp2_with (first | ((with_reducible refine gate_callee (f := 27) rfl ?_); refine goesL_ (some 7) rfl rfl Tryz.func27 (by kernel_rfl) rfl #[.slice A0 l0.length c0] rfl (by (try simp only [List.map_toArray, List.map_cons, List.map_nil]); first | done | rfl | (simp only [List.length_drop, List.length_take]; rfl)) ?_; (with_reducible refine (impl_isSearched.calls k _ _ l0 false _ ?side1 ?side2 A3.out).mono ?_); (case side1 => repeat (first | exact HR0.out | (with_reducible refine Kd.C_alloc ?_ _) | (with_reducible refine Kd.C_drewN ?_ _) | (with_reducible refine Kd.C_drew ?_))); (case side2 => exact HC0.out); rintro e w' ⟨rfl, ⟨nd, rfl⟩⟩; refine ⟨_, rfl, ?_⟩))
    go_ret2
    exact ⟨_, by first | rfl | (simp [errW_none, errW_some] <;> rfl) | (simp [*, errW_none, errW_some] <;> rfl), by first | exact Kd.R_nil _ _ _ _ _ | exact Kd.N_nil _ _ _ _ _ | exact Kd.V_nil _ _ _ _ _ | exact Kd.Q_nil _ _ _ _ _ | exact Kd.S_nil _ _ _ _ _, by repeat (first | (with_reducible first | exact HB.out | apply below_alloc | apply pw_below_drewN | apply below_drew1) | exact HB.out)⟩
def spec_l1In.f (a0 : Int) (a1 : Int) (a2 : Int) : Option (Bool) := if a0 ≥ a1 then (some (decide (a0 ≤ a2))) else (some false)
set_option maxHeartbeats 8000000 in
set_option maxRecDepth 100000 in
theorem spec_l1In.calls (a0 : Int) (a1 : Int) (a2 : Int) (r : Bool) (w : World) (h : spec_l1In.f a0 a1 a2 = some r) :
    Calls Tryz.prog 74 #[.int .i64 a0, .int .i64 a1, .int .i64 a2] w fun e w' => e = .returned (.bool r) ∧ Drawn0 w w' := by
  have H : (if a0 ≥ a1 then (some (decide (a0 ≤ a2))) else (some false)) = some r := h
  clear h
  by_cases c4 : a0 ≥ a1
  · rw [if_pos c4] at H
    have c4b0 : decide (a1 ≤ a0) = true := decide_eq_true c4
    clear c4
    obtain rfl := Option.some.inj H
    go_enter Tryz.func74, Tryz.ntmps74
    go_wp2
    go_ret
    exact ⟨by first | rfl | (simp; done) | (simp [*]; done) | (simp only [IntWalk.i64_left]; done) | (simp [IntWalk.i64_left]; done) | (simp [*, IntWalk.i64_left]; done), by repeat (first | exact Drawn0.refl _ | apply Drawn0.step)⟩
  · rw [if_neg c4] at H
    have c4b0 : decide (a1 ≤ a0) = false := decide_eq_false c4
    clear c4
    obtain rfl := Option.some.inj H
    go_enter Tryz.func74, Tryz.ntmps74
    go_wp2
    go_ret
    exact ⟨by first | rfl | (simp; done) | (simp [*]; done) | (simp only [IntWalk.i64_left]; done) | (simp [IntWalk.i64_left]; done) | (simp [*, IntWalk.i64_left]; done), by repeat (first | exact Drawn0.refl _ | apply Drawn0.step)⟩
def spec_l1All.l0 : Nat → Int → Int → List Int → Int → Int → Option (Bool)
  | 0, _, _, _, _, _ => none
  | k + 1, x1, x2, x9, x10, x11 => if x11 < x10 then (if 0 ≤ x11 then (if x11 < (x9.length : Int) then ((spec_l1In.f (rd x9 x11) x1 x2).bind fun t190 => (if t190 = true then (spec_l1All.l0 k x1 x2 x9 x10 (wrap64 (x11 + 1))) else (some false))) else (none)) else (none)) else (some true)
def spec_l1All.f (k : Nat) (l0 : List Int) (a1 : Int) (a2 : Int) : Option (Bool) := spec_l1All.l0 k a1 a2 l0 (l0.length : Int) 0
theorem spec_l1All.mono_l : ∀ k, (∀ y0 y1 y2 y3 y4, LeO (spec_l1All.l0 k y0 y1 y2 y3 y4) (spec_l1All.l0 (k + 1) y0 y1 y2 y3 y4))
  | 0 => fun _ _ _ _ _ r h => by simp [spec_l1All.l0] at h
  | k + 1 => by
    have ih0 := spec_l1All.mono_l k
    · intro y0 y1 y2 y3 y4
      unfold spec_l1All.l0
      repeat' first
      | (with_reducible exact ih0 _ _ _ _ _)
      | (with_reducible exact LeO.refl _)
      | (with_reducible exact LeO.none _)
      | (with_reducible refine LeO.ite ?_ ?_)
      | (with_reducible refine LeO.bind ?_ (fun _ => ?_))
      | exact ih0 _ _ _ _ _
      | exact LeO.none _
      | refine LeO.ite ?_ ?_
      | refine LeO.bind ?_ (fun _ => ?_)
theorem spec_l1All.mono : ∀ a0 a1 a2 k, LeO (spec_l1All.f k a0 a1 a2) (spec_l1All.f (k + 1) a0 a1 a2) := by
  intro a0 a1 a2 k
  have ih0 := spec_l1All.mono_l k
  unfold spec_l1All.f
  repeat' first
      | (with_reducible exact ih0 _ _ _ _ _)
      | (with_reducible exact LeO.refl _)
      | (with_reducible exact LeO.none _)
      | (with_reducible refine LeO.ite ?_ ?_)
      | (with_reducible refine LeO.bind ?_ (fun _ => ?_))
      | exact ih0 _ _ _ _ _
      | exact LeO.none _
      | refine LeO.ite ?_ ?_
      | refine LeO.bind ?_ (fun _ => ?_)
set_option maxHeartbeats 8000000 in
set_option maxRecDepth 100000 in
theorem spec_l1All.calls (k : Nat) (A0 : Option Addr) (c0 : Nat) (l0 : List Int) (a1 : Int) (a2 : Int) (r : Bool) (w : World) (hr0 : Kd.C (Kd.int .i64) w A0 l0.length l0) (hc0 : l0.length ≤ c0) (h : spec_l1All.f k l0 a1 a2 = some r) :
    Calls Tryz.prog 75 #[.slice A0 l0.length c0, .int .i64 a1, .int .i64 a2] w fun e w' => e = .returned (.bool r) ∧ Drawn0 w w' := by
  have HR0 := Aside0.mk hr0
  have HC0 := Aside0.mk hc0
  clear hr0 hc0
  have H : (spec_l1All.l0 k a1 a2 l0 (l0.length : Int) 0) = some r := h
  clear h
  have H' := Aside0.mk H
  clear H
  go_enter Tryz.func75, Tryz.ntmps75
  go_wp2
  go_loopg [11] k (fun kq v11 w' => ∃ (x11_1 : Int), v11 = .int .i64 x11_1 ∧ Aside0 (spec_l1All.l0 kq a1 a2 l0 (l0.length : Int) x11_1 = some r) ∧ Aside0 (kq ≤ k) ∧ Drawn0 w w')
  case atStart => exact ⟨(0), (by first | rfl | (simp; done) | (simp [*]; done) | (simp only [IntWalk.i64_left]; done) | (simp [IntWalk.i64_left]; done) | (simp [*, IntWalk.i64_left]; done)), H', ⟨Nat.le_refl _⟩, by repeat (first | exact Drawn0.refl _ | apply Drawn0.step)⟩
  case round =>
    clear H'
    try clear p2
    obtain ⟨x11_1, rfl, HA, HK1, ⟨m1, rfl⟩⟩ := hrel
    cases gk with
    | zero => exact absurd HA.out (by simp [spec_l1All.l0])
    | succ k1 =>
      have H := HA.out
      clear HA
      simp only [spec_l1All.l0] at H
      by_cases c4 : x11_1 < (l0.length : Int)
      · rw [if_pos c4] at H
        have c4b0 : decide (x11_1 < (l0.length : Int)) = true := decide_eq_true c4
        clear c4
        by_cases c5 : 0 ≤ x11_1
        · rw [if_pos c5] at H
          have c5b0 : decide (0 ≤ x11_1) = true := decide_eq_true c5
          clear c5
          by_cases c6 : x11_1 < (l0.length : Int)
          · rw [if_pos c6] at H
            have c6b0 : decide (x11_1 < (l0.length : Int)) = true := decide_eq_true c6
            clear c6
            replace H := Option.bind_eq_some_iff.mp H
            obtain ⟨t190, A70, H⟩ := H
            replace H : (if t190 = true then (spec_l1All.l0 k1 a1 a2 l0 (l0.length : Int) (wrap64 (x11_1 + 1))) else (some false)) = some r := H
            have A7 := Aside0.mk A70
            clear A70
            by_cases c8 : t190 = true
            · subst c8
              have H1 : (spec_l1All.l0 k1 a1 a2 l0 (l0.length : Int) (wrap64 (x11_1 + 1))) = some r := by rw [if_pos rfl] at H; exact H
              clear H
              have H := H1
              clear H1
              have H' := Aside0.mk H
              clear H
              have p189 : 0 ≤ (x11_1 : Int) := of_decide_eq_true (by first | (with_reducible assumption) | assumption)
              have q189 : x11_1 < (l0.length : Int) := of_decide_eq_true (by first | (with_reducible assumption) | assumption)
              obtain ⟨ad189, e189, hx189_0⟩ := Kd.at_int HR0.out x11_1 p189 q189
              cases e189
              replace p189 := eq_true p189
              replace q189 := eq_true q189
              go_wp2_with (first | ((with_reducible refine gate_callee (f := 74) rfl ?_); refine goesL_ (some 18) rfl rfl Tryz.func74 (by kernel_rfl) rfl #[.int .i64 (rd l0 x11_1), .int .i64 a1, .int .i64 a2] rfl (by (try simp only [List.map_toArray, List.map_cons, List.map_nil]); first | done | rfl | (simp only [List.length_drop, List.length_take]; rfl)) ?_; (with_reducible refine (spec_l1In.calls (rd l0 x11_1) a1 a2 true _ A7.out).mono ?_); rintro e w' ⟨rfl, ⟨nd, rfl⟩⟩; refine ⟨_, rfl, ?_⟩))
              go_roundg k1
              case measure => have := HK1.out; omega
              case rel => exact ⟨(wrap64 (x11_1 + 1)), (by first | rfl | (simp; done) | (simp [*]; done) | (simp only [IntWalk.i64_left]; done) | (simp [IntWalk.i64_left]; done) | (simp [*, IntWalk.i64_left]; done)), H', ⟨by have := HK1.out; omega⟩, by repeat (first | exact Drawn0.refl _ | apply Drawn0.step)⟩
            · replace c8 := Bool.eq_false_iff.mpr c8
              subst c8
              have H1 : (some false) = some r := by rw [if_neg (show ¬ (false = true) by decide)] at H; exact H
              clear H
              have H := H1
              clear H1
              obtain rfl := Option.some.inj H
              have p189 : 0 ≤ (x11_1 : Int) := of_decide_eq_true (by first | (with_reducible assumption) | assumption)
              have q189 : x11_1 < (l0.length : Int) := of_decide_eq_true (by first | (with_reducible assumption) | assumption)
              obtain ⟨ad189, e189, hx189_0⟩ := Kd.at_int HR0.out x11_1 p189 q189
              cases e189
              replace p189 := eq_true p189
              replace q189 := eq_true q189
              go_wp2_with (first | ((with_reducible refine gate_callee (f := 74) rfl ?_); refine goesL_ (some 18) rfl rfl Tryz.func74 (by kernel_rfl) rfl #[.int .i64 (rd l0 x11_1), .int .i64 a1, .int .i64 a2] rfl (by (try simp only [List.map_toArray, List.map_cons, List.map_nil]); first | done | rfl | (simp only [List.length_drop, List.length_take]; rfl)) ?_; (with_reducible refine (spec_l1In.calls (rd l0 x11_1) a1 a2 false _ A7.out).mono ?_); rintro e w' ⟨rfl, ⟨nd, rfl⟩⟩; refine ⟨_, rfl, ?_⟩))
              go_ret
              exact ⟨by first | rfl | (simp; done) | (simp [*]; done) | (simp only [IntWalk.i64_left]; done) | (simp [IntWalk.i64_left]; done) | (simp [*, IntWalk.i64_left]; done), by repeat (first | exact Drawn0.refl _ | apply Drawn0.step)⟩
          · rw [if_neg c6] at H
            exact absurd H (by simp)
        · rw [if_neg c5] at H
          exact absurd H (by simp)
      · rw [if_neg c4] at H
        have c4b0 : decide (x11_1 < (l0.length : Int)) = false := decide_eq_false c4
        clear c4
        obtain rfl := Option.some.inj H
        go_wp2
        go_ret
        exact ⟨by first | rfl | (simp; done) | (simp [*]; done) | (simp only [IntWalk.i64_left]; done) | (simp [IntWalk.i64_left]; done) | (simp [*, IntWalk.i64_left]; done), by repeat (first | exact Drawn0.refl _ | apply Drawn0.step)⟩
def spec_beWeights.f (k : Nat) (l0 : List Int) : Option (Bool) := (spec_l1In.f (l0.length : Int) 1 12).bind fun t191 => (if t191 = true then ((spec_l1All.f k l0 1 100).bind fun t192 => (some t192)) else (some false))
theorem spec_beWeights.mono : ∀ a0 k, LeO (spec_beWeights.f k a0) (spec_beWeights.f (k + 1) a0) := by
  intro a0 k
  unfold spec_beWeights.f
  repeat' first
      | (with_reducible exact spec_l1All.mono _ _ _ _)
      | (with_reducible exact LeO.refl _)
      | (with_reducible exact LeO.none _)
      | (with_reducible refine LeO.ite ?_ ?_)
      | (with_reducible refine LeO.bind ?_ (fun _ => ?_))
      | exact spec_l1All.mono _ _ _ _
      | exact LeO.none _
      | refine LeO.ite ?_ ?_
      | refine LeO.bind ?_ (fun _ => ?_)
set_option maxHeartbeats 8000000 in
set_option maxRecDepth 100000 in
theorem spec_beWeights.calls (k : Nat) (A0 : Option Addr) (c0 : Nat) (l0 : List Int) (r : Bool) (w : World) (hr0 : Kd.C (Kd.int .i64) w A0 l0.length l0) (hc0 : l0.length ≤ c0) (h : spec_beWeights.f k l0 = some r) :
    Calls Tryz.prog 51 #[.slice A0 l0.length c0] w fun e w' => e = .returned (.bool r) ∧ Drawn0 w w' := by
  have HR0 := Aside0.mk hr0
  have HC0 := Aside0.mk hc0
  clear hr0 hc0
  have H : ((spec_l1In.f (l0.length : Int) 1 12).bind fun t191 => (if t191 = true then ((spec_l1All.f k l0 1 100).bind fun t192 => (some t192)) else (some false))) = some r := h
  clear h
  replace H := Option.bind_eq_some_iff.mp H
  obtain ⟨t191, A20, H⟩ := H
  replace H : (if t191 = true then ((spec_l1All.f k l0 1 100).bind fun t192 => (some t192)) else (some false)) = some r := H
  have A2 := Aside0.mk A20
  clear A20
  by_cases c3 : t191 = true
  · subst c3
    have H1 : ((spec_l1All.f k l0 1 100).bind fun t192 => (some t192)) = some r := by rw [if_pos rfl] at H; exact H
    clear H
    have H := H1
    clear H1
    replace H := Option.bind_eq_some_iff.mp H
    obtain ⟨t192, A40, H⟩ := H
    replace H : (some t192) = some r := H
    have A4 := Aside0.mk A40
    clear A40
    obtain rfl := Option.some.inj H
    go_enter Tryz.func51, Tryz.ntmps51
    go_wp2_with (first | ((with_reducible refine gate_callee (f := 74) rfl ?_); refine goesL_ (some 5) rfl rfl Tryz.func74 (by kernel_rfl) rfl #[.int .i64 (l0.length : Int), .int .i64 1, .int .i64 12] rfl (by (try simp only [List.map_toArray, List.map_cons, List.map_nil]); first | done | rfl | (simp only [List.length_drop, List.length_take]; rfl)) ?_; (with_reducible refine (spec_l1In.calls (l0.length : Int) 1 12 true _ A2.out).mono ?_); rintro e w' ⟨rfl, ⟨nd, rfl⟩⟩; refine ⟨_, rfl, ?_⟩) | (go_at_call 75; (with_reducible refine (spec_l1All.calls k _ _ l0 1 100 t192 _ ?side1 ?side2 A4.out).mono ?_); (case side1 => repeat (first | exact HR0.out | (with_reducible refine Kd.C_alloc ?_ _) | (with_reducible refine Kd.C_drewN ?_ _) | (with_reducible refine Kd.C_drew ?_))); (case side2 => exact HC0.out); rintro e w' ⟨rfl, ⟨nd, rfl⟩⟩))
    go_ret
    exact ⟨by first | rfl | (simp; done) | (simp [*]; done) | (simp only [IntWalk.i64_left]; done) | (simp [IntWalk.i64_left]; done) | (simp [*, IntWalk.i64_left]; done), by repeat (first | exact Drawn0.refl _ | apply Drawn0.step)⟩
  · replace c3 := Bool.eq_false_iff.mpr c3
    subst c3
    have H1 : (some false) = some r := by rw [if_neg (show ¬ (false = true) by decide)] at H; exact H
    clear H
    have H := H1
    clear H1
    obtain rfl := Option.some.inj H
    go_enter Tryz.func51, Tryz.ntmps51
    go_wp2_with (first | ((with_reducible refine gate_callee (f := 74) rfl ?_); refine goesL_ (some 5) rfl rfl Tryz.func74 (by kernel_rfl) rfl #[.int .i64 (l0.length : Int), .int .i64 1, .int .i64 12] rfl (by (try simp only [List.map_toArray, List.map_cons, List.map_nil]); first | done | rfl | (simp only [List.length_drop, List.length_take]; rfl)) ?_; (with_reducible refine (spec_l1In.calls (l0.length : Int) 1 12 false _ A2.out).mono ?_); rintro e w' ⟨rfl, ⟨nd, rfl⟩⟩; refine ⟨_, rfl, ?_⟩))
    go_ret
    exact ⟨by first | rfl | (simp; done) | (simp [*]; done) | (simp only [IntWalk.i64_left]; done) | (simp [IntWalk.i64_left]; done) | (simp [*, IntWalk.i64_left]; done), by repeat (first | exact Drawn0.refl _ | apply Drawn0.step)⟩
def spec_krLetters.f (a0 : Int) : Option (Bool) := (spec_l1In.f a0 2 3).bind fun t193 => (some t193)
set_option maxHeartbeats 8000000 in
set_option maxRecDepth 100000 in
theorem spec_krLetters.calls (a0 : Int) (r : Bool) (w : World) (h : spec_krLetters.f a0 = some r) :
    Calls Tryz.prog 58 #[.int .i64 a0] w fun e w' => e = .returned (.bool r) ∧ Drawn0 w w' := by
  have H : ((spec_l1In.f a0 2 3).bind fun t193 => (some t193)) = some r := h
  clear h
  replace H := Option.bind_eq_some_iff.mp H
  obtain ⟨t193, A20, H⟩ := H
  replace H : (some t193) = some r := H
  have A2 := Aside0.mk A20
  clear A20
  obtain rfl := Option.some.inj H
  go_enter Tryz.func58, Tryz.ntmps58
  go_wp2_with (first | ((with_reducible refine gate_callee (f := 74) rfl ?_); refine goesL_ (some 4) rfl rfl Tryz.func74 (by kernel_rfl) rfl #[.int .i64 a0, .int .i64 2, .int .i64 3] rfl (by (try simp only [List.map_toArray, List.map_cons, List.map_nil]); first | done | rfl | (simp only [List.length_drop, List.length_take]; rfl)) ?_; (with_reducible refine (spec_l1In.calls a0 2 3 t193 _ A2.out).mono ?_); rintro e w' ⟨rfl, ⟨nd, rfl⟩⟩; refine ⟨_, rfl, ?_⟩))
  go_ret
  exact ⟨by first | rfl | (simp; done) | (simp [*]; done) | (simp only [IntWalk.i64_left]; done) | (simp [IntWalk.i64_left]; done) | (simp [*, IntWalk.i64_left]; done), by repeat (first | exact Drawn0.refl _ | apply Drawn0.step)⟩
def spec_beAsked.f (k : Nat) (l0 : List Int) (a1 : Int) : Option (Bool) := (spec_krLetters.f a1).bind fun t194 => (if t194 = true then ((spec_beWeights.f k l0).bind fun t195 => (some t195)) else (some false))
theorem spec_beAsked.mono : ∀ a0 a1 k, LeO (spec_beAsked.f k a0 a1) (spec_beAsked.f (k + 1) a0 a1) := by
  intro a0 a1 k
  unfold spec_beAsked.f
  repeat' first
      | (with_reducible exact spec_beWeights.mono _ _)
      | (with_reducible exact LeO.refl _)
      | (with_reducible exact LeO.none _)
      | (with_reducible refine LeO.ite ?_ ?_)
      | (with_reducible refine LeO.bind ?_ (fun _ => ?_))
      | exact spec_beWeights.mono _ _
      | exact LeO.none _
      | refine LeO.ite ?_ ?_
      | refine LeO.bind ?_ (fun _ => ?_)
set_option maxHeartbeats 8000000 in
set_option maxRecDepth 100000 in
theorem spec_beAsked.calls (k : Nat) (A0 : Option Addr) (c0 : Nat) (l0 : List Int) (a1 : Int) (r : Bool) (w : World) (hr0 : Kd.C (Kd.int .i64) w A0 l0.length l0) (hc0 : l0.length ≤ c0) (h : spec_beAsked.f k l0 a1 = some r) :
    Calls Tryz.prog 30 #[.slice A0 l0.length c0, .int .i64 a1] w fun e w' => e = .returned (.bool r) ∧ Drawn0 w w' := by
  have HR0 := Aside0.mk hr0
  have HC0 := Aside0.mk hc0
  clear hr0 hc0
  have H : ((spec_krLetters.f a1).bind fun t194 => (if t194 = true then ((spec_beWeights.f k l0).bind fun t195 => (some t195)) else (some false))) = some r := h
  clear h
  replace H := Option.bind_eq_some_iff.mp H
  obtain ⟨t194, A30, H⟩ := H
  replace H : (if t194 = true then ((spec_beWeights.f k l0).bind fun t195 => (some t195)) else (some false)) = some r := H
  have A3 := Aside0.mk A30
  clear A30
  by_cases c4 : t194 = true
  · subst c4
    have H1 : ((spec_beWeights.f k l0).bind fun t195 => (some t195)) = some r := by rw [if_pos rfl] at H; exact H
    clear H
    have H := H1
    clear H1
    replace H := Option.bind_eq_some_iff.mp H
    obtain ⟨t195, A50, H⟩ := H
    replace H : (some t195) = some r := H
    have A5 := Aside0.mk A50
    clear A50
    obtain rfl := Option.some.inj H
    go_enter Tryz.func30, Tryz.ntmps30
    go_wp2_with (first | ((with_reducible refine gate_callee (f := 58) rfl ?_); refine goesL_ (some 6) rfl rfl Tryz.func58 (by kernel_rfl) rfl #[.int .i64 a1] rfl (by (try simp only [List.map_toArray, List.map_cons, List.map_nil]); first | done | rfl | (simp only [List.length_drop, List.length_take]; rfl)) ?_; (with_reducible refine (spec_krLetters.calls a1 true _ A3.out).mono ?_); rintro e w' ⟨rfl, ⟨nd, rfl⟩⟩; refine ⟨_, rfl, ?_⟩) | (go_at_call 51; (with_reducible refine (spec_beWeights.calls k _ _ l0 t195 _ ?side1 ?side2 A5.out).mono ?_); (case side1 => repeat (first | exact HR0.out | (with_reducible refine Kd.C_alloc ?_ _) | (with_reducible refine Kd.C_drewN ?_ _) | (with_reducible refine Kd.C_drew ?_))); (case side2 => exact HC0.out); rintro e w' ⟨rfl, ⟨nd, rfl⟩⟩))
    go_ret
    exact ⟨by first | rfl | (simp; done) | (simp [*]; done) | (simp only [IntWalk.i64_left]; done) | (simp [IntWalk.i64_left]; done) | (simp [*, IntWalk.i64_left]; done), by repeat (first | exact Drawn0.refl _ | apply Drawn0.step)⟩
  · replace c4 := Bool.eq_false_iff.mpr c4
    subst c4
    have H1 : (some false) = some r := by rw [if_neg (show ¬ (false = true) by decide)] at H; exact H
    clear H
    have H := H1
    clear H1
    obtain rfl := Option.some.inj H
    go_enter Tryz.func30, Tryz.ntmps30
    go_wp2_with (first | ((with_reducible refine gate_callee (f := 58) rfl ?_); refine goesL_ (some 6) rfl rfl Tryz.func58 (by kernel_rfl) rfl #[.int .i64 a1] rfl (by (try simp only [List.map_toArray, List.map_cons, List.map_nil]); first | done | rfl | (simp only [List.length_drop, List.length_take]; rfl)) ?_; (with_reducible refine (spec_krLetters.calls a1 false _ A3.out).mono ?_); rintro e w' ⟨rfl, ⟨nd, rfl⟩⟩; refine ⟨_, rfl, ?_⟩))
    go_ret
    exact ⟨by first | rfl | (simp; done) | (simp [*]; done) | (simp only [IntWalk.i64_left]; done) | (simp [IntWalk.i64_left]; done) | (simp [*, IntWalk.i64_left]; done), by repeat (first | exact Drawn0.refl _ | apply Drawn0.step)⟩
def spec_l1Own.f (l0 : List Int) : Option (List Int) := (some (([] : List Int) : List Int)).bind fun y196 => (if y196.length + l0.length < 17592186044416 then (some (y196 ++ l0)) else (none))
set_option maxHeartbeats 8000000 in
set_option maxRecDepth 100000 in
theorem spec_l1Own.calls (A0 : Option Addr) (c0 : Nat) (l0 : List Int) (r : List Int) (w : World) (hr0 : Kd.C (Kd.int .i64) w A0 l0.length l0) (hc0 : l0.length ≤ c0) (h : spec_l1Own.f l0 = some r) :
    Calls Tryz.prog 73 #[.slice A0 l0.length c0] w fun e w' => ∃ v0_ : Value, e = .returned (v0_) ∧ Kd.R (Kd.int .i64) 3 w' w.heap.size (fun _ => True) v0_ r ∧ Below w.heap.size w w' := by
  have HR0 := Aside0.mk hr0
  have HC0 := Aside0.mk hc0
  clear hr0 hc0
  have HB := Aside0.mk (Below.refl w.heap.size w)
  have H : ((some (([] : List Int) : List Int)).bind fun y196 => (if y196.length + l0.length < 17592186044416 then (some (y196 ++ l0)) else (none))) = some r := h
  clear h
  obtain ⟨y196, hy196⟩ : ∃ y_ : List Int, y_ = (([] : List Int)) := ⟨_, rfl⟩
  replace H : (if y196.length + l0.length < 17592186044416 then (some (y196 ++ l0)) else (none)) = some r := by first | (rw [hy196]; with_reducible exact H) | (have H2_ := (Option.bind_some _ _).symm.trans H; rw [hy196]; with_reducible exact H2_) | (have H2_ := (Option.bind_some _ _).symm.trans H; with_reducible exact H2_) | with_reducible exact H | (rw [hy196]; exact H) | exact H
  have Ny196 := Aside0.mk hy196
  clear hy196
  by_cases c2 : y196.length + l0.length < 17592186044416
  · rw [if_pos c2] at H
    have LMc2 := Aside0.mk c2
    clear c2
    obtain ⟨y199, hy199⟩ : ∃ y_ : List Int, y_ = (y196 ++ l0) := ⟨_, rfl⟩
    replace H : (some y199) = some r := by first | (rw [hy199]; with_reducible exact H) | (have H2_ := (Option.bind_some _ _).symm.trans H; rw [hy199]; with_reducible exact H2_) | (have H2_ := (Option.bind_some _ _).symm.trans H; with_reducible exact H2_) | with_reducible exact H | (rw [hy199]; exact H) | exact H
    have Ny199 := Aside0.mk hy199
    clear hy199
    obtain rfl := Option.some.inj H
    go_enter Tryz.func73, Tryz.ntmps73
    go_wp2_with (first | ((with_reducible refine gate_dst (N := 3) rfl ?_); refine Kd.R_lit (Kd.int .i64) _ 3 ?hg (N := 3) ?hd (xs := ([] : List Int)) (inner := []) (ok := fun _ => True) (okp := fun _ => True) ?hr ?hp (fun _ hk => hk) trivial (Below.refl _ _) (Nat.le_refl _) (by simp) ?_; (case hd => rfl); (case hg => rfl); (case hr => first | (go_simp; done) | (go_simp; rfl)); (case hp => exact (Reps.none _ _)); intro v197 w3 ho4 hb hg_ hnew_; clear hg_ hnew_; (first | rw [← Ny196.out] at ho4 | (simp only [Int.reduceToNat] at ho4; rw [← Ny196.out] at ho4)); have n0_ := Aside0.mk (Kd.R_lower ho4 (below_size (by repeat (first | (with_reducible first | exact HB.out | apply below_alloc | apply pw_below_drewN | apply below_drew1) | exact HB.out)))); have n1_ := Aside0.mk (below_step (by repeat (first | (with_reducible first | exact HB.out | apply below_alloc | apply pw_below_drewN | apply below_drew1) | exact HB.out)) hb); clear HB; have HO198 := n0_; have HB := n1_; clear n0_ n1_; clear hb ho4) | ((with_reducible refine gate_builtin (b := .append) (xs := #[.tmp 3, .tmp 4]) rfl ?_); at_builtin; refine Kd.R_append_rows (Kd.int .i64) (w0 := w) w.heap.size rfl (.tmp 3) (.tmp 4) 24 3 (.int .i64 0) 8 rfl Tryz.underlying24 info3 rfl (by decide) (by omega) v197 y196 l0 _ _ _ (fun _ => True) (fun _ => False) rfl rfl ?aO ?aR (fun _ _ h => h) (fun _ h => h.elim) ?aF ?aB ?aS ?aL ?_; (case aR => repeat (first | exact (Kd.C_below HR0.out HB.out) | (with_reducible refine Kd.C_alloc ?_ _) | (with_reducible refine Kd.C_drewN ?_ _) | (with_reducible refine Kd.C_drew ?_))); (case aB => exact (by repeat (first | (with_reducible first | exact HB.out | apply below_alloc | apply pw_below_drewN | apply below_drew1) | exact HB.out))); (case aF => exact (fun _ _ => trivial)); (case aO => exact (by (with_reducible repeat (first | apply Kd.R_alloc | apply Kd.R_drewN | apply Kd.R_drew)); exact HO198.out)); (case aS => exact (below_size (by repeat (first | (with_reducible first | exact HB.out | apply below_alloc | apply pw_below_drewN | apply below_drew1) | exact HB.out)))); (case aL => have := LMc2.out; omega); intro v200 w5 ho hb hg hat; rw [← Ny199.out] at ho; have n0_ := Aside0.mk (hb); have n1_ := Aside0.mk (ho); clear HB; clear HO198; have HB := n0_; have HO201 := n1_; clear n0_ n1_; clear ho hb hg hat))
    go_ret
    exact ⟨_, by first | rfl | (simp [errW_none, errW_some] <;> rfl) | (simp [*, errW_none, errW_some] <;> rfl), by (with_reducible repeat (first | apply Kd.R_alloc | apply Kd.R_drewN | apply Kd.R_drew)); exact HO201.out, by repeat (first | (with_reducible first | exact HB.out | apply below_alloc | apply pw_below_drewN | apply below_drew1) | exact HB.out)⟩
  · rw [if_neg c2] at H
    exact absurd H (by simp)
end Go.Proofs.YtcdmmpbcjcajlaaGreat.XFnBestIsMerged
