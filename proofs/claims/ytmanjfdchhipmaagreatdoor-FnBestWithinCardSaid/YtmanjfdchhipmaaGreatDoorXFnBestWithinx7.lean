-- by wip/shake.py
import Derived.Test.YtmanjfdchhipmaaGreatDoorXFnBestWithinx0
import Derived.Test.YtmanjfdchhipmaaGreatDoorXFnBestWithinx1
import Derived.Test.YtmanjfdchhipmaaGreatDoorXFnBestWithinx3
import Derived.Test.YtmanjfdchhipmaaGreatDoorXFnBestWithinx4
import Derived.Test.YtmanjfdchhipmaaGreatDoorXFnBestWithinx5
import Derived.Test.YtmanjfdchhipmaaGreatDoorXFnBestWithinx6
namespace Go.Proofs.YtmanjfdchhipmaaGreatDoor.XFnBestWithin
set_option maxHeartbeats 8000000
set_option maxRecDepth 100000
open Go.RowKit Go.Proofs.YtmanjfdchhipmaaGreatDoor.Hand Go.Proofs.YtmanjfdchhipmaaGreatDoorW.PrintWords Go.Proofs.YtmanjfdchhipmaaGreatDoorW.PrintLast Go.Proofs.YtmanjfdchhipmaaGreatDoorW.PrintMore
attribute [local go_sem] max2_int min2_int max_two min_two max_three min_three max_four min_four   -- for this text's walks alone
set_option linter.unusedVariables false
set_option linter.unusedSimpArgs false
open Go.Proofs.YtmanjfdchhipmaaGreatDoor.Hand
mutual
def spec_beFind.seek : Nat → List Int → Int → List Int → Int → Int → List Int → Int → Option (List Int × Int)
 | 0, _, _, _, _, _, _, _ => none
 | q + 1, ws, m, list, share, cost, f, cnt => if cost < 0 then some (f, cnt) else if share < 0 then some (f, cnt) else (if list.length ≤ ws.length ∧ ws.length ≤ 1000 then (if list.length = ws.length then (if cost = 0 then (if cnt = 0 then some (list, wrap64 (cnt + 1)) else some (f, wrap64 (cnt + 1))) else some (f, cnt)) else spec_beFind.loop q ws m list share cost f cnt 1) else none)
def spec_beFind.loop : Nat → List Int → Int → List Int → Int → Int → List Int → Int → Nat → Option (List Int × Int)
 | 0, _, _, _, _, _, _, _, _ => none
 | q + 1, ws, m, list, share, cost, f, cnt, l => if l ≤ 11 then ((spec_krPower.f q m (11 - (l : Int))).bind fun p => (spec_beFind.seek q ws m (list ++ [(l : Int)]) (wrap64 (share - p)) (wrap64 (cost - wrap64 ((l : Int) * rd ws list.length))) f cnt).bind fun st => spec_beFind.loop q ws m list share cost st.1 st.2 (l + 1)) else some (f, cnt)
end
def spec_beFind.f (k : Nat) (l0 : List Int) (a1 : Int) : Option (List Int × Int) := (spec_krPower.f k a1 11).bind fun p => (spec_beBest.f k l0 a1).bind fun b => spec_beFind.seek k l0 a1 [] p b [] 0
theorem spec_beFind.mono_l : ∀ k, (∀ ws m list share cost f cnt, LeO (spec_beFind.seek k ws m list share cost f cnt) (spec_beFind.seek (k + 1) ws m list share cost f cnt)) ∧ (∀ ws m list share cost f cnt l, LeO (spec_beFind.loop k ws m list share cost f cnt l) (spec_beFind.loop (k + 1) ws m list share cost f cnt l))
 | 0 => ⟨fun _ _ _ _ _ _ _ r h => by simp [spec_beFind.seek] at h, fun _ _ _ _ _ _ _ _ r h => by simp [spec_beFind.loop] at h⟩
 | k + 1 => by
  obtain ⟨ih1, ih2⟩ := spec_beFind.mono_l k
  refine ⟨fun ws m list share cost f cnt => ?_, fun ws m list share cost f cnt l => ?_⟩
  ·unfold spec_beFind.seek
   exact LeO.ite (LeO.refl _) (LeO.ite (LeO.refl _) (LeO.ite (LeO.ite (LeO.refl _) (ih2 _ _ _ _ _ _ _ _)) (LeO.refl _)))
  ·unfold spec_beFind.loop
   exact LeO.ite (LeO.bind (spec_krPower.mono _ _ _) fun p => LeO.bind (ih1 _ _ _ _ _ _ _) fun st => ih2 _ _ _ _ _ _ _ _) (LeO.refl _)
theorem spec_beFind.mono : ∀ a0 a1 k, LeO (spec_beFind.f k a0 a1) (spec_beFind.f (k + 1) a0 a1) := by
 intro a0 a1 k
 unfold spec_beFind.f
 exact LeO.bind (spec_krPower.mono _ _ _) fun p => LeO.bind (spec_beBest.mono _ _ _) fun b => (spec_beFind.mono_l k).1 _ _ _ _ _ _ _
structure BeBox (w0 w : World) (g : Nat) (ws : List Int) (A0 : Option Addr) (c0 : Nat) (m z : Int) (vf : Value) (f : List Int) (cnt : Int) : Prop where
 blk : w.heap[g]? = some (.cells #[.slice A0 ws.length c0, .int .i64 m, .int .i64 z, vf, .int .i64 cnt] 119 (0, 0))
 ge : w0.heap.size ≤ g
 bel : Below w0.heap.size w0 w
 row : Kd.C (Kd.int .i64) w0 A0 ws.length ws
 own : Kd.R (Kd.int .i64) 3 w w0.heap.size (fun k => k ≠ g) vf f
theorem BeBox.below {w0 w w' : World} {g : Nat} {ws : List Int} {A0 : Option Addr} {c0 : Nat} {m z : Int} {vf : Value} {f : List Int} {cnt : Int} (h : BeBox w0 w g ws A0 c0 m z vf f cnt) (hb : Below w.heap.size w w') : BeBox w0 w' g ws A0 c0 m z vf f cnt :=
 ⟨(hb.block g (blk_lt h.blk)).trans h.blk, h.ge, below_step h.bel hb, h.row, Kd.R_below h.own hb⟩
theorem be_cell {w : World} {g : Nat} {cur : Array Value} {t : TypeId} (h : w.heap[g]? = some (.cells cur t (0, 0))) (j : Nat) (v : Value) (hv : cur[j]? = some v) : w.cell? ⟨g, j, none⟩ = some v := (blk_cell h j).trans hv
theorem BeBox.put {w0 w w' : World} {g : Nat} {ws : List Int} {A0 : Option Addr} {c0 : Nat} {m z : Int} {vf vf' : Value} {f f' : List Int} {cnt : Int} (cnt' : Int) (h : BeBox w0 w g ws A0 c0 m z vf f cnt) (hb : Below w.heap.size w w') (hv : Kd.R (Kd.int .i64) 3 w' w0.heap.size (fun k => k ≠ g) vf' f') :
  BeBox w0 ((w'.setCell ⟨g, 3, none⟩ vf').setCell ⟨g, 4, none⟩ (.int .i64 cnt')) g ws A0 c0 m z vf' f' cnt' := by
 have h1 := (h.below hb).blk
 have h2 := blk_set h1 3 vf'
 have h3 := blk_set h2 4 (.int .i64 cnt')
 exact ⟨h3, h.ge, ((h.below hb).bel.setCell (p := ⟨g, 3, none⟩) h.ge _).setCell (p := ⟨g, 4, none⟩) h.ge _, h.row, Kd.R_far (p := ⟨g, 4, none⟩) (Kd.R_far (p := ⟨g, 3, none⟩) hv (fun _ hk => hk) _) (fun _ hk => hk) _⟩
theorem BeBox.count {w0 w : World} {g : Nat} {ws : List Int} {A0 : Option Addr} {c0 : Nat} {m z : Int} {vf : Value} {f : List Int} {cnt : Int} (cnt' : Int) (h : BeBox w0 w g ws A0 c0 m z vf f cnt) :
  BeBox w0 (w.setCell ⟨g, 4, none⟩ (.int .i64 cnt')) g ws A0 c0 m z vf f cnt' := by
 have h3 := blk_set h.blk 4 (.int .i64 cnt')
 exact ⟨h3, h.ge, h.bel.setCell (p := ⟨g, 4, none⟩) h.ge _, h.row, Kd.R_far (p := ⟨g, 4, none⟩) h.own (fun _ hk => hk) _⟩
theorem be_fresh {w w' : World} {M : Option Nat} (hb : Below w.heap.size w w') : w.grownBy w' M := ⟨hb.os, hb.tape, hb.output, hb.size, fun k hk _ => hb.block k hk⟩
theorem be_trans {w w1 w2 : World} {M : Option Nat} (h : w.grownBy w1 M) (k : w1.grownBy w2 M) : w.grownBy w2 M :=
 ⟨k.os.trans h.os, k.tape.trans h.tape, k.output.trans h.output, Nat.le_trans h.size k.size, fun i hi hne => (k.block i (Nat.lt_of_lt_of_le hi h.size) hne).trans (h.block i hi hne)⟩
theorem be_set {w w' : World} {g : Nat} (h : w.grownBy w' (some g)) (j : Nat) (v : Value) : w.grownBy (w'.setCell ⟨g, j, none⟩ v) (some g) :=
 ⟨h.os, h.tape, h.output, by have := h.size; simpa [World.setCell] using this, fun k hk hne => (Below.heap_setCell w' ⟨g, j, none⟩ v k (fun e => hne (by rw [e]))).trans (h.block k hk hne)⟩
theorem be_grow {B : Nat} {w W w1 : World} {v : Value} (h : Below B w W) (hg : W.grownBy w1 v.ownBlock) (hv : ∀ k, v.ownBlock = some k → B ≤ k) (hB : B ≤ W.heap.size) : Below B w w1 :=
 ⟨hg.os.trans h.os, hg.tape.trans h.tape, hg.output.trans h.output, Nat.le_trans h.size hg.size, fun k hk => (hg.block k (by omega) (fun e => by have := hv k e.symm; omega)).trans (h.block k hk)⟩
theorem be_row {w1 : World} {base : Nat} {g cap n : Nat} {xs : List Int} {x : Int} (hn : n = xs.length) (h : w1.ownsRow base 3 1 (.slice (some ⟨g, 0, none⟩) (n + 1) cap) (n + 1) (encs (Value.int .i64) xs ++ [.int .i64 x])) (B : Nat) (hB : B < base) : Kd.R (Kd.int .i64) 3 w1 base (fun k => k ≠ B) (.slice (some ⟨g, 0, none⟩) (n + 1) cap) (xs ++ [x]) := by
 subst hn
 refine Kd.R_of_own (enc := Value.int .i64) (h1 := fun _ => rfl) (by simpa [encs] using h) (fun k hk => ?_)
 rcases h.2 with ⟨h1, -⟩ | ⟨g', cap', cur, h1, h2, -⟩
 ·cases h1
 ·have e1 : g = g' := by injection h1 with h1; injection h1 with h1; injection h1
  have e2 : g = k := by simpa [Value.ownBlock] using hk
  omega
theorem be_S {w w' : World} {p1 p2 p3 : Addr} {v1 v2 v3 : Value} (h : w.cell? p1 = some v1 ∧ w.cell? p2 = some v2 ∧ w.cell? p3 = some v3) (hb : Below w.heap.size w w') : w'.cell? p1 = some v1 ∧ w'.cell? p2 = some v2 ∧ w'.cell? p3 = some v3 :=
 ⟨(hb.cell (World.block_lt_of_cell? _ _ h.1)).trans h.1, (hb.cell (World.block_lt_of_cell? _ _ h.2.1)).trans h.2.1, (hb.cell (World.block_lt_of_cell? _ _ h.2.2)).trans h.2.2⟩
theorem be_news {w : World} {B : Nat} {x : Value} (h : w.cell? ⟨B, 0, none⟩ = some x) : ∀ j u, [x][j]? = some u → w.cell? ((⟨B, 0, none⟩ : Addr).add j) = some u := by
 intro j u hj
 match j, hj with
 | 0, hj =>
  simp at hj
  subst hj
  simpa [Addr.add] using h
theorem be_late {W w7 : World} {x : Value} {t : TypeId} (hb : Below (W.alloc (.cells #[x] t)).heap.size (W.alloc (.cells #[x] t)) w7) : w7.cell? ⟨W.heap.size, 0, none⟩ = some x :=
 (hb.cell (p := ⟨W.heap.size, 0, none⟩) (by simp)).trans (by simp)
theorem be_late2 {W w7 : World} {x : Value} {t : TypeId} (hb : Below (W.alloc (.cells #[x] t)).drew.heap.size (W.alloc (.cells #[x] t)).drew w7) : w7.cell? ⟨W.heap.size, 0, none⟩ = some x :=
 (hb.cell (p := ⟨W.heap.size, 0, none⟩) (by simp)).trans (show (W.alloc (.cells #[x] t)).cell? ⟨W.heap.size, 0, none⟩ = some x by simp)
theorem spec_beFind.seek_calls : ∀ (q : Nat) (ws : List Int) (m : Int) (list : List Int) (share cost : Int) (f : List Int) (cnt : Int) (r : List Int × Int) (w0 w : World) (A0 : Option Addr) (c0 : Nat) (z : Int) (vf : Value) (g : Nat) (Al : Option Addr) (cl bl n : Nat),
  BeBox w0 w g ws A0 c0 m z vf f cnt → Kd.R (Kd.int .i64) 3 w bl (fun k => k ≠ g) (.slice Al n cl) list → n = list.length → spec_beFind.seek q ws m list share cost f cnt = some r →
  Calls Tryz.prog 133 #[.pointer (some ⟨g, 0, none⟩), .slice Al n cl, .int .i64 share, .int .i64 cost] w fun e w' => e = .returned (.tuple #[]) ∧ w.grownBy w' (some g) ∧ ∃ vf', BeBox w0 w' g ws A0 c0 m z vf' r.1 r.2 := by
 intro q
 induction q using Nat.strongRecOn with
 | _ q ih =>
  intro ws m list share cost f cnt r w0 w A0 c0 z vf g Al cl bl n hbox hlist hn h
  have BOX := Aside0.mk hbox
  have LIST := Aside0.mk hlist
  have HN := Aside0.mk hn
  cases q with
  | zero => exact absurd h (by simp [spec_beFind.seek])
  | succ q =>
   simp only [spec_beFind.seek] at h
   by_cases c1 : cost < 0
   ·rw [if_pos c1] at h
    obtain rfl := Option.some.inj h
    have c1a : decide (cost < 0) = true := decide_eq_true c1
    clear hbox hlist hn h
    go_enter Tryz.func133, Tryz.ntmps133
    go_wp2
    refine bodyPost_ret (results_none rfl _ _ _) rfl ?_
    exact ⟨rfl, be_fresh (Below.refl _ _), vf, BOX.out⟩
   ·rw [if_neg c1] at h
    have c1a : decide (cost < 0) = false := decide_eq_false c1
    by_cases c2 : share < 0
    ·rw [if_pos c2] at h
     obtain rfl := Option.some.inj h
     have c2a : decide (share < 0) = true := decide_eq_true c2
     clear hbox hlist hn h
     go_enter Tryz.func133, Tryz.ntmps133
     go_wp2
     refine bodyPost_ret (results_none rfl _ _ _) rfl ?_
     exact ⟨rfl, be_fresh (Below.refl _ _), vf, BOX.out⟩
    ·rw [if_neg c2] at h
     have c2a : decide (share < 0) = false := decide_eq_false c2
     split at h
     case isFalse => cases h
     rename_i hfit
     have HFIT := Aside0.mk hfit
     have hq0 := be_cell hbox.blk 0 _ rfl
     have hq4 := be_cell hbox.blk 4 _ rfl
     have hq3 := be_cell hbox.blk 3 _ rfl
     have hf3 := blk_frozen hbox.blk 3
     have hf4 := blk_frozen hbox.blk 4
     obtain ⟨hn', hcl, hrd⟩ := Kd.R_reads' hlist
     have HCL := Aside0.mk (show list.length ≤ cl from by omega)
     have HRD := Aside0.mk hrd
     have HL1 := Aside0.mk (show spec_l1Own.f list = some list from by simp only [spec_l1Own.f, Option.bind_some, List.length_nil, Nat.zero_add, List.nil_append]; rw [if_pos (by omega)])
     have hl1 := fun W (hC : Kd.C (Kd.int .i64) W Al list.length list) => spec_l1Own.calls Al cl list list W hC HCL.out HL1.out
     rw [← hn] at hl1
     clear hn' hcl hrd
     by_cases c3 : list.length = ws.length
     ·rw [if_pos c3] at h
      have c3a : ((n : Int) = (ws.length : Int)) = True := eq_true (by omega)
      have c3b : decide ((n : Int) = (ws.length : Int)) = true := decide_eq_true (by omega)
      have c3c : ((n : Int) == (ws.length : Int)) = true := beq_iff_eq.2 (by omega)
      by_cases c4 : cost = 0
      ·rw [if_pos c4] at h
       have c4c : (cost == 0) = true := beq_iff_eq.2 c4
       by_cases c5 : cnt = 0
       ·rw [if_pos c5] at h
        obtain rfl := Option.some.inj h
        subst c5
        clear hbox hlist hn h hfit c3 c4 c1 c2
        go_enter Tryz.func133, Tryz.ntmps133
        go_wp2_with (go_at_call 94; (with_reducible refine (hl1 _ (by rw [HN.out]; exact HRD.out)).mono ?_); rintro e w7 ⟨v7, rfl, ho7, hb7⟩; (obtain ⟨A7, c7, e7⟩ := Kd.R_slice ho7); subst e7; have HB7 := Aside0.mk hb7; have HO7 := Aside0.mk ho7; have hb7f := blk_frozen (BOX.out.below hb7).blk 3; have hb7g := blk_frozen (blk_set (BOX.out.below hb7).blk 3 (.slice A7 list.length c7)) 4; have hb7c := be_cell (BOX.out.below hb7).blk 4 (.int .i64 0) rfl; have hb7h := blk_frozen (BOX.out.below hb7).blk 4; have hb7d := be_cell (BOX.out.below hb7).blk 3 vf rfl; clear ho7 hb7)
        refine bodyPost_ret (results_none rfl _ _ _) rfl ?_
        refine ⟨rfl, be_set (be_set (be_fresh HB7.out) _ _) _ _, .slice A7 list.length c7, ?_⟩
        have e0 : wrap64 (0 + 1) = 1 := by unfold wrap64; omega
        simp only [e0]
        exact BOX.out.put 1 HB7.out (Kd.R_lower (Kd.R_mono (Kd.R_bound HO7.out) (fun k hk => by have h8 := hk.2.1; have h9 := blk_lt BOX.out.blk; omega)) BOX.out.bel.size)
       ·rw [if_neg c5] at h
        obtain rfl := Option.some.inj h
        have c5c : (cnt == 0) = false := beq_eq_false_iff_ne.2 c5
        clear hbox hlist hn h hfit c3 c4 c1 c2 c5
        go_enter Tryz.func133, Tryz.ntmps133
        go_wp2
        refine bodyPost_ret (results_none rfl _ _ _) rfl ?_
        exact ⟨rfl, be_set (be_fresh (Below.refl _ _)) _ _, vf, BOX.out.count _⟩
      ·rw [if_neg c4] at h
       obtain rfl := Option.some.inj h
       have c4c : (cost == 0) = false := beq_eq_false_iff_ne.2 c4
       clear hbox hlist hn h hfit c3 c4 c1 c2
       go_enter Tryz.func133, Tryz.ntmps133
       go_wp2
       refine bodyPost_ret (results_none rfl _ _ _) rfl ?_
       exact ⟨rfl, be_fresh (Below.refl _ _), vf, BOX.out⟩
     ·rw [if_neg c3] at h
      have H' := Aside0.mk h
      have c3a : ((n : Int) = (ws.length : Int)) = False := eq_false (by omega)
      have c3b : decide ((n : Int) = (ws.length : Int)) = false := decide_eq_false (by omega)
      have c3c : ((n : Int) == (ws.length : Int)) = false := beq_eq_false_iff_ne.2 (by omega)
      have c3d : (0 : Int) ≤ (n : Int) := by omega
      have c3e : (n : Int) < (ws.length : Int) := by omega
      obtain ⟨ad, ead, hx⟩ := Kd.at_int hbox.row (n : Int) c3d c3e
      rw [Int.toNat_natCast] at hx
      obtain ⟨x, hxx⟩ : ∃ x, x = rd ws (n : Int) := ⟨_, rfl⟩
      rw [← hxx] at hx
      have HX := Aside0.mk hxx
      have HXC := Aside0.mk hx
      subst ead
      clear hbox hlist hn h hfit c1 c2 c3 hxx hx hf3 hf4 hq4 hq3
      go_enter Tryz.func133, Tryz.ntmps133
      go_wp2
      go_loopg [8] q (fun kq v8 w' => ∃ (l : Nat) (f' : List Int) (cnt' : Int) (vf' : Value), v8 = .int .i64 (l : Int) ∧ Aside0 (l ≤ 12) ∧ Aside0 (spec_beFind.loop kq ws m list share cost f' cnt' l = some r) ∧ Aside0 (kq ≤ q) ∧ Aside0 (w.grownBy w' (some g)) ∧ Aside0 (BeBox w0 w' g ws (some ad) c0 m z vf' f' cnt'))
      case atStart => exact ⟨1, f, cnt, vf, rfl, ⟨by omega⟩, H', ⟨Nat.le_refl _⟩, ⟨be_fresh (Below.refl _ _)⟩, BOX⟩
      case round =>
       clear H' hq0
       obtain ⟨l, f', cnt', vf', rfl, HL, HA, HK1, HG, HBX⟩ := hrel
       cases gk with
       | zero => exact absurd HA.out (by simp [spec_beFind.loop])
       | succ k1 =>
        have H := HA.out
        clear HA
        simp only [spec_beFind.loop] at H
        rw [← HN.out, ← HX.out] at H
        by_cases d1 : l ≤ 11
        ·rw [if_pos d1] at H
         have d1a : decide ((l : Int) ≤ 11) = true := decide_eq_true (by omega)
         have d1b : decide (l ≤ 11) = true := decide_eq_true d1
         obtain ⟨p, hp, h1⟩ := Option.bind_eq_some_iff.mp H
         obtain ⟨st, ht, h2⟩ := Option.bind_eq_some_iff.mp h1
         have A1 := Aside0.mk hp
         have H7 := Aside0.mk h2
         clear H h1 hp h2
         obtain ⟨S1, hs1⟩ : ∃ y, y = wrap64 (share - p) := ⟨_, rfl⟩
         obtain ⟨M1, hm1⟩ : ∃ y, y = wrap64 ((l : Int) * x) := ⟨_, rfl⟩
         rw [← hs1, ← hm1] at ht
         obtain ⟨C1, hc1⟩ : ∃ y, y = wrap64 (cost - M1) := ⟨_, rfl⟩
         rw [← hc1] at ht
         have A2 := Aside0.mk ht
         have e1 : IntKind.i64.wrap (share - p) = S1 := (Go.IntWalk.i64_left _).trans hs1.symm
         have e2 : IntKind.i64.wrap ((l : Int) * x) = M1 := (Go.IntWalk.i64_left _).trans hm1.symm
         have e3 : IntKind.i64.wrap (cost - M1) = C1 := (Go.IntWalk.i64_left _).trans hc1.symm
         have e4 : IntKind.i64.wrap (11 - (l : Int)) = 11 - (l : Int) := (Go.IntWalk.i64_left _).trans (by unfold wrap64; omega)
         have D1 := Aside0.mk d1
         have hkp := fun W => spec_krPower.calls k1 m (11 - (l : Int)) p W A1.out
         have htry := fun W g8 cap8 (hbx : BeBox w0 W g ws (some ad) c0 m z vf' f' cnt') (hR : Kd.R (Kd.int .i64) 3 W wr.heap.size (fun k => k ≠ g) (.slice (some ⟨g8, 0, none⟩) (n + 1) cap8) (list ++ [(l : Int)])) => ih k1 (by have := HK1.out; omega) ws m (list ++ [(l : Int)]) S1 C1 f' cnt' st w0 W (some ad) c0 z vf' g (some ⟨g8, 0, none⟩) cap8 wr.heap.size (n + 1) hbx hR (by rw [List.length_append, HN.out]; rfl) A2.out
         clear ht d1 hs1 hm1 hc1
         have HSR := Aside0.mk (show wr.cell? ⟨g, 0, none⟩ = some (.slice (some ad) ws.length c0) ∧ wr.cell? ⟨g, 1, none⟩ = some (.int .i64 m) ∧ wr.cell? (ad.add n) = some (.int .i64 x) from ⟨be_cell HBX.out.blk 0 _ rfl, be_cell HBX.out.blk 1 _ rfl, (HBX.out.bel.cell (World.block_lt_of_cell? _ _ HXC.out)).trans HXC.out⟩)
         have HLR := Aside0.mk (Kd.R_grown LIST.out HG.out (fun k hk e => hk (by injection e)))
         have HCR := Aside0.mk (show Kd.C (Kd.int .i64) wr Al n list from by have h9 := (Kd.R_reads' HLR.out).2.2; rwa [← HN.out] at h9)
         have HGL := Aside0.mk (blk_lt HBX.out.blk)
         have HLN := Aside0.mk (show n ≤ 1000 from by have h8 := HFIT.out; have h9 := HN.out; omega)
         obtain ⟨i0, hi, hz0, hz1, hz2⟩ := info_parts infoInt
         have HI := Aside0.mk hi
         have HZ0 := Aside0.mk hz0
         have HZ1 := Aside0.mk hz1
         have HZ2 := Aside0.mk hz2
         have e5 : Aside0 (wrap64 ((l : Int) + 1) = ((l + 1 : Nat) : Int)) := ⟨by unfold wrap64; have := D1.out; omega⟩
         clear hi hz0 hz1 hz2
         go_upto_region 9 with fail
         go_region_held3 (fun w' => w'.cell? ⟨g, 0, none⟩ = some (.slice (some ad) ws.length c0) ∧ w'.cell? ⟨g, 1, none⟩ = some (.int .i64 m) ∧ w'.cell? (ad.add n) = some (.int .i64 x))
          (first | exact HS10.out | exact be_S HSR.out HB9.out | exact be_S HSR.out HB8.out | exact be_S HSR.out HB7.out | exact be_S HSR.out (below_alloc HB7.out _) | exact be_S HSR.out (below_drew (Below.refl _ _)) | exact be_S HSR.out (below_alloc (below_drew (Below.refl _ _)) _))
          (first
           | (go_at_call 94; (with_reducible refine (hl1 _ ?hC).mono ?_); (case hC => first | exact Kd.C_drew HCR.out | exact Kd.C_alloc (Kd.C_drew HCR.out) _); rintro e w7 ⟨v7, rfl, ho7, hb7⟩; (obtain ⟨A7, c7, e7⟩ := Kd.R_slice ho7); rw [← HN.out] at e7; subst e7; have HX7 := Aside0.mk hb7; have HB7 := Aside0.mk (show Below wr.heap.size wr w7 from by first | exact below_step (below_drew (Below.refl _ _)) hb7 | exact below_step (below_alloc (below_drew (Below.refl _ _)) _) hb7); have HO7 := Aside0.mk (Kd.R_lower (base' := wr.heap.size) ho7 (by first | exact Nat.le_refl _ | simp)); clear ho7 hb7)
           | (go_at_call 51; (with_reducible refine (hkp _).mono ?_); rintro e w9 ⟨rfl, hb9⟩; have HB9 := Aside0.mk (below_step HB8.out (Drawn0.below hb9)); have HR9 := Aside0.mk (Kd.R_below HR8.out (Drawn0.below hb9)); clear hb9)
           | (go_at_call 133; (with_reducible refine (htry _ _ _ (HBX.out.below HB9.out) HR9.out).mono ?_); rintro e w10 ⟨rfl, hg10, vf10, hbx10⟩; have HG10 := Aside0.mk hg10; have HBX10 := Aside0.mk hbx10; have HS10 := Aside0.mk (show w10.cell? ⟨g, 0, none⟩ = some (.slice (some ad) ws.length c0) ∧ w10.cell? ⟨g, 1, none⟩ = some (.int .i64 m) ∧ w10.cell? (ad.add n) = some (.int .i64 x) from ⟨be_cell hbx10.blk 0 _ rfl, be_cell hbx10.blk 1 _ rfl, (hbx10.bel.cell (World.block_lt_of_cell? _ _ HXC.out)).trans HXC.out⟩); clear hg10 hbx10)
           | (refine step_append_lies _ rfl (.tmp 48) (.tmp 50) 24 rfl wr.heap.size 3 i0 (.int .i64 0) 1 8 Tryz.underlying24 HI.out HZ0.out HZ1.out HZ2.out rfl (by decide) (.slice A7 n c7) n (encs (Value.int .i64) list) (by rfl) ?hown _ 1 1 [.int .i64 (l : Int)] (by rfl) rfl ?hnews (by simp [Value.oneCell']) (by decide) (by have := HLN.out; unfold maxLen; omega) (by have := HLN.out; omega) ?hbase _ rfl ?_; (case hown => first | (have h9 := Kd.own_of_R HO7.out; rwa [← HN.out] at h9) | (have h9 := Kd.own_of_R (Kd.R_alloc HO7.out (.cells #[.int .i64 (l : Int)] 3)); rwa [← HN.out] at h9)); (case hnews => first | exact cell_one_new _ _ _ | exact be_news (be_late HX7.out) | exact be_news (be_late2 HX7.out)); (case hbase => first | exact HB7.out.size | exact (below_alloc HB7.out (.cells #[.int .i64 (l : Int)] 3)).size); intro g8 cap8 w8 hown8 hgrow8 hat8 hlt8; have HB8 := Aside0.mk (show Below wr.heap.size wr w8 from by first | exact be_grow HB7.out hgrow8 (Kd.R_base HO7.out) HB7.out.size | exact be_grow (below_alloc HB7.out (.cells #[.int .i64 (l : Int)] 3)) hgrow8 (Kd.R_base HO7.out) (below_alloc HB7.out (.cells #[.int .i64 (l : Int)] 3)).size); have HR8 := Aside0.mk (be_row HN.out hown8 g HGL.out); clear hown8 hgrow8 hat8 hlt8))
         all_goals
          clear e1 e2 e3 e4
          go_wp2
          go_roundg k1
          case measure => omega
          case rel => exact ⟨l + 1, st.1, st.2, vf10, by rw [e5.out], ⟨by have := D1.out; omega⟩, H7, ⟨by have := HK1.out; omega⟩, ⟨be_trans (be_trans HG.out (be_fresh HB9.out)) HG10.out⟩, HBX10⟩
        ·rw [if_neg d1] at H
         have d1a : decide ((l : Int) ≤ 11) = false := decide_eq_false (by omega)
         have d1b : decide (l ≤ 11) = false := decide_eq_false d1
         obtain rfl := Option.some.inj H
         clear H d1
         go_wp2
         refine bodyPost_end (results_none rfl _ _ _) rfl ?_
         exact ⟨rfl, HG.out, vf', HBX.out⟩
theorem spec_beFind.calls (k : Nat) (A0 : Option Addr) (c0 : Nat) (l0 : List Int) (a1 : Int) (r1 : List Int) (r2 : Int) (w : World) (hr0 : Kd.C (Kd.int .i64) w A0 l0.length l0) (hc0 : l0.length ≤ c0) (h : spec_beFind.f k l0 a1 = some (r1, r2)) :
  Calls Tryz.prog 97 #[.slice A0 l0.length c0, .int .i64 a1] w fun e w' => ∃ v0_ : Value, e = .returned (.tuple #[v0_, .int .i64 r2]) ∧ Kd.R (Kd.int .i64) 3 w' w.heap.size (fun _ => True) v0_ r1 ∧ Below w.heap.size w w' := by
 unfold spec_beFind.f at h
 obtain ⟨p, hp, h1⟩ := Option.bind_eq_some_iff.mp h
 obtain ⟨b, hb, h2⟩ := Option.bind_eq_some_iff.mp h1
 have A1 := Aside0.mk hp
 have A2 := Aside0.mk hb
 have A3 := Aside0.mk h2
 have HR0 := Aside0.mk hr0
 have HC0 := Aside0.mk hc0
 clear h h1 hp hb h2 hr0 hc0
 have HB0 := Aside0.mk (below_alloc (Below.refl w.heap.size w) (.cells #[.slice A0 l0.length c0, .int .i64 a1, .int .i64 0, .slice none 0 0, .int .i64 0] 119))
 have HBX := Aside0.mk (show BeBox w (w.alloc (.cells #[.slice A0 l0.length c0, .int .i64 a1, .int .i64 0, .slice none 0 0, .int .i64 0] 119)) w.heap.size l0 A0 c0 a1 0 (.slice none 0 0) [] 0 from ⟨by unfold World.alloc; simp, Nat.le_refl _, HB0.out, HR0.out, Kd.R_nil _ _ _ _ _⟩)
 go_enter Tryz.func97, Tryz.ntmps97
 go_wp2_with (first
  | (go_at_call 51; (with_reducible refine (spec_krPower.calls k a1 11 p _ A1.out).mono ?_); rintro e w7 ⟨rfl, hb7⟩; have HB7 := Aside0.mk (Drawn0.below hb7); clear hb7)
  | (go_at_call 134; (with_reducible refine (spec_beBest.calls k A0 c0 l0 a1 b _ (Kd.C_below HR0.out (below_step HB0.out HB7.out)) HC0.out A2.out).mono ?_); rintro e w8 ⟨rfl, hb8⟩; have HB8 := Aside0.mk (below_then HB7.out HB7.out.size hb8); clear hb8)
  | (go_at_call 133; (with_reducible refine (spec_beFind.seek_calls k l0 a1 [] p b [] 0 (r1, r2) w _ A0 c0 0 (.slice none 0 0) w.heap.size none 0 0 0 (HBX.out.below HB8.out) (Kd.R_nil _ _ _ _ _) rfl A3.out).mono ?_); rintro e w10 ⟨rfl, hg10, vf10, hbx10⟩; have HBX10 := Aside0.mk hbx10; have hs3 := be_cell hbx10.blk 3 _ rfl; have hs4 := be_cell hbx10.blk 4 _ rfl; clear hg10 hbx10))
 go_quiet (fail)
 go_wp2
 go_ret2
 exact ⟨_, rfl, Kd.R_drewN (Kd.R_mono HBX10.out.own (fun _ _ => trivial)) _, pw_below_drewN HBX10.out.bel _⟩
mutual
def spec_l1Cur_lengthsFor.j0 : Nat → List Int → Int → Bool → List Int → Int → Int → Option (List Int × Int × Int)
 | 0, _, _, _, _, _, _ => none
 | k + 1, x1, x2, x22, x1000, x1001, x1002 => if x22 = true then ((spec_beFind.f k x1 x2).bind fun bt294 => ((spec_l1Own.f bt294.1).bind fun t298 => ((spec_l1Cur_one.f x1000 x1001 x1002 3).bind fun bt301 => (if bt301.1 = true then ((spec_l1Cur_pick.f x1000 bt301.2.1 bt301.2.2 (t298.length : Int)).bind fun bt304 => ((spec_l1Cur_pick.f x1000 bt304.2.1 bt304.2.2 4).bind fun bt307 => (if 0 ≤ bt304.1 then (if bt304.1 < (t298.length : Int) then (some ((t298.set (bt304.1 : Int).toNat (wrap64 (1 + bt307.1))), bt307.2.1, bt307.2.2)) else (none)) else (none)))) else (some (t298, bt301.2.1, bt301.2.2)))))) else (spec_l1Cur_lengthsFor.l0 k ([] : List Int) (x1.length : Int) 0 x1000 x1001 x1002)
def spec_l1Cur_lengthsFor.l0 : Nat → List Int → Int → Int → List Int → Int → Int → Option (List Int × Int × Int)
 | 0, _, _, _, _, _, _ => none
 | k + 1, x9, x44, x45, x1000, x1001, x1002 => if x45 < x44 then ((spec_l1Cur_pick.f x1000 x1001 x1002 4).bind fun bt311 => (if x9.length < 17592186044416 then (spec_l1Cur_lengthsFor.l0 k (x9 ++ [wrap64 (1 + bt311.1)]) x44 (wrap64 (x45 + 1)) x1000 bt311.2.1 bt311.2.2) else (none))) else (if (x9.length : Int) > 0 then ((spec_l1Cur_one.f x1000 x1001 x1002 8).bind fun bt317 => (if bt317.1 = true then ((spec_l1Cur_among.f x1000 bt317.2.1 bt317.2.2 (([0, 8, 11, 12, 4611686018427387904] : List Int))).bind fun bt323 => (if 0 < (x9.length : Int) then (some ((x9.set (0 : Int).toNat bt323.1), bt323.2.1, bt323.2.2)) else (none))) else (some (x9, bt317.2.1, bt317.2.2)))) else (some (x9, x1001, x1002)))
end
def spec_l1Cur_lengthsFor.f (k : Nat) (s0_0 : List Int) (s0_1 : Int) (s0_2 : Int) (l1 : List Int) (a2 : Int) : Option (List Int × Int × Int) := (spec_beAsked.f k l1 a2).bind fun t290 => (if t290 = true then (if (l1.length : Int) ≤ 6 then ((spec_l1Cur_one.f s0_0 s0_1 s0_2 3).bind fun bt291 => (spec_l1Cur_lengthsFor.j0 k l1 a2 (!bt291.1) s0_0 bt291.2.1 bt291.2.2)) else (spec_l1Cur_lengthsFor.j0 k l1 a2 false s0_0 s0_1 s0_2)) else (spec_l1Cur_lengthsFor.j0 k l1 a2 false s0_0 s0_1 s0_2))
theorem spec_l1Cur_lengthsFor.mono_l : ∀ k, (∀ y0 y1 y2 y3 y4 y5, LeO (spec_l1Cur_lengthsFor.j0 k y0 y1 y2 y3 y4 y5) (spec_l1Cur_lengthsFor.j0 (k + 1) y0 y1 y2 y3 y4 y5)) ∧ (∀ y0 y1 y2 y3 y4 y5, LeO (spec_l1Cur_lengthsFor.l0 k y0 y1 y2 y3 y4 y5) (spec_l1Cur_lengthsFor.l0 (k + 1) y0 y1 y2 y3 y4 y5))
 | 0 => ⟨fun _ _ _ _ _ _ r h => by simp [spec_l1Cur_lengthsFor.j0] at h, fun _ _ _ _ _ _ r h => by simp [spec_l1Cur_lengthsFor.l0] at h⟩
 | k + 1 => by
  obtain ⟨ih0, ih1⟩ := spec_l1Cur_lengthsFor.mono_l k
  refine ⟨?_, ?_⟩
  ·intro y0 y1 y2 y3 y4 y5
   unfold spec_l1Cur_lengthsFor.j0
   repeat' first
   | (with_reducible first | exact ih0 _ _ _ _ _ _ | exact ih1 _ _ _ _ _ _ | exact spec_beAsked.mono _ _ _ | exact spec_beFind.mono _ _ _ | exact LeO.refl _ | exact LeO.none _ | refine LeO.ite ?_ ?_ | refine LeO.bind ?_ (fun _ => ?_))
   | exact ih0 _ _ _ _ _ _
   | exact ih1 _ _ _ _ _ _
   | exact spec_beAsked.mono _ _ _
   | exact spec_beFind.mono _ _ _
   | exact LeO.none _
   | refine LeO.ite ?_ ?_
   | refine LeO.bind ?_ (fun _ => ?_)
  ·intro y0 y1 y2 y3 y4 y5
   unfold spec_l1Cur_lengthsFor.l0
   repeat' first
   | (with_reducible first | exact ih0 _ _ _ _ _ _ | exact ih1 _ _ _ _ _ _ | exact spec_beAsked.mono _ _ _ | exact spec_beFind.mono _ _ _ | exact LeO.refl _ | exact LeO.none _ | refine LeO.ite ?_ ?_ | refine LeO.bind ?_ (fun _ => ?_))
   | exact ih0 _ _ _ _ _ _
   | exact ih1 _ _ _ _ _ _
   | exact spec_beAsked.mono _ _ _
   | exact spec_beFind.mono _ _ _
   | exact LeO.none _
   | refine LeO.ite ?_ ?_
   | refine LeO.bind ?_ (fun _ => ?_)
theorem spec_l1Cur_lengthsFor.mono : ∀ a0 a1 a2 a3 a4 k, LeO (spec_l1Cur_lengthsFor.f k a0 a1 a2 a3 a4) (spec_l1Cur_lengthsFor.f (k + 1) a0 a1 a2 a3 a4) := by
 intro a0 a1 a2 a3 a4 k
 obtain ⟨ih0, ih1⟩ := spec_l1Cur_lengthsFor.mono_l k
 unfold spec_l1Cur_lengthsFor.f
 repeat' first
   | (with_reducible first | exact ih0 _ _ _ _ _ _ | exact ih1 _ _ _ _ _ _ | exact spec_beAsked.mono _ _ _ | exact spec_beFind.mono _ _ _ | exact LeO.refl _ | exact LeO.none _ | refine LeO.ite ?_ ?_ | refine LeO.bind ?_ (fun _ => ?_))
   | exact ih0 _ _ _ _ _ _
   | exact ih1 _ _ _ _ _ _
   | exact spec_beAsked.mono _ _ _
   | exact spec_beFind.mono _ _ _
   | exact LeO.none _
   | refine LeO.ite ?_ ?_
   | refine LeO.bind ?_ (fun _ => ?_)
theorem spec_l1Cur_lengthsFor.calls (k : Nat) (g : Nat) (s0_0 : List Int) (s0_1 : Int) (s0_2 : Int) (A1 : Option Addr) (c1 : Nat) (l1 : List Int) (a2 : Int) (r1 : List Int) (r2 : Int) (r3 : Int) (w0 w : World) (hI : IsS57 w0 w g s0_0 s0_1 s0_2) (hB : Below w0.heap.size w0 w) (hr1 : Kd.C (Kd.int .i64) w A1 l1.length l1) (hc1 : l1.length ≤ c1) (hf1 : ∀ ad, A1 = some ad → 0 < l1.length → ad.block ≠ g) (h : spec_l1Cur_lengthsFor.f k s0_0 s0_1 s0_2 l1 a2 = some (r1, r2, r3)) :
  Calls Tryz.prog 54 #[.pointer (some ⟨g, 0, none⟩), .slice A1 l1.length c1, .int .i64 a2] w fun e w' => ∃ v0_ : Value, e = .returned (v0_) ∧ Kd.R (Kd.int .i64) 3 w' w.heap.size (fun _ => True) v0_ r1 ∧ IsS57 w0 w' g s0_0 r2 r3 ∧ Below w0.heap.size w0 w' ∧ KeepBut w w' g none := by
 have HR1 := Aside0.mk hr1
 have HC1 := Aside0.mk hc1
 clear hr1 hc1
 have HI0 := Aside0.mk hI
 have HK := Aside0.mk (KeepBut.refl w g none)
 have HL := Aside0.mk hB.size
 clear hI
 have HW0 := Aside0.mk hB.size
 have HB := Aside0.mk hB
 clear hB
 have H : ((spec_beAsked.f k l1 a2).bind fun t290 => (if t290 = true then (if (l1.length : Int) ≤ 6 then ((spec_l1Cur_one.f s0_0 s0_1 s0_2 3).bind fun bt291 => (spec_l1Cur_lengthsFor.j0 k l1 a2 (!bt291.1) s0_0 bt291.2.1 bt291.2.2)) else (spec_l1Cur_lengthsFor.j0 k l1 a2 false s0_0 s0_1 s0_2)) else (spec_l1Cur_lengthsFor.j0 k l1 a2 false s0_0 s0_1 s0_2))) = some (r1, r2, r3) := h
 clear h
 have HC4 := Aside0.mk H
 clear H
 go_enter Tryz.func54, Tryz.ntmps54
 (try simp only [List.append_eq, List.cons_append, List.nil_append])
 go_upto_region 1 with (fail)
 go_cut [22] (fun v22 wc => ∃ (kq : Nat) (x22_3 : Bool) (x1001_3 : Int) (x1002_3 : Int), v22 = .bool x22_3 ∧ Aside0 (spec_l1Cur_lengthsFor.j0 kq l1 a2 x22_3 s0_0 x1001_3 x1002_3 = some (r1, r2, r3)) ∧ Aside0 (kq ≤ k) ∧ Aside0 (IsS57 w0 wc g s0_0 x1001_3 x1002_3) ∧ Aside0 (KeepBut w wc g none) ∧ Aside0 (Below w0.heap.size w0 wc))
 case first =>
  have H := HC4.out
  clear HC4
  replace H := Option.bind_eq_some_iff.mp H
  obtain ⟨t290, A50, H⟩ := H
  (try dsimp only at H)
  have A5 := Aside0.mk A50
  clear A50
  by_cases c6 : t290 = true
  ·subst c6
   rw [if_pos rfl] at H
   by_cases c7 : (l1.length : Int) ≤ 6
   ·rw [if_pos c7] at H
    have c7b0 : decide ((l1.length : Int) ≤ 6) = true := decide_eq_true c7
    have c7b1 : decide (l1.length ≤ 6) = true := decide_eq_true (by omega)
    clear c7
    (first | rw [c7b0] | (simp only [i64_w, i32_w]; rw [c7b0]) | skip)
    replace H := Option.bind_eq_some_iff.mp H
    obtain ⟨⟨t291, t292, t293⟩, A80, H⟩ := H
    (try dsimp only at H)
    have A8 := Aside0.mk A80
    clear A80
    have H' := Aside0.mk H
    clear H
    go_wp2_with (first | ((with_reducible refine gate_callee (f := 47) rfl ?_); refine goesL_ (some 12) rfl rfl Tryz.func47 (by kernel_rfl) rfl #[.slice A1 l1.length c1, .int .i64 a2] rfl (by (try simp only [List.map_toArray, List.map_cons, List.map_nil]); first | done | rfl | (simp only [List.length_drop, List.length_take]; rfl)) ?_; (with_reducible refine (spec_beAsked.calls k _ _ l1 a2 true _ ?side1 ?side2 A5.out).mono ?_); (case side1 => exact Kd.C_keep 0 HR1.out (by repeat (first | (with_reducible first | exact HK.out | apply KeepBut.set_ | apply keep_drewN | apply keep_drew | apply keep_alloc) | exact HK.out)) hf1); (case side2 => exact HC1.out); rintro e w' ⟨rfl, ⟨nd, rfl⟩⟩; refine ⟨_, rfl, ?_⟩) | (go_at_call 96; (with_reducible refine (spec_l1Cur_one.calls g s0_0 s0_1 s0_2 3 t291 t292 t293 w0 _ ?side1 ?side2 A8.out).mono ?_); (case side1 => repeat (first | (with_reducible first | exact HI0.out | apply IsS57.alloc | apply IsS57.drewN | apply IsS57.drew | apply IsS57.set_1 | apply IsS57.set_2) | exact HI0.out)); (case side2 => repeat (first | (with_reducible first | exact HB.out | apply below_alloc | apply pw_below_drewN | apply below_drew1 | refine below_set ?_ (IsS57.ge HI0.out)) | exact HB.out)); rintro e w9 ⟨rfl, hi, hb, hk⟩; have n0_ := Aside0.mk (KeepBut.trans (by repeat (first | (with_reducible first | exact HK.out | apply KeepBut.set_ | apply keep_drewN | apply keep_drew | apply keep_alloc) | exact HK.out)) hk (.inl rfl)); have n1_ := Aside0.mk (hb); have n2_ := Aside0.mk (hi); clear HK; clear HB; clear HI0; have HK := n0_; have HB := n1_; have HI0 := n2_; clear n0_ n1_ n2_; (try clear hb); (try clear hb2); (try clear hk); (try clear hi)))
    go_meet
    case rel => exact ⟨_, (!t291), (t292), (t293), zE1, H', ⟨by first | omega | exact Nat.le_refl _⟩, ⟨by (try simp only [Int.add_zero]); repeat (first | (with_reducible first | exact HI0.out | apply IsS57.alloc | apply IsS57.drewN | apply IsS57.drew | apply IsS57.set_1 | apply IsS57.set_2) | exact HI0.out)⟩, ⟨by repeat (first | (with_reducible first | exact HK.out | apply KeepBut.set_ | apply keep_drewN | apply keep_drew | apply keep_alloc) | exact HK.out)⟩, ⟨by repeat (first | (with_reducible first | exact HB.out | apply below_alloc | apply pw_below_drewN | apply below_drew1 | refine below_set ?_ (IsS57.ge HI0.out)) | exact HB.out)⟩⟩
   ·rw [if_neg c7] at H
    have c7b0 : decide ((l1.length : Int) ≤ 6) = false := decide_eq_false c7
    have c7b1 : decide (l1.length ≤ 6) = false := decide_eq_false (by omega)
    clear c7
    (first | rw [c7b0] | (simp only [i64_w, i32_w]; rw [c7b0]) | skip)
    have H' := Aside0.mk H
    clear H
    go_wp2_with (first | ((with_reducible refine gate_callee (f := 47) rfl ?_); refine goesL_ (some 12) rfl rfl Tryz.func47 (by kernel_rfl) rfl #[.slice A1 l1.length c1, .int .i64 a2] rfl (by (try simp only [List.map_toArray, List.map_cons, List.map_nil]); first | done | rfl | (simp only [List.length_drop, List.length_take]; rfl)) ?_; (with_reducible refine (spec_beAsked.calls k _ _ l1 a2 true _ ?side1 ?side2 A5.out).mono ?_); (case side1 => exact Kd.C_keep 0 HR1.out (by repeat (first | (with_reducible first | exact HK.out | apply KeepBut.set_ | apply keep_drewN | apply keep_drew | apply keep_alloc) | exact HK.out)) hf1); (case side2 => exact HC1.out); rintro e w' ⟨rfl, ⟨nd, rfl⟩⟩; refine ⟨_, rfl, ?_⟩))
    go_meet
    case rel => exact ⟨_, (false), (s0_1), (s0_2), zE1, H', ⟨by first | omega | exact Nat.le_refl _⟩, ⟨by (try simp only [Int.add_zero]); repeat (first | (with_reducible first | exact HI0.out | apply IsS57.alloc | apply IsS57.drewN | apply IsS57.drew | apply IsS57.set_1 | apply IsS57.set_2) | exact HI0.out)⟩, ⟨by repeat (first | (with_reducible first | exact HK.out | apply KeepBut.set_ | apply keep_drewN | apply keep_drew | apply keep_alloc) | exact HK.out)⟩, ⟨by repeat (first | (with_reducible first | exact HB.out | apply below_alloc | apply pw_below_drewN | apply below_drew1 | refine below_set ?_ (IsS57.ge HI0.out)) | exact HB.out)⟩⟩
  ·replace c6 := Bool.eq_false_iff.mpr c6
   subst c6
   rw [if_neg zN] at H
   have H' := Aside0.mk H
   clear H
   go_wp2_with (first | ((with_reducible refine gate_callee (f := 47) rfl ?_); refine goesL_ (some 12) rfl rfl Tryz.func47 (by kernel_rfl) rfl #[.slice A1 l1.length c1, .int .i64 a2] rfl (by (try simp only [List.map_toArray, List.map_cons, List.map_nil]); first | done | rfl | (simp only [List.length_drop, List.length_take]; rfl)) ?_; (with_reducible refine (spec_beAsked.calls k _ _ l1 a2 false _ ?side1 ?side2 A5.out).mono ?_); (case side1 => exact Kd.C_keep 0 HR1.out (by repeat (first | (with_reducible first | exact HK.out | apply KeepBut.set_ | apply keep_drewN | apply keep_drew | apply keep_alloc) | exact HK.out)) hf1); (case side2 => exact HC1.out); rintro e w' ⟨rfl, ⟨nd, rfl⟩⟩; refine ⟨_, rfl, ?_⟩))
   go_meet
   case rel => exact ⟨_, (false), (s0_1), (s0_2), zE1, H', ⟨by first | omega | exact Nat.le_refl _⟩, ⟨by (try simp only [Int.add_zero]); repeat (first | (with_reducible first | exact HI0.out | apply IsS57.alloc | apply IsS57.drewN | apply IsS57.drew | apply IsS57.set_1 | apply IsS57.set_2) | exact HI0.out)⟩, ⟨by repeat (first | (with_reducible first | exact HK.out | apply KeepBut.set_ | apply keep_drewN | apply keep_drew | apply keep_alloc) | exact HK.out)⟩, ⟨by repeat (first | (with_reducible first | exact HB.out | apply below_alloc | apply pw_below_drewN | apply below_drew1 | refine below_set ?_ (IsS57.ge HI0.out)) | exact HB.out)⟩⟩
 case rest =>
  clear HC4
  try clear c1
  try clear p2
  try clear c4
  try clear c5
  try clear c6
  try clear c7
  try clear c7b0
  try clear c7b1
  obtain ⟨kq, x22_3, x1001_3, x1002_3, rfl, HA, HJ3, HI0, HK, HB⟩ := hcut
  cases kq with
  | zero => exact absurd HA.out (by simp [spec_l1Cur_lengthsFor.j0])
  | succ kj3 =>
   have H := HA.out
   clear HA
   simp only [spec_l1Cur_lengthsFor.j0] at H
   by_cases c10 : x22_3 = true
   ·subst c10
    rw [if_pos rfl] at H
    replace H := Option.bind_eq_some_iff.mp H
    obtain ⟨⟨t294, t295⟩, A110, H⟩ := H
    (try dsimp only at H)
    have A11 := Aside0.mk A110
    clear A110
    replace H := Option.bind_eq_some_iff.mp H
    obtain ⟨t298, A120, H⟩ := H
    (try dsimp only at H)
    have A12 := Aside0.mk A120
    clear A120
    replace H := Option.bind_eq_some_iff.mp H
    obtain ⟨⟨t301, t302, t303⟩, A130, H⟩ := H
    (try dsimp only at H)
    have A13 := Aside0.mk A130
    clear A130
    by_cases c14 : t301 = true
    ·subst c14
     rw [if_pos rfl] at H
     replace H := Option.bind_eq_some_iff.mp H
     obtain ⟨⟨t304, t305, t306⟩, A150, H⟩ := H
     (try dsimp only at H)
     have A15 := Aside0.mk A150
     clear A150
     replace H := Option.bind_eq_some_iff.mp H
     obtain ⟨⟨t307, t308, t309⟩, A160, H⟩ := H
     (try dsimp only at H)
     have A16 := Aside0.mk A160
     clear A160
     by_cases c17 : 0 ≤ t304
     ·rw [if_pos c17] at H
      have c17b0 : decide (0 ≤ t304) = true := decide_eq_true c17
      clear c17
      by_cases c18 : t304 < (t298.length : Int)
      ·rw [if_pos c18] at H
       have c18b0 : decide (t304 < (t298.length : Int)) = true := decide_eq_true c18
       clear c18
       obtain ⟨y310, hy310⟩ : ∃ y_ : List Int, y_ = (t298.set (t304 : Int).toNat (wrap64 (1 + t307))) := ⟨_, rfl⟩
       replace H : (some (y310, t308, t309)) = some (r1, r2, r3) := by first | (rw [hy310]; with_reducible exact H) | (have H2_ := (Option.bind_some _ _).symm.trans H; rw [hy310]; with_reducible exact H2_) | (have H2_ := (Option.bind_some _ _).symm.trans H; with_reducible exact H2_) | with_reducible exact H | (rw [hy310]; exact H) | exact H
       have Ny310 := Aside0.mk hy310
       clear hy310
       simp only [Option.some.injEq, Prod.mk.injEq] at H
       obtain ⟨rfl, rfl, rfl⟩ := H
       go_wp2_with (first | ((with_reducible refine gate_callee (f := 97) rfl ?_); refine goesL_ (some 26) rfl rfl Tryz.func97 (by kernel_rfl) rfl #[.slice A1 l1.length c1, .int .i64 a2] rfl (by (try simp only [List.map_toArray, List.map_cons, List.map_nil]); first | done | rfl | (simp only [List.length_drop, List.length_take]; rfl)) ?_; (with_reducible refine (spec_beFind.calls kj3 _ _ l1 a2 t294 t295 _ ?side1 ?side2 A11.out).mono ?_); (case side1 => exact Kd.C_keep 0 HR1.out (by repeat (first | (with_reducible first | exact HK.out | apply KeepBut.set_ | apply keep_drewN | apply keep_drew | apply keep_alloc) | exact HK.out)) hf1); (case side2 => exact HC1.out); rintro e w20 ⟨v296, rfl, ho0, hb⟩; refine ⟨_, rfl, ?_⟩; have n0_ := Aside0.mk (Kd.R_lower ho0 (keep_size (w := w) (g := g) (row := none) (by repeat (first | (with_reducible first | exact HK.out | apply KeepBut.set_ | apply keep_drewN | apply keep_drew | apply keep_alloc) | exact HK.out)))); have n1_ := Aside0.mk (IsS57.below (by (try simp only [Int.add_zero]); repeat (first | (with_reducible first | exact HI0.out | apply IsS57.alloc | apply IsS57.drewN | apply IsS57.drew | apply IsS57.set_1 | apply IsS57.set_2) | exact HI0.out)) hb); have n2_ := Aside0.mk (KeepBut.trans (by repeat (first | (with_reducible first | exact HK.out | apply KeepBut.set_ | apply keep_drewN | apply keep_drew | apply keep_alloc) | exact HK.out)) (KeepBut.of_below hb g none) (.inl rfl)); have n3_ := Aside0.mk (below_step (by repeat (first | (with_reducible first | exact HB.out | apply below_alloc | apply pw_below_drewN | apply below_drew1 | refine below_set ?_ (IsS57.ge HI0.out)) | exact HB.out)) hb); clear HI0; clear HK; clear HB; have HO297 := n0_; have HI0 := n1_; have HK := n2_; have HB := n3_; clear n0_ n1_ n2_ n3_; (try clear hb); (try clear hb2); (try clear hk); (try clear hi); (try clear ho0); obtain ⟨Ao21, co21, eo21⟩ := Kd.R_slice HO297.out; subst eo21) | ((with_reducible refine gate_callee (f := 94) rfl ?_); refine goesL_ (some 30) rfl rfl Tryz.func94 (by kernel_rfl) rfl #[.slice Ao21 t294.length co21] rfl (by (try simp only [List.map_toArray, List.map_cons, List.map_nil]); first | done | rfl | (simp only [List.length_drop, List.length_take]; rfl)) ?_; (with_reducible refine (spec_l1Own.calls _ _ t294 t298 _ ?side1 ?side2 A12.out).mono ?_); (case side1 => exact zC (Kd.R_reads' HO297.out).2.2); (case side2 => exact (Kd.R_reads' HO297.out).2.1); rintro e w22 ⟨v299, rfl, ho0, hb⟩; refine ⟨_, rfl, ?_⟩; have n0_ := Aside0.mk (Kd.R_elder' (zR HO297.out) (Kd.R_base ho0) hb); have n1_ := Aside0.mk (Kd.R_lower (Kd.R_new' ho0 (Kd.R_lt (zR HO297.out))) (keep_size (w := w) (g := g) (row := none) (by repeat (first | (with_reducible first | exact HK.out | apply KeepBut.set_ | apply keep_drewN | apply keep_drew | apply keep_alloc) | exact HK.out)))); have n2_ := Aside0.mk (IsS57.below (by (try simp only [Int.add_zero]); repeat (first | (with_reducible first | exact HI0.out | apply IsS57.alloc | apply IsS57.drewN | apply IsS57.drew | apply IsS57.set_1 | apply IsS57.set_2) | exact HI0.out)) hb); have n3_ := Aside0.mk (KeepBut.trans (by repeat (first | (with_reducible first | exact HK.out | apply KeepBut.set_ | apply keep_drewN | apply keep_drew | apply keep_alloc) | exact HK.out)) (KeepBut.of_below hb g none) (.inl rfl)); have n4_ := Aside0.mk (below_step (by repeat (first | (with_reducible first | exact HB.out | apply below_alloc | apply pw_below_drewN | apply below_drew1 | refine below_set ?_ (IsS57.ge HI0.out)) | exact HB.out)) hb); clear HO297; clear HI0; clear HK; clear HB; have HO297 := n0_; have HO300 := n1_; have HI0 := n2_; have HK := n3_; have HB := n4_; clear n0_ n1_ n2_ n3_ n4_; (try clear hb); (try clear hb2); (try clear hk); (try clear hi); (try clear ho0)) | ((with_reducible refine gate_callee (f := 96) rfl ?_); refine goesL_ (some 32) rfl rfl Tryz.func96 (by kernel_rfl) rfl #[.pointer (some ⟨g, 0, none⟩), .int .i64 3] rfl (by (try simp only [List.map_toArray, List.map_cons, List.map_nil]); first | done | rfl | (simp only [List.length_drop, List.length_take]; rfl)) ?_; (with_reducible refine (spec_l1Cur_one.calls g s0_0 x1001_3 x1002_3 3 true t302 t303 w0 _ ?side1 ?side2 A13.out).mono ?_); (case side1 => repeat (first | (with_reducible first | exact HI0.out | apply IsS57.alloc | apply IsS57.drewN | apply IsS57.drew | apply IsS57.set_1 | apply IsS57.set_2) | exact HI0.out)); (case side2 => repeat (first | (with_reducible first | exact HB.out | apply below_alloc | apply pw_below_drewN | apply below_drew1 | refine below_set ?_ (IsS57.ge HI0.out)) | exact HB.out)); rintro e w23 ⟨rfl, hi, hb, hk⟩; refine ⟨_, rfl, ?_⟩; have n0_ := Aside0.mk (Kd.R_mono (Kd.R_keep (IsS57.apart (show IsS57 w0 _ g s0_0 x1001_3 x1002_3 from by (try simp only [Int.add_zero]); repeat (first | (with_reducible first | exact HI0.out | apply IsS57.alloc | apply IsS57.drewN | apply IsS57.drew | apply IsS57.set_1 | apply IsS57.set_2) | exact HI0.out)) (zR HO297.out) (by decide)) hk (fun _ h => h.2)) (fun _ h => h.1)); have n1_ := Aside0.mk (Kd.R_mono (Kd.R_keep (IsS57.apart (show IsS57 w0 _ g s0_0 x1001_3 x1002_3 from by (try simp only [Int.add_zero]); repeat (first | (with_reducible first | exact HI0.out | apply IsS57.alloc | apply IsS57.drewN | apply IsS57.drew | apply IsS57.set_1 | apply IsS57.set_2) | exact HI0.out)) (zR HO300.out) (by decide)) hk (fun _ h => h.2)) (fun _ h => h.1)); have n2_ := Aside0.mk (KeepBut.trans (by repeat (first | (with_reducible first | exact HK.out | apply KeepBut.set_ | apply keep_drewN | apply keep_drew | apply keep_alloc) | exact HK.out)) hk (.inl rfl)); have n3_ := Aside0.mk (hb); have n4_ := Aside0.mk (hi); clear HO297; clear HO300; clear HK; clear HB; clear HI0; have HO297 := n0_; have HO300 := n1_; have HK := n2_; have HB := n3_; have HI0 := n4_; clear n0_ n1_ n2_ n3_ n4_; (try clear hb); (try clear hb2); (try clear hk); (try clear hi); obtain ⟨Ao24, co24, eo24⟩ := Kd.R_slice HO300.out; subst eo24) | ((with_reducible refine gate_callee (f := 87) rfl ?_); refine goesL_ (some 37) rfl rfl Tryz.func87 (by kernel_rfl) rfl #[.pointer (some ⟨g, 0, none⟩), .int .i64 (t298.length : Int)] rfl (by (try simp only [List.map_toArray, List.map_cons, List.map_nil]); first | done | rfl | (simp only [List.length_drop, List.length_take]; rfl)) ?_; (with_reducible refine (spec_l1Cur_pick.calls g s0_0 t302 t303 (t298.length : Int) t304 t305 t306 w0 _ ?side1 ?side2 A15.out).mono ?_); (case side1 => repeat (first | (with_reducible first | exact HI0.out | apply IsS57.alloc | apply IsS57.drewN | apply IsS57.drew | apply IsS57.set_1 | apply IsS57.set_2) | exact HI0.out)); (case side2 => repeat (first | (with_reducible first | exact HB.out | apply below_alloc | apply pw_below_drewN | apply below_drew1 | refine below_set ?_ (IsS57.ge HI0.out)) | exact HB.out)); rintro e w25 ⟨rfl, hi, hb, hk⟩; refine ⟨_, rfl, ?_⟩; have n0_ := Aside0.mk (Kd.R_mono (Kd.R_keep (IsS57.apart (show IsS57 w0 _ g s0_0 t302 t303 from by (try simp only [Int.add_zero]); repeat (first | (with_reducible first | exact HI0.out | apply IsS57.alloc | apply IsS57.drewN | apply IsS57.drew | apply IsS57.set_1 | apply IsS57.set_2) | exact HI0.out)) (zR HO297.out) (by decide)) hk (fun _ h => h.2)) (fun _ h => h.1)); have n1_ := Aside0.mk (Kd.R_mono (Kd.R_keep (IsS57.apart (show IsS57 w0 _ g s0_0 t302 t303 from by (try simp only [Int.add_zero]); repeat (first | (with_reducible first | exact HI0.out | apply IsS57.alloc | apply IsS57.drewN | apply IsS57.drew | apply IsS57.set_1 | apply IsS57.set_2) | exact HI0.out)) (zR HO300.out) (by decide)) hk (fun _ h => h.2)) (fun _ h => h.1)); have n2_ := Aside0.mk (KeepBut.trans (by repeat (first | (with_reducible first | exact HK.out | apply KeepBut.set_ | apply keep_drewN | apply keep_drew | apply keep_alloc) | exact HK.out)) hk (.inl rfl)); have n3_ := Aside0.mk (hb); have n4_ := Aside0.mk (hi); clear HO297; clear HO300; clear HK; clear HB; clear HI0; have HO297 := n0_; have HO300 := n1_; have HK := n2_; have HB := n3_; have HI0 := n4_; clear n0_ n1_ n2_ n3_ n4_; (try clear hb); (try clear hb2); (try clear hk); (try clear hi)) | ((with_reducible refine gate_callee (f := 87) rfl ?_); refine goesL_ (some 39) rfl rfl Tryz.func87 (by kernel_rfl) rfl #[.pointer (some ⟨g, 0, none⟩), .int .i64 4] rfl (by (try simp only [List.map_toArray, List.map_cons, List.map_nil]); first | done | rfl | (simp only [List.length_drop, List.length_take]; rfl)) ?_; (with_reducible refine (spec_l1Cur_pick.calls g s0_0 t305 t306 4 t307 t308 t309 w0 _ ?side1 ?side2 A16.out).mono ?_); (case side1 => repeat (first | (with_reducible first | exact HI0.out | apply IsS57.alloc | apply IsS57.drewN | apply IsS57.drew | apply IsS57.set_1 | apply IsS57.set_2) | exact HI0.out)); (case side2 => repeat (first | (with_reducible first | exact HB.out | apply below_alloc | apply pw_below_drewN | apply below_drew1 | refine below_set ?_ (IsS57.ge HI0.out)) | exact HB.out)); rintro e w26 ⟨rfl, hi, hb, hk⟩; refine ⟨_, rfl, ?_⟩; have n0_ := Aside0.mk (Kd.R_mono (Kd.R_keep (IsS57.apart (show IsS57 w0 _ g s0_0 t305 t306 from by (try simp only [Int.add_zero]); repeat (first | (with_reducible first | exact HI0.out | apply IsS57.alloc | apply IsS57.drewN | apply IsS57.drew | apply IsS57.set_1 | apply IsS57.set_2) | exact HI0.out)) (zR HO297.out) (by decide)) hk (fun _ h => h.2)) (fun _ h => h.1)); have n1_ := Aside0.mk (Kd.R_mono (Kd.R_keep (IsS57.apart (show IsS57 w0 _ g s0_0 t305 t306 from by (try simp only [Int.add_zero]); repeat (first | (with_reducible first | exact HI0.out | apply IsS57.alloc | apply IsS57.drewN | apply IsS57.drew | apply IsS57.set_1 | apply IsS57.set_2) | exact HI0.out)) (zR HO300.out) (by decide)) hk (fun _ h => h.2)) (fun _ h => h.1)); have n2_ := Aside0.mk (KeepBut.trans (by repeat (first | (with_reducible first | exact HK.out | apply KeepBut.set_ | apply keep_drewN | apply keep_drew | apply keep_alloc) | exact HK.out)) hk (.inl rfl)); have n3_ := Aside0.mk (hb); have n4_ := Aside0.mk (hi); clear HO297; clear HO300; clear HK; clear HB; clear HI0; have HO297 := n0_; have HO300 := n1_; have HK := n2_; have HB := n3_; have HI0 := n4_; clear n0_ n1_ n2_ n3_ n4_; (try clear hb); (try clear hb2); (try clear hk); (try clear hi); have p19 : 0 ≤ (t304 : Int) := zD; have q19 : (t304 : Int) < ((t298.length : Int) : Int) := zD; obtain ⟨go19, co19, eo19, gb19, gl19, cl19, HG19⟩ := Kd.R_form HO300.out (by omega); (first | cases eo19 | (injection eo19 with ea_ en_ ec_; (first | subst ea_ | (injection ea_ with ea_; subst ea_)); subst ec_; clear en_)); have GB19 := Aside0.mk gb19; have GG19 := Aside0.mk HG19; clear gb19 gl19 HG19; obtain ⟨hx19_0, hf19_0⟩ := Kd.R_celln 0 HO300.out (t304 : Int) p19 q19; replace p19 := eq_true p19; replace q19 := eq_true q19; have n_ := Aside0.mk (Kd.R_mono (ok' := (fun k_ => some k_ ≠ (.slice Ao21 t294.length co21 : Value).ownBlock)) HO300.out (fun k_ hk => hk.2)); clear HO300; have HO300 := n_; clear n_; obtain ⟨hy27_, hz27_⟩ := Kd.R_celln 0 HO300.out (t304 : Int) (zD) (zD); have HP27 := Kd.R_putg HO300.out (t304 : Int) (wrap64 (1 + t307))) | ((with_reducible refine gate_store (t := 3) (p := 41) rfl ?_); refine store_event (t := 3) (p := 41) (v := ?vo_w28) (w1 := (w26.setCell ⟨go19, (t304 : Int).toNat, none⟩ (.int .i64 (wrap64 (1 + t307))))) ?hg ?ho ?hn ?hr ?_; (case ho => rfl); (case hg => rfl); (case hn => rfl); (case hr => first | (go_simp; done) | (go_simp; rfl)); intro w28 hw; have hg : w26.grownBy w28 (some go19) := (by rw [hw]; exact HP27.2); have hp_ : Kd.R (Kd.int .i64) 3 w28 w.heap.size (fun k_ => some k_ ≠ (.slice Ao21 t294.length co21 : Value).ownBlock) (.slice (some ⟨go19, 0, none⟩) t298.length co24) y310 := (by rw [hw, Ny310.out]; exact HP27.1); clear HP27; have n0_ := Aside0.mk (IsS57.grown (by (try simp only [Int.add_zero]); repeat (first | (with_reducible first | exact HI0.out | apply IsS57.alloc | apply IsS57.drewN | apply IsS57.drew | apply IsS57.set_1 | apply IsS57.set_2) | exact HI0.out)) hg (IsS57.own_ne HI0.out HO300.out (by decide))); have n1_ := Aside0.mk (Kd.R_after (v := (.slice (some ⟨go19, 0, none⟩) t298.length co24)) (v1 := (.slice (some ⟨go19, 0, none⟩) t298.length co24)) (ok := (fun _ => True)) (zR HO297.out) hg (.inl rfl)); have n2_ := Aside0.mk (hp_); have n3_ := Aside0.mk ((by rw [hw]; exact below_set (HB.out) (Nat.le_trans HL.out GB19.out) : Below w0.heap.size w0 w28)); have n4_ := Aside0.mk (KeepBut.trans (by repeat (first | (with_reducible first | exact HK.out | apply KeepBut.set_ | apply keep_drewN | apply keep_drew | apply keep_alloc) | exact HK.out)) (KeepBut.of_grown hg g) (Kd.R_base2 HO300.out)); clear HI0; clear HO297; clear HO300; clear HB; clear HK; have HI0 := n0_; have HO297 := n1_; have HO300 := n2_; have HB := n3_; have HK := n4_; clear n0_ n1_ n2_ n3_ n4_; clear hg hw hp_))
       go_ret
       exact ⟨_, zF, by (with_reducible repeat (first | apply Kd.R_alloc | apply Kd.R_drewN | apply Kd.R_drew)); exact Kd.R_mono HO300.out (fun _ hk => trivial), by (try simp only [Int.add_zero]); repeat (first | (with_reducible first | exact HI0.out | apply IsS57.alloc | apply IsS57.drewN | apply IsS57.drew | apply IsS57.set_1 | apply IsS57.set_2) | exact HI0.out), by repeat (first | (with_reducible first | exact HB.out | apply below_alloc | apply pw_below_drewN | apply below_drew1 | refine below_set ?_ (IsS57.ge HI0.out)) | exact HB.out), by repeat (first | (with_reducible first | exact HK.out | apply KeepBut.set_ | apply keep_drewN | apply keep_drew | apply keep_alloc) | exact HK.out)⟩
      ·rw [if_neg c18] at H
       exact absurd H (by simp)
     ·rw [if_neg c17] at H
      exact absurd H (by simp)
    ·replace c14 := Bool.eq_false_iff.mpr c14
     subst c14
     rw [if_neg zN] at H
     simp only [Option.some.injEq, Prod.mk.injEq] at H
     obtain ⟨rfl, rfl, rfl⟩ := H
     go_wp2_with (first | ((with_reducible refine gate_callee (f := 97) rfl ?_); refine goesL_ (some 26) rfl rfl Tryz.func97 (by kernel_rfl) rfl #[.slice A1 l1.length c1, .int .i64 a2] rfl (by (try simp only [List.map_toArray, List.map_cons, List.map_nil]); first | done | rfl | (simp only [List.length_drop, List.length_take]; rfl)) ?_; (with_reducible refine (spec_beFind.calls kj3 _ _ l1 a2 t294 t295 _ ?side1 ?side2 A11.out).mono ?_); (case side1 => exact Kd.C_keep 0 HR1.out (by repeat (first | (with_reducible first | exact HK.out | apply KeepBut.set_ | apply keep_drewN | apply keep_drew | apply keep_alloc) | exact HK.out)) hf1); (case side2 => exact HC1.out); rintro e w29 ⟨v296, rfl, ho0, hb⟩; refine ⟨_, rfl, ?_⟩; have n0_ := Aside0.mk (Kd.R_lower ho0 (keep_size (w := w) (g := g) (row := none) (by repeat (first | (with_reducible first | exact HK.out | apply KeepBut.set_ | apply keep_drewN | apply keep_drew | apply keep_alloc) | exact HK.out)))); have n1_ := Aside0.mk (IsS57.below (by (try simp only [Int.add_zero]); repeat (first | (with_reducible first | exact HI0.out | apply IsS57.alloc | apply IsS57.drewN | apply IsS57.drew | apply IsS57.set_1 | apply IsS57.set_2) | exact HI0.out)) hb); have n2_ := Aside0.mk (KeepBut.trans (by repeat (first | (with_reducible first | exact HK.out | apply KeepBut.set_ | apply keep_drewN | apply keep_drew | apply keep_alloc) | exact HK.out)) (KeepBut.of_below hb g none) (.inl rfl)); have n3_ := Aside0.mk (below_step (by repeat (first | (with_reducible first | exact HB.out | apply below_alloc | apply pw_below_drewN | apply below_drew1 | refine below_set ?_ (IsS57.ge HI0.out)) | exact HB.out)) hb); clear HI0; clear HK; clear HB; have HO297 := n0_; have HI0 := n1_; have HK := n2_; have HB := n3_; clear n0_ n1_ n2_ n3_; (try clear hb); (try clear hb2); (try clear hk); (try clear hi); (try clear ho0); obtain ⟨Ao30, co30, eo30⟩ := Kd.R_slice HO297.out; subst eo30) | ((with_reducible refine gate_callee (f := 94) rfl ?_); refine goesL_ (some 30) rfl rfl Tryz.func94 (by kernel_rfl) rfl #[.slice Ao30 t294.length co30] rfl (by (try simp only [List.map_toArray, List.map_cons, List.map_nil]); first | done | rfl | (simp only [List.length_drop, List.length_take]; rfl)) ?_; (with_reducible refine (spec_l1Own.calls _ _ t294 t298 _ ?side1 ?side2 A12.out).mono ?_); (case side1 => exact zC (Kd.R_reads' HO297.out).2.2); (case side2 => exact (Kd.R_reads' HO297.out).2.1); rintro e w31 ⟨v299, rfl, ho0, hb⟩; refine ⟨_, rfl, ?_⟩; have n0_ := Aside0.mk (Kd.R_elder' (zR HO297.out) (Kd.R_base ho0) hb); have n1_ := Aside0.mk (Kd.R_lower (Kd.R_new' ho0 (Kd.R_lt (zR HO297.out))) (keep_size (w := w) (g := g) (row := none) (by repeat (first | (with_reducible first | exact HK.out | apply KeepBut.set_ | apply keep_drewN | apply keep_drew | apply keep_alloc) | exact HK.out)))); have n2_ := Aside0.mk (IsS57.below (by (try simp only [Int.add_zero]); repeat (first | (with_reducible first | exact HI0.out | apply IsS57.alloc | apply IsS57.drewN | apply IsS57.drew | apply IsS57.set_1 | apply IsS57.set_2) | exact HI0.out)) hb); have n3_ := Aside0.mk (KeepBut.trans (by repeat (first | (with_reducible first | exact HK.out | apply KeepBut.set_ | apply keep_drewN | apply keep_drew | apply keep_alloc) | exact HK.out)) (KeepBut.of_below hb g none) (.inl rfl)); have n4_ := Aside0.mk (below_step (by repeat (first | (with_reducible first | exact HB.out | apply below_alloc | apply pw_below_drewN | apply below_drew1 | refine below_set ?_ (IsS57.ge HI0.out)) | exact HB.out)) hb); clear HO297; clear HI0; clear HK; clear HB; have HO297 := n0_; have HO300 := n1_; have HI0 := n2_; have HK := n3_; have HB := n4_; clear n0_ n1_ n2_ n3_ n4_; (try clear hb); (try clear hb2); (try clear hk); (try clear hi); (try clear ho0)) | ((with_reducible refine gate_callee (f := 96) rfl ?_); refine goesL_ (some 32) rfl rfl Tryz.func96 (by kernel_rfl) rfl #[.pointer (some ⟨g, 0, none⟩), .int .i64 3] rfl (by (try simp only [List.map_toArray, List.map_cons, List.map_nil]); first | done | rfl | (simp only [List.length_drop, List.length_take]; rfl)) ?_; (with_reducible refine (spec_l1Cur_one.calls g s0_0 x1001_3 x1002_3 3 false t302 t303 w0 _ ?side1 ?side2 A13.out).mono ?_); (case side1 => repeat (first | (with_reducible first | exact HI0.out | apply IsS57.alloc | apply IsS57.drewN | apply IsS57.drew | apply IsS57.set_1 | apply IsS57.set_2) | exact HI0.out)); (case side2 => repeat (first | (with_reducible first | exact HB.out | apply below_alloc | apply pw_below_drewN | apply below_drew1 | refine below_set ?_ (IsS57.ge HI0.out)) | exact HB.out)); rintro e w32 ⟨rfl, hi, hb, hk⟩; refine ⟨_, rfl, ?_⟩; have n0_ := Aside0.mk (Kd.R_mono (Kd.R_keep (IsS57.apart (show IsS57 w0 _ g s0_0 x1001_3 x1002_3 from by (try simp only [Int.add_zero]); repeat (first | (with_reducible first | exact HI0.out | apply IsS57.alloc | apply IsS57.drewN | apply IsS57.drew | apply IsS57.set_1 | apply IsS57.set_2) | exact HI0.out)) (zR HO297.out) (by decide)) hk (fun _ h => h.2)) (fun _ h => h.1)); have n1_ := Aside0.mk (Kd.R_mono (Kd.R_keep (IsS57.apart (show IsS57 w0 _ g s0_0 x1001_3 x1002_3 from by (try simp only [Int.add_zero]); repeat (first | (with_reducible first | exact HI0.out | apply IsS57.alloc | apply IsS57.drewN | apply IsS57.drew | apply IsS57.set_1 | apply IsS57.set_2) | exact HI0.out)) (zR HO300.out) (by decide)) hk (fun _ h => h.2)) (fun _ h => h.1)); have n2_ := Aside0.mk (KeepBut.trans (by repeat (first | (with_reducible first | exact HK.out | apply KeepBut.set_ | apply keep_drewN | apply keep_drew | apply keep_alloc) | exact HK.out)) hk (.inl rfl)); have n3_ := Aside0.mk (hb); have n4_ := Aside0.mk (hi); clear HO297; clear HO300; clear HK; clear HB; clear HI0; have HO297 := n0_; have HO300 := n1_; have HK := n2_; have HB := n3_; have HI0 := n4_; clear n0_ n1_ n2_ n3_ n4_; (try clear hb); (try clear hb2); (try clear hk); (try clear hi)))
     go_ret
     exact ⟨_, zF, by (with_reducible repeat (first | apply Kd.R_alloc | apply Kd.R_drewN | apply Kd.R_drew)); exact Kd.R_mono HO300.out (fun _ hk => trivial), by (try simp only [Int.add_zero]); repeat (first | (with_reducible first | exact HI0.out | apply IsS57.alloc | apply IsS57.drewN | apply IsS57.drew | apply IsS57.set_1 | apply IsS57.set_2) | exact HI0.out), by repeat (first | (with_reducible first | exact HB.out | apply below_alloc | apply pw_below_drewN | apply below_drew1 | refine below_set ?_ (IsS57.ge HI0.out)) | exact HB.out), by repeat (first | (with_reducible first | exact HK.out | apply KeepBut.set_ | apply keep_drewN | apply keep_drew | apply keep_alloc) | exact HK.out)⟩
   ·replace c10 := Bool.eq_false_iff.mpr c10
    subst c10
    rw [if_neg zN] at H
    have H' := Aside0.mk H
    clear H
    go_wp2
    go_loopg [9, 45] kj3 (fun kq v9 v45 w' => ∃ (x9_2 : List Int) (x45_2 : Int) (x1001_2 : Int) (x1002_2 : Int), v45 = .int .i64 x45_2 ∧ Aside0 (spec_l1Cur_lengthsFor.l0 kq x9_2 (l1.length : Int) x45_2 s0_0 x1001_2 x1002_2 = some (r1, r2, r3)) ∧ Aside0 (kq ≤ kj3) ∧ Aside0 (Kd.R (Kd.int .i64) 3 w' w.heap.size (fun _ => True) v9 x9_2) ∧ Aside0 (IsS57 w0 w' g s0_0 x1001_2 x1002_2) ∧ Aside0 (KeepBut w w' g none) ∧ Aside0 (Below w0.heap.size w0 w'))
    case atStart => exact ⟨(([] : List Int)), (0), (x1001_3), (x1002_3), zE1, H', ⟨Nat.le_refl _⟩, ⟨by first | exact Kd.R_nil _ _ _ _ _ | exact Kd.N_nil _ _ _ _ _ | exact Kd.V_nil _ _ _ _ _ | exact Kd.Q_nil _ _ _ _ _ | exact Kd.S_nil _ _ _ _ _⟩, ⟨by (try simp only [Int.add_zero]); repeat (first | (with_reducible first | exact HI0.out | apply IsS57.alloc | apply IsS57.drewN | apply IsS57.drew | apply IsS57.set_1 | apply IsS57.set_2) | exact HI0.out)⟩, ⟨by repeat (first | (with_reducible first | exact HK.out | apply KeepBut.set_ | apply keep_drewN | apply keep_drew | apply keep_alloc) | exact HK.out)⟩, ⟨by repeat (first | (with_reducible first | exact HB.out | apply below_alloc | apply pw_below_drewN | apply below_drew1 | refine below_set ?_ (IsS57.ge HI0.out)) | exact HB.out)⟩⟩
    case round =>
     clear H'
     try clear c1
     try clear p1
     try clear q1
     try clear hx1
     try clear p2
     try clear c4
     try clear c5
     try clear c6
     try clear p6
     try clear c7
     try clear c7b0
     try clear c7b1
     try clear c8
     try clear c9
     try clear c10
     try clear c14
     try clear c17
     try clear c17b0
     try clear c18
     try clear c18b0
     try clear p19
     try clear q19
     try clear hx19
     try clear hf19
     try clear hx19_0
     try clear p19
     try clear p2
     try clear q19
     obtain ⟨x9_2, x45_2, x1001_2, x1002_2, rfl, HA, HK2, HO_9, HI0, HK, HB⟩ := hrel
     cases gk with
     | zero => exact absurd HA.out (by simp [spec_l1Cur_lengthsFor.l0])
     | succ k2 =>
      have H := HA.out
      clear HA
      simp only [spec_l1Cur_lengthsFor.l0] at H
      by_cases c33 : x45_2 < (l1.length : Int)
      ·rw [if_pos c33] at H
       have c33b0 : decide (x45_2 < (l1.length : Int)) = true := decide_eq_true c33
       clear c33
       replace H := Option.bind_eq_some_iff.mp H
       obtain ⟨⟨t311, t312, t313⟩, A340, H⟩ := H
       (try dsimp only at H)
       have A34 := Aside0.mk A340
       clear A340
       by_cases c35 : x9_2.length < 17592186044416
       ·rw [if_pos c35] at H
        have LMc35 := Aside0.mk c35
        clear c35
        obtain ⟨y314, hy314⟩ : ∃ y_ : List Int, y_ = (x9_2 ++ [wrap64 (1 + t311)]) := ⟨_, rfl⟩
        replace H : (spec_l1Cur_lengthsFor.l0 k2 y314 (l1.length : Int) (wrap64 (x45_2 + 1)) s0_0 t312 t313) = some (r1, r2, r3) := by first | (rw [hy314]; with_reducible exact H) | (have H2_ := (Option.bind_some _ _).symm.trans H; rw [hy314]; with_reducible exact H2_) | (have H2_ := (Option.bind_some _ _).symm.trans H; with_reducible exact H2_) | with_reducible exact H | (rw [hy314]; exact H) | exact H
        have Ny314 := Aside0.mk hy314
        clear hy314
        have H' := Aside0.mk H
        clear H
        go_wp2_with (first | ((with_reducible refine gate_callee (f := 87) rfl ?_); refine goesL_ (some 49) rfl rfl Tryz.func87 (by kernel_rfl) rfl #[.pointer (some ⟨g, 0, none⟩), .int .i64 4] rfl (by (try simp only [List.map_toArray, List.map_cons, List.map_nil]); first | done | rfl | (simp only [List.length_drop, List.length_take]; rfl)) ?_; (with_reducible refine (spec_l1Cur_pick.calls g s0_0 x1001_2 x1002_2 4 t311 t312 t313 w0 _ ?side1 ?side2 A34.out).mono ?_); (case side1 => repeat (first | (with_reducible first | exact HI0.out | apply IsS57.alloc | apply IsS57.drewN | apply IsS57.drew | apply IsS57.set_1 | apply IsS57.set_2) | exact HI0.out)); (case side2 => repeat (first | (with_reducible first | exact HB.out | apply below_alloc | apply pw_below_drewN | apply below_drew1 | refine below_set ?_ (IsS57.ge HI0.out)) | exact HB.out)); rintro e w36 ⟨rfl, hi, hb, hk⟩; refine ⟨_, rfl, ?_⟩; have n0_ := Aside0.mk (Kd.R_mono (Kd.R_keep (IsS57.apart (show IsS57 w0 _ g s0_0 x1001_2 x1002_2 from by (try simp only [Int.add_zero]); repeat (first | (with_reducible first | exact HI0.out | apply IsS57.alloc | apply IsS57.drewN | apply IsS57.drew | apply IsS57.set_1 | apply IsS57.set_2) | exact HI0.out)) (zR HO_9.out) (by decide)) hk (fun _ h => h.2)) (fun _ h => h.1)); have n1_ := Aside0.mk (KeepBut.trans (by repeat (first | (with_reducible first | exact HK.out | apply KeepBut.set_ | apply keep_drewN | apply keep_drew | apply keep_alloc) | exact HK.out)) hk (.inl rfl)); have n2_ := Aside0.mk (hb); have n3_ := Aside0.mk (hi); clear HO_9; clear HK; clear HB; clear HI0; have HO_9 := n0_; have HK := n1_; have HB := n2_; have HI0 := n3_; clear n0_ n1_ n2_ n3_; (try clear hb); (try clear hb2); (try clear hk); (try clear hi)) | ((with_reducible refine gate_builtin (b := .append) (xs := #[.tmp 47, .tmp 51]) rfl ?_); (try (refine gate_guard (by rfl) ?_; dsimp only)); at_builtin; refine Kd.R_append (Kd.int .i64) w.heap.size rfl (.tmp 47) (.tmp 51) 24 3 (.int .i64 0) 8 rfl Tryz.underlying24 info3 rfl (by decide) (by omega) u9 x9_2 (wrap64 (1 + t311)) [.int .i64 (wrap64 (1 + t311))] (fun _ => True) (fun _ => False) rfl rfl ?aP (fun _ hk => hk.elim) ?aF ?aO (Below.refl _ _) ?aS ?aL ?_; (case aP => exact rfl); (case aF => exact (fun _ _ => trivial)); (case aO => exact (zR HO_9.out)); (case aS => exact (keep_size (w := w) (g := g) (row := none) (by repeat (first | (with_reducible first | exact HK.out | apply KeepBut.set_ | apply keep_drewN | apply keep_drew | apply keep_alloc) | exact HK.out)))); (case aL => have := LMc35.out; omega); intro v315 w37 ho hb hg hat; rw [← Ny314.out] at ho; have n0_ := Aside0.mk (IsS57.grown (by (try simp only [Int.add_zero]); repeat (first | (with_reducible first | exact HI0.out | apply IsS57.alloc | apply IsS57.drewN | apply IsS57.drew | apply IsS57.set_1 | apply IsS57.set_2) | exact HI0.out)) hg (IsS57.own_ne HI0.out HO_9.out (by decide))); have n1_ := Aside0.mk (below_weaken (by repeat (first | (with_reducible first | exact HB.out | apply below_alloc | apply pw_below_drewN | apply below_drew1 | refine below_set ?_ (IsS57.ge HI0.out)) | exact HB.out)) HL.out hb); have n2_ := Aside0.mk (KeepBut.trans (by repeat (first | (with_reducible first | exact HK.out | apply KeepBut.set_ | apply keep_drewN | apply keep_drew | apply keep_alloc) | exact HK.out)) (KeepBut.of_grown hg g) (Kd.R_base2 HO_9.out)); have n3_ := Aside0.mk (ho); clear HI0; clear HB; clear HK; clear HO_9; have HI0 := n0_; have HB := n1_; have HK := n2_; have HO316 := n3_; clear n0_ n1_ n2_ n3_; clear ho hb hg hat))
        go_roundg k2
        case measure => have := HJ3.out; have := HK2.out; omega
        case rel => exact ⟨(y314), (wrap64 (x45_2 + 1)), (t312), (t313), zE1, H', ⟨by have := HJ3.out; have := HK2.out; omega⟩, ⟨zR HO316.out⟩, ⟨by (try simp only [Int.add_zero]); repeat (first | (with_reducible first | exact HI0.out | apply IsS57.alloc | apply IsS57.drewN | apply IsS57.drew | apply IsS57.set_1 | apply IsS57.set_2) | exact HI0.out)⟩, ⟨by repeat (first | (with_reducible first | exact HK.out | apply KeepBut.set_ | apply keep_drewN | apply keep_drew | apply keep_alloc) | exact HK.out)⟩, ⟨by repeat (first | (with_reducible first | exact HB.out | apply below_alloc | apply pw_below_drewN | apply below_drew1 | refine below_set ?_ (IsS57.ge HI0.out)) | exact HB.out)⟩⟩
       ·rw [if_neg c35] at H
        exact absurd H (by simp)
      ·rw [if_neg c33] at H
       have c33b0 : decide (x45_2 < (l1.length : Int)) = false := decide_eq_false c33
       clear c33
       by_cases c38 : (x9_2.length : Int) > 0
       ·rw [if_pos c38] at H
        have c38b0 : decide (0 < (x9_2.length : Int)) = true := decide_eq_true c38
        have c38b1 : decide (0 < x9_2.length) = true := decide_eq_true (by omega)
        clear c38
        replace H := Option.bind_eq_some_iff.mp H
        obtain ⟨⟨t317, t318, t319⟩, A390, H⟩ := H
        (try dsimp only at H)
        have A39 := Aside0.mk A390
        clear A390
        by_cases c40 : t317 = true
        ·subst c40
         rw [if_pos rfl] at H
         obtain ⟨y320, hy320⟩ : ∃ y_ : List Int, y_ = (([0, 8, 11, 12, 4611686018427387904] : List Int)) := ⟨_, rfl⟩
         replace H : ((spec_l1Cur_among.f s0_0 t318 t319 y320).bind fun bt323 => (if 0 < (x9_2.length : Int) then (some ((x9_2.set (0 : Int).toNat bt323.1), bt323.2.1, bt323.2.2)) else (none))) = some (r1, r2, r3) := by first | (rw [hy320]; with_reducible exact H) | (have H2_ := (Option.bind_some _ _).symm.trans H; rw [hy320]; with_reducible exact H2_) | (have H2_ := (Option.bind_some _ _).symm.trans H; with_reducible exact H2_) | with_reducible exact H | (rw [hy320]; exact H) | exact H
         have Ny320 := Aside0.mk hy320
         clear hy320
         replace H := Option.bind_eq_some_iff.mp H
         obtain ⟨⟨t323, t324, t325⟩, A410, H⟩ := H
         (try dsimp only at H)
         have A41 := Aside0.mk A410
         clear A410
         by_cases c42 : 0 < (x9_2.length : Int)
         ·rw [if_pos c42] at H
          have c42b0 : decide (0 < (x9_2.length : Int)) = true := decide_eq_true c42
          have c42b1 : decide (0 < x9_2.length) = true := decide_eq_true (by omega)
          clear c42
          obtain ⟨y326, hy326⟩ : ∃ y_ : List Int, y_ = (x9_2.set (0 : Int).toNat t323) := ⟨_, rfl⟩
          replace H : (some (y326, t324, t325)) = some (r1, r2, r3) := by first | (rw [hy326]; with_reducible exact H) | (have H2_ := (Option.bind_some _ _).symm.trans H; rw [hy326]; with_reducible exact H2_) | (have H2_ := (Option.bind_some _ _).symm.trans H; with_reducible exact H2_) | with_reducible exact H | (rw [hy326]; exact H) | exact H
          have Ny326 := Aside0.mk hy326
          clear hy326
          simp only [Option.some.injEq, Prod.mk.injEq] at H
          obtain ⟨rfl, rfl, rfl⟩ := H
          obtain ⟨Ao44, co44, eo44⟩ := Kd.R_slice HO_9.out
          subst eo44
          go_wp2_with (first | (go_at_call 96; (with_reducible refine (spec_l1Cur_one.calls g s0_0 x1001_2 x1002_2 8 true t318 t319 w0 _ ?side1 ?side2 A39.out).mono ?_); (case side1 => repeat (first | (with_reducible first | exact HI0.out | apply IsS57.alloc | apply IsS57.drewN | apply IsS57.drew | apply IsS57.set_1 | apply IsS57.set_2) | exact HI0.out)); (case side2 => repeat (first | (with_reducible first | exact HB.out | apply below_alloc | apply pw_below_drewN | apply below_drew1 | refine below_set ?_ (IsS57.ge HI0.out)) | exact HB.out)); rintro e w45 ⟨rfl, hi, hb, hk⟩; have n0_ := Aside0.mk (Kd.R_mono (Kd.R_keep (IsS57.apart (show IsS57 w0 _ g s0_0 x1001_2 x1002_2 from by (try simp only [Int.add_zero]); repeat (first | (with_reducible first | exact HI0.out | apply IsS57.alloc | apply IsS57.drewN | apply IsS57.drew | apply IsS57.set_1 | apply IsS57.set_2) | exact HI0.out)) (zR HO_9.out) (by decide)) hk (fun _ h => h.2)) (fun _ h => h.1)); have n1_ := Aside0.mk (KeepBut.trans (by repeat (first | (with_reducible first | exact HK.out | apply KeepBut.set_ | apply keep_drewN | apply keep_drew | apply keep_alloc) | exact HK.out)) hk (.inl rfl)); have n2_ := Aside0.mk (hb); have n3_ := Aside0.mk (hi); clear HO_9; clear HK; clear HB; clear HI0; have HO_9 := n0_; have HK := n1_; have HB := n2_; have HI0 := n3_; clear n0_ n1_ n2_ n3_; (try clear hb); (try clear hb2); (try clear hk); (try clear hi)) | ((with_reducible refine gate_dst (N := 63) rfl ?_); (try (refine gate_guard (by rfl) ?_; dsimp only)); refine Kd.R_lit (Kd.int .i64) _ 3 ?hg (N := 63) ?hd (xs := ([0, 8, 11, 12, 4611686018427387904] : List Int)) (inner := [.int .i64 0, .int .i64 8, .int .i64 11, .int .i64 12, .int .i64 4611686018427387904]) (ok := fun _ => True) (okp := fun _ => True) ?hr ?hp (fun _ hk => hk) trivial (Below.refl _ _) (Nat.le_refl _) (by simp) ?_; (case hd => rfl); (case hg => rfl); (case hr => first | (go_simp; done) | (go_simp; rfl)); (case hp => exact (Reps.one (show Kd.M (Kd.int .i64) _ _ _ 0 [.int .i64 0] from rfl) (Reps.one (show Kd.M (Kd.int .i64) _ _ _ 8 [.int .i64 8] from rfl) (Reps.one (show Kd.M (Kd.int .i64) _ _ _ 11 [.int .i64 11] from rfl) (Reps.one (show Kd.M (Kd.int .i64) _ _ _ 12 [.int .i64 12] from rfl) (Reps.one (show Kd.M (Kd.int .i64) _ _ _ 4611686018427387904 [.int .i64 4611686018427387904] from rfl) (Reps.none _ _))))))); intro v321 w46 ho47 hb hg_ hnew_; clear hg_ hnew_; (first | rw [← Ny320.out] at ho47 | (simp only [Int.reduceToNat] at ho47; rw [← Ny320.out] at ho47)); have n0_ := Aside0.mk (Kd.R_elder' (zR HO_9.out) (Kd.R_base ho47) hb); have n1_ := Aside0.mk (Kd.R_lower (Kd.R_new' ho47 (Kd.R_lt (zR HO_9.out))) (keep_size (w := w) (g := g) (row := none) (by repeat (first | (with_reducible first | exact HK.out | apply KeepBut.set_ | apply keep_drewN | apply keep_drew | apply keep_alloc) | exact HK.out)))); have n2_ := Aside0.mk (IsS57.below (by (try simp only [Int.add_zero]); repeat (first | (with_reducible first | exact HI0.out | apply IsS57.alloc | apply IsS57.drewN | apply IsS57.drew | apply IsS57.set_1 | apply IsS57.set_2) | exact HI0.out)) hb); have n3_ := Aside0.mk (KeepBut.trans (by repeat (first | (with_reducible first | exact HK.out | apply KeepBut.set_ | apply keep_drewN | apply keep_drew | apply keep_alloc) | exact HK.out)) (KeepBut.of_below hb g none) (.inl rfl)); have n4_ := Aside0.mk (below_step (by repeat (first | (with_reducible first | exact HB.out | apply below_alloc | apply pw_below_drewN | apply below_drew1 | refine below_set ?_ (IsS57.ge HI0.out)) | exact HB.out)) hb); clear HO_9; clear HI0; clear HK; clear HB; have HO_9 := n0_; have HO322 := n1_; have HI0 := n2_; have HK := n3_; have HB := n4_; clear n0_ n1_ n2_ n3_ n4_; clear hb ho47; obtain ⟨Ao48, co48, eo48⟩ := Kd.R_slice HO322.out; subst eo48) | ((with_reducible refine gate_callee (f := 38) rfl ?_); refine goesL_ (some 64) rfl rfl Tryz.func38 (by kernel_rfl) rfl #[.pointer (some ⟨g, 0, none⟩), .slice Ao48 y320.length co48] rfl (by (try simp only [List.map_toArray, List.map_cons, List.map_nil]); first | done | rfl | (simp only [List.length_drop, List.length_take]; rfl)) ?_; (with_reducible refine (spec_l1Cur_among.calls g s0_0 t318 t319 _ _ y320 t323 t324 t325 w0 _ ?side1 ?side2 ?side3 ?side4 ?side5 A41.out).mono ?_); (case side1 => repeat (first | (with_reducible first | exact HI0.out | apply IsS57.alloc | apply IsS57.drewN | apply IsS57.drew | apply IsS57.set_1 | apply IsS57.set_2) | exact HI0.out)); (case side2 => repeat (first | (with_reducible first | exact HB.out | apply below_alloc | apply pw_below_drewN | apply below_drew1 | refine below_set ?_ (IsS57.ge HI0.out)) | exact HB.out)); (case side3 => exact zC (Kd.R_reads' HO322.out).2.2); (case side4 => exact (Kd.R_reads' HO322.out).2.1); (case side5 => exact far_slice (IsS57.own_ne HI0.out HO322.out (by decide))); rintro e w49 ⟨rfl, hi, hb, hk⟩; refine ⟨_, rfl, ?_⟩; have n0_ := Aside0.mk (Kd.R_mono (Kd.R_keep (IsS57.apart (show IsS57 w0 _ g s0_0 t318 t319 from by (try simp only [Int.add_zero]); repeat (first | (with_reducible first | exact HI0.out | apply IsS57.alloc | apply IsS57.drewN | apply IsS57.drew | apply IsS57.set_1 | apply IsS57.set_2) | exact HI0.out)) (zR HO_9.out) (by decide)) hk (fun _ h => h.2)) (fun _ h => h.1)); have n1_ := Aside0.mk (Kd.R_mono (Kd.R_keep (IsS57.apart (show IsS57 w0 _ g s0_0 t318 t319 from by (try simp only [Int.add_zero]); repeat (first | (with_reducible first | exact HI0.out | apply IsS57.alloc | apply IsS57.drewN | apply IsS57.drew | apply IsS57.set_1 | apply IsS57.set_2) | exact HI0.out)) (zR HO322.out) (by decide)) hk (fun _ h => h.2)) (fun _ h => h.1)); have n2_ := Aside0.mk (KeepBut.trans (by repeat (first | (with_reducible first | exact HK.out | apply KeepBut.set_ | apply keep_drewN | apply keep_drew | apply keep_alloc) | exact HK.out)) hk (.inl rfl)); have n3_ := Aside0.mk (hb); have n4_ := Aside0.mk (hi); clear HO_9; clear HO322; clear HK; clear HB; clear HI0; have HO_9 := n0_; have HO322 := n1_; have HK := n2_; have HB := n3_; have HI0 := n4_; clear n0_ n1_ n2_ n3_ n4_; (try clear hb); (try clear hb2); (try clear hk); (try clear hi); have p43 : 0 ≤ (0 : Int) := (by omega); have q43 : (0 : Int) < ((x9_2.length : Int) : Int) := zD; have qi43 : (0 < x9_2.length) = True := eq_true (by omega); obtain ⟨go43, co43, eo43, gb43, gl43, cl43, HG43⟩ := Kd.R_form HO_9.out (by omega); (first | cases eo43 | (injection eo43 with ea_ en_ ec_; (first | subst ea_ | (injection ea_ with ea_; subst ea_)); subst ec_; clear en_)); have GB43 := Aside0.mk gb43; have GG43 := Aside0.mk HG43; clear gb43 gl43 HG43; obtain ⟨hx43_0, hf43_0⟩ := Kd.R_celln 0 HO_9.out (0 : Int) p43 q43; (try rw [show ((0 : Int)).toNat = 0 from rfl] at hx43_0); (try simp only [Nat.reduceMul, Nat.zero_mul, Nat.zero_add, Nat.reduceAdd] at hx43_0); (try rw [show ((0 : Int)).toNat = 0 from rfl] at hf43_0); (try simp only [Nat.reduceMul, Nat.zero_mul, Nat.zero_add, Nat.reduceAdd] at hf43_0); replace p43 := eq_true p43; replace q43 := eq_true q43; have n_ := Aside0.mk (Kd.R_mono (ok' := (fun k_ => some k_ ≠ (.slice Ao48 y320.length co48 : Value).ownBlock)) HO_9.out (fun k_ hk => hk.2)); clear HO_9; have HO_9 := n_; clear n_; obtain ⟨hy50_, hz50_⟩ := Kd.R_celln 0 HO_9.out (0 : Int) (by omega) (zD); (try simp only [Int.reduceToNat, Int.toNat_zero, Int.toNat_ofNat, Nat.reduceMul, Nat.zero_mul, Nat.zero_add] at hy50_ hz50_); (try rw [show ((0 : Int)).toNat = 0 from rfl] at hy50_); (try rw [show ((0 : Int)).toNat = 0 from rfl] at hz50_); have HP50 := Kd.R_putg HO_9.out (0 : Int) t323) | ((with_reducible refine gate_store (t := 3) (p := 65) rfl ?_); refine store_event (t := 3) (p := 65) (v := ?vo_w51) (w1 := (w49.setCell ⟨go43, (0 : Int).toNat, none⟩ (.int .i64 t323))) ?hg ?ho ?hn ?hr ?_; (case ho => rfl); (case hg => rfl); (case hn => rfl); (case hr => first | (go_simp; done) | (go_simp; rfl)); intro w51 hw; have hg : w49.grownBy w51 (some go43) := (by rw [hw]; exact HP50.2); have hp_ : Kd.R (Kd.int .i64) 3 w51 w.heap.size (fun k_ => some k_ ≠ (.slice Ao48 y320.length co48 : Value).ownBlock) (.slice (some ⟨go43, 0, none⟩) x9_2.length co44) y326 := (by rw [hw, Ny326.out]; exact HP50.1); clear HP50; have n0_ := Aside0.mk (hp_); have n1_ := Aside0.mk (IsS57.grown (by (try simp only [Int.add_zero]); repeat (first | (with_reducible first | exact HI0.out | apply IsS57.alloc | apply IsS57.drewN | apply IsS57.drew | apply IsS57.set_1 | apply IsS57.set_2) | exact HI0.out)) hg (IsS57.own_ne HI0.out HO_9.out (by decide))); have n2_ := Aside0.mk (Kd.R_after (v := (.slice (some ⟨go43, 0, none⟩) x9_2.length co44)) (v1 := (.slice (some ⟨go43, 0, none⟩) x9_2.length co44)) (ok := (fun _ => True)) (zR HO322.out) hg (.inl rfl)); have n3_ := Aside0.mk ((by rw [hw]; exact below_set (HB.out) (Nat.le_trans HL.out GB43.out) : Below w0.heap.size w0 w51)); have n4_ := Aside0.mk (KeepBut.trans (by repeat (first | (with_reducible first | exact HK.out | apply KeepBut.set_ | apply keep_drewN | apply keep_drew | apply keep_alloc) | exact HK.out)) (KeepBut.of_grown hg g) (Kd.R_base2 HO_9.out)); clear HO_9; clear HI0; clear HO322; clear HB; clear HK; have HO_9 := n0_; have HI0 := n1_; have HO322 := n2_; have HB := n3_; have HK := n4_; clear n0_ n1_ n2_ n3_ n4_; clear hg hw hp_))
          go_ret
          exact ⟨_, zF, by (with_reducible repeat (first | apply Kd.R_alloc | apply Kd.R_drewN | apply Kd.R_drew)); exact Kd.R_mono HO_9.out (fun _ hk => trivial), by (try simp only [Int.add_zero]); repeat (first | (with_reducible first | exact HI0.out | apply IsS57.alloc | apply IsS57.drewN | apply IsS57.drew | apply IsS57.set_1 | apply IsS57.set_2) | exact HI0.out), by repeat (first | (with_reducible first | exact HB.out | apply below_alloc | apply pw_below_drewN | apply below_drew1 | refine below_set ?_ (IsS57.ge HI0.out)) | exact HB.out), by repeat (first | (with_reducible first | exact HK.out | apply KeepBut.set_ | apply keep_drewN | apply keep_drew | apply keep_alloc) | exact HK.out)⟩
         ·rw [if_neg c42] at H
          exact absurd H (by simp)
        ·replace c40 := Bool.eq_false_iff.mpr c40
         subst c40
         rw [if_neg zN] at H
         simp only [Option.some.injEq, Prod.mk.injEq] at H
         obtain ⟨rfl, rfl, rfl⟩ := H
         obtain ⟨Ao52, co52, eo52⟩ := Kd.R_slice HO_9.out
         subst eo52
         go_wp2_with (first | (go_at_call 96; (with_reducible refine (spec_l1Cur_one.calls g s0_0 x1001_2 x1002_2 8 false t318 t319 w0 _ ?side1 ?side2 A39.out).mono ?_); (case side1 => repeat (first | (with_reducible first | exact HI0.out | apply IsS57.alloc | apply IsS57.drewN | apply IsS57.drew | apply IsS57.set_1 | apply IsS57.set_2) | exact HI0.out)); (case side2 => repeat (first | (with_reducible first | exact HB.out | apply below_alloc | apply pw_below_drewN | apply below_drew1 | refine below_set ?_ (IsS57.ge HI0.out)) | exact HB.out)); rintro e w53 ⟨rfl, hi, hb, hk⟩; have n0_ := Aside0.mk (Kd.R_mono (Kd.R_keep (IsS57.apart (show IsS57 w0 _ g s0_0 x1001_2 x1002_2 from by (try simp only [Int.add_zero]); repeat (first | (with_reducible first | exact HI0.out | apply IsS57.alloc | apply IsS57.drewN | apply IsS57.drew | apply IsS57.set_1 | apply IsS57.set_2) | exact HI0.out)) (zR HO_9.out) (by decide)) hk (fun _ h => h.2)) (fun _ h => h.1)); have n1_ := Aside0.mk (KeepBut.trans (by repeat (first | (with_reducible first | exact HK.out | apply KeepBut.set_ | apply keep_drewN | apply keep_drew | apply keep_alloc) | exact HK.out)) hk (.inl rfl)); have n2_ := Aside0.mk (hb); have n3_ := Aside0.mk (hi); clear HO_9; clear HK; clear HB; clear HI0; have HO_9 := n0_; have HK := n1_; have HB := n2_; have HI0 := n3_; clear n0_ n1_ n2_ n3_; (try clear hb); (try clear hb2); (try clear hk); (try clear hi)))
         go_ret
         exact ⟨_, zF, zR HO_9.out, by (try simp only [Int.add_zero]); repeat (first | (with_reducible first | exact HI0.out | apply IsS57.alloc | apply IsS57.drewN | apply IsS57.drew | apply IsS57.set_1 | apply IsS57.set_2) | exact HI0.out), by repeat (first | (with_reducible first | exact HB.out | apply below_alloc | apply pw_below_drewN | apply below_drew1 | refine below_set ?_ (IsS57.ge HI0.out)) | exact HB.out), by repeat (first | (with_reducible first | exact HK.out | apply KeepBut.set_ | apply keep_drewN | apply keep_drew | apply keep_alloc) | exact HK.out)⟩
       ·rw [if_neg c38] at H
        have c38b0 : decide (0 < (x9_2.length : Int)) = false := decide_eq_false c38
        have c38b1 : decide (0 < x9_2.length) = false := decide_eq_false (by omega)
        clear c38
        simp only [Option.some.injEq, Prod.mk.injEq] at H
        obtain ⟨rfl, rfl, rfl⟩ := H
        obtain ⟨Ao54, co54, eo54⟩ := Kd.R_slice HO_9.out
        subst eo54
        go_wp2
        go_ret
        exact ⟨_, zF, zR HO_9.out, by (try simp only [Int.add_zero]); repeat (first | (with_reducible first | exact HI0.out | apply IsS57.alloc | apply IsS57.drewN | apply IsS57.drew | apply IsS57.set_1 | apply IsS57.set_2) | exact HI0.out), by repeat (first | (with_reducible first | exact HB.out | apply below_alloc | apply pw_below_drewN | apply below_drew1 | refine below_set ?_ (IsS57.ge HI0.out)) | exact HB.out), by repeat (first | (with_reducible first | exact HK.out | apply KeepBut.set_ | apply keep_drewN | apply keep_drew | apply keep_alloc) | exact HK.out)⟩
def spec_DrawWordsFor.f (k : Nat) (l0 : List Int) : Option (List Int × Int) := (spec_l1Cur_weights.f k l0 0 0 6).bind fun bt328 => ((spec_l1Cur_letters.f l0 bt328.2.1 bt328.2.2).bind fun bt333 => ((spec_l1Cur_lengthsFor.f k l0 bt333.2.1 bt333.2.2 bt328.1 bt333.1).bind fun bt336 => (some (bt336.1, bt333.1))))
theorem spec_DrawWordsFor.mono : ∀ a0 k, LeO (spec_DrawWordsFor.f k a0) (spec_DrawWordsFor.f (k + 1) a0) := by
 intro a0 k
 unfold spec_DrawWordsFor.f
 repeat' first
   | (with_reducible first | exact spec_l1Cur_lengthsFor.mono _ _ _ _ _ _ | exact spec_l1Cur_weights.mono _ _ _ _ _ | exact LeO.refl _ | exact LeO.none _ | refine LeO.ite ?_ ?_ | refine LeO.bind ?_ (fun _ => ?_))
   | exact spec_l1Cur_lengthsFor.mono _ _ _ _ _ _
   | exact spec_l1Cur_weights.mono _ _ _ _ _
   | exact LeO.none _
   | refine LeO.ite ?_ ?_
   | refine LeO.bind ?_ (fun _ => ?_)
theorem spec_DrawWordsFor.calls (k : Nat) (A0 : Option Addr) (c0 : Nat) (l0 : List Int) (r1 : List Int) (r2 : Int) (w : World) (hr0 : Kd.C (Kd.int .u8) w A0 l0.length l0) (hc0 : l0.length ≤ c0) (h : spec_DrawWordsFor.f k l0 = some (r1, r2)) :
  Calls Tryz.prog 13 #[.slice A0 l0.length c0] w fun e w' => ∃ v0_ : Value, e = .returned (.tuple #[v0_, .int .i64 r2]) ∧ Kd.R (Kd.int .i64) 3 w' w.heap.size (fun _ => True) v0_ r1 ∧ Below w.heap.size w w' := by
 have hu57 := Tryz.underlying57
 have HR0 := Aside0.mk hr0
 have HC0 := Aside0.mk hc0
 clear hr0 hc0
 have HB := Aside0.mk (Below.refl w.heap.size w)
 have H : ((spec_l1Cur_weights.f k l0 0 0 6).bind fun bt328 => ((spec_l1Cur_letters.f l0 bt328.2.1 bt328.2.2).bind fun bt333 => ((spec_l1Cur_lengthsFor.f k l0 bt333.2.1 bt333.2.2 bt328.1 bt333.1).bind fun bt336 => (some (bt336.1, bt333.1))))) = some (r1, r2) := h
 clear h
 replace H := Option.bind_eq_some_iff.mp H
 obtain ⟨⟨t328, t331, t332⟩, A20, H⟩ := H
 (try dsimp only at H)
 have A2 := Aside0.mk A20
 clear A20
 replace H := Option.bind_eq_some_iff.mp H
 obtain ⟨⟨t333, t334, t335⟩, A30, H⟩ := H
 (try dsimp only at H)
 have A3 := Aside0.mk A30
 clear A30
 replace H := Option.bind_eq_some_iff.mp H
 obtain ⟨⟨t336, t339, t340⟩, A40, H⟩ := H
 (try dsimp only at H)
 have A4 := Aside0.mk A40
 clear A40
 simp only [Option.some.injEq, Prod.mk.injEq] at H
 obtain ⟨rfl, rfl⟩ := H
 go_enter Tryz.func13, Tryz.ntmps13
 go_wp2_with (first | ((with_reducible refine gate_dst (N := 9) rfl ?_); refine box_event ?hg (N := 9) ?hd (cs := #[.slice A0 l0.length c0, .int .i64 0, .int .u64 0]) (t := 57) ?hr ?_; (case hd => rfl); (case hg => rfl); (case hr => first | (go_simp; done) | (go_simp; rfl)); intro gb327 hg w5 hbox hb; have n0_ := Aside0.mk (below_step (zB HB.out) hb); have n1_ := Aside0.mk ((⟨_, _, hbox, (by rw [hg]; exact (below_size (zB HB.out)) : w.heap.size ≤ gb327), HR0.out⟩ : IsS57 w w5 gb327 l0 0 0)); clear HB; have HB := n0_; have HI327 := n1_; clear n0_ n1_; clear hb hbox hg) | ((with_reducible refine gate_callee (f := 36) rfl ?_); refine goesL_ (some 11) rfl rfl Tryz.func36 (by kernel_rfl) rfl #[.pointer (some ⟨gb327, 0, none⟩), .int .i64 6] rfl (by (try simp only [List.map_toArray, List.map_cons, List.map_nil]); first | done | rfl | (simp only [List.length_drop, List.length_take]; rfl)) ?_; (with_reducible refine (spec_l1Cur_weights.calls k gb327 l0 0 0 6 t328 t331 t332 w _ ?side1 ?side2 A2.out).mono ?_); (case side1 => repeat (first | (with_reducible first | exact HI327.out | apply IsS57.alloc | apply IsS57.drewN | apply IsS57.drew | apply IsS57.set_1 | apply IsS57.set_2) | exact HI327.out)); (case side2 => repeat (first | (with_reducible first | exact HB.out | apply below_alloc | apply pw_below_drewN | apply below_drew1 | refine below_set ?_ (IsS57.ge HI327.out)) | exact HB.out)); rintro e w6 ⟨v329, rfl, ho0, hi, hb, hk⟩; refine ⟨_, rfl, ?_⟩; have n0_ := Aside0.mk (Kd.R_lower ho0 (below_size (by repeat (first | (with_reducible first | exact HB.out | apply below_alloc | apply pw_below_drewN | apply below_drew1 | refine below_set ?_ (IsS57.ge HI327.out)) | exact HB.out)))); have n1_ := Aside0.mk (hb); have n2_ := Aside0.mk (hi); clear HB; clear HI327; have HO330 := n0_; have HB := n1_; have HI327 := n2_; clear n0_ n1_ n2_; (try clear hb); (try clear hb2); (try clear hk); (try clear hi); (try clear ho0)) | ((with_reducible refine gate_callee (f := 37) rfl ?_); refine goesL_ (some 13) rfl rfl Tryz.func37 (by kernel_rfl) rfl #[.pointer (some ⟨gb327, 0, none⟩)] rfl (by (try simp only [List.map_toArray, List.map_cons, List.map_nil]); first | done | rfl | (simp only [List.length_drop, List.length_take]; rfl)) ?_; (with_reducible refine (spec_l1Cur_letters.calls gb327 l0 t331 t332 t333 t334 t335 w _ ?side1 ?side2 A3.out).mono ?_); (case side1 => repeat (first | (with_reducible first | exact HI327.out | apply IsS57.alloc | apply IsS57.drewN | apply IsS57.drew | apply IsS57.set_1 | apply IsS57.set_2) | exact HI327.out)); (case side2 => repeat (first | (with_reducible first | exact HB.out | apply below_alloc | apply pw_below_drewN | apply below_drew1 | refine below_set ?_ (IsS57.ge HI327.out)) | exact HB.out)); rintro e w7 ⟨rfl, hi, hb, hk⟩; refine ⟨_, rfl, ?_⟩; have n0_ := Aside0.mk (Kd.R_mono (Kd.R_keep (IsS57.apart (show IsS57 w _ gb327 l0 t331 t332 from by repeat (first | (with_reducible first | exact HI327.out | apply IsS57.alloc | apply IsS57.drewN | apply IsS57.drew | apply IsS57.set_1 | apply IsS57.set_2) | exact HI327.out)) (zR HO330.out) (by decide)) hk (fun _ h => h.2)) (fun _ h => h.1)); have n1_ := Aside0.mk (hb); have n2_ := Aside0.mk (hi); clear HO330; clear HB; clear HI327; have HO330 := n0_; have HB := n1_; have HI327 := n2_; clear n0_ n1_ n2_; (try clear hb); (try clear hb2); (try clear hk); (try clear hi); obtain ⟨Ao8, co8, eo8⟩ := Kd.R_slice HO330.out; subst eo8) | ((with_reducible refine gate_callee (f := 54) rfl ?_); refine goesL_ (some 17) rfl rfl Tryz.func54 (by kernel_rfl) rfl #[.pointer (some ⟨gb327, 0, none⟩), .slice Ao8 t328.length co8, .int .i64 t333] rfl (by (try simp only [List.map_toArray, List.map_cons, List.map_nil]); first | done | rfl | (simp only [List.length_drop, List.length_take]; rfl)) ?_; (with_reducible refine (spec_l1Cur_lengthsFor.calls k gb327 l0 t334 t335 _ _ t328 t333 t336 t339 t340 w _ ?side1 ?side2 ?side3 ?side4 ?side5 A4.out).mono ?_); (case side1 => repeat (first | (with_reducible first | exact HI327.out | apply IsS57.alloc | apply IsS57.drewN | apply IsS57.drew | apply IsS57.set_1 | apply IsS57.set_2) | exact HI327.out)); (case side2 => repeat (first | (with_reducible first | exact HB.out | apply below_alloc | apply pw_below_drewN | apply below_drew1 | refine below_set ?_ (IsS57.ge HI327.out)) | exact HB.out)); (case side3 => exact zC (Kd.R_reads' HO330.out).2.2); (case side4 => exact (Kd.R_reads' HO330.out).2.1); (case side5 => exact far_slice (IsS57.own_ne HI327.out HO330.out (by decide))); rintro e w9 ⟨v337, rfl, ho0, hi, hb, hk⟩; refine ⟨_, rfl, ?_⟩; have n0_ := Aside0.mk (Kd.R_mono (Kd.R_told (Kd.R_oldK (IsS57.apart (show IsS57 w _ gb327 l0 t334 t335 from by repeat (first | (with_reducible first | exact HI327.out | apply IsS57.alloc | apply IsS57.drewN | apply IsS57.drew | apply IsS57.set_1 | apply IsS57.set_2) | exact HI327.out)) (zR HO330.out) (by decide)) hk) (Kd.R_base ho0)) (fun _ h_ => h_.1)); have n1_ := Aside0.mk (Kd.R_lower (Kd.R_new' ho0 (Kd.R_lt (zR HO330.out))) (below_size (by repeat (first | (with_reducible first | exact HB.out | apply below_alloc | apply pw_below_drewN | apply below_drew1 | refine below_set ?_ (IsS57.ge HI327.out)) | exact HB.out)))); have n2_ := Aside0.mk (hb); have n3_ := Aside0.mk (hi); clear HO330; clear HB; clear HI327; have HO330 := n0_; have HO338 := n1_; have HB := n2_; have HI327 := n3_; clear n0_ n1_ n2_ n3_; (try clear hb); (try clear hb2); (try clear hk); (try clear hi); (try clear ho0)))
 go_ret2
 exact ⟨_, zF, by (with_reducible repeat (first | apply Kd.R_alloc | apply Kd.R_drewN | apply Kd.R_drew)); exact Kd.R_mono HO338.out (fun _ hk => trivial), by repeat (first | (with_reducible first | exact HB.out | apply below_alloc | apply pw_below_drewN | apply below_drew1 | refine below_set ?_ (IsS57.ge HI327.out)) | exact HB.out)⟩
def impl_areDeep__1.f (a0 : Int) : Option (Bool) := (impl_in.f a0 1 11).bind fun t341 => (some (!t341))
theorem impl_areDeep__1.calls (a0 : Int) (r : Bool) (w : World) (h : impl_areDeep__1.f a0 = some r) :
  Calls Tryz.prog 98 #[.int .i64 a0] w fun e w' => e = .returned (.bool r) ∧ Drawn0 w w' := by
 have H : ((impl_in.f a0 1 11).bind fun t341 => (some (!t341))) = some r := h
 clear h
 replace H := Option.bind_eq_some_iff.mp H
 obtain ⟨t341, A20, H⟩ := H
 (try dsimp only at H)
 have A2 := Aside0.mk A20
 clear A20
 obtain rfl := Option.some.inj H
 go_enter Tryz.func98, Tryz.ntmps98
 go_wp2_with (first | ((with_reducible refine gate_callee (f := 41) rfl ?_); refine goesL_ (some 4) rfl rfl Tryz.func41 (by kernel_rfl) rfl #[.int .i64 a0, .int .i64 1, .int .i64 11] rfl (by (try simp only [List.map_toArray, List.map_cons, List.map_nil]); first | done | rfl | (simp only [List.length_drop, List.length_take]; rfl)) ?_; (with_reducible refine (impl_in.calls a0 1 11 t341 _ A2.out).mono ?_); rintro e w' ⟨rfl, ⟨nd, rfl⟩⟩; refine ⟨_, rfl, ?_⟩))
 go_ret
 exact ⟨by first | rfl | (simp; done) | (simp [*]; done) | (simp only [IntWalk.i64_left]; done) | (simp [IntWalk.i64_left]; done) | (simp [*, IntWalk.i64_left]; done), by repeat (first | exact Drawn0.refl _ | apply Drawn0.step)⟩
def slices_IndexFunc_int_int__at_impl_areDeep__1.l0 : Nat → List Int → Int → Int → Option (Int)
 | 0, _, _, _ => none
 | k + 1, x0, x7, x8 => if x8 < x7 then (if 0 ≤ x8 then (if x8 < (x0.length : Int) then ((impl_areDeep__1.f (rd x0 x8)).bind fun t343 => (if t343 = true then (some x8) else (slices_IndexFunc_int_int__at_impl_areDeep__1.l0 k x0 x7 (wrap64 (x8 + 1))))) else (none)) else (none)) else (some (-1))
def slices_IndexFunc_int_int__at_impl_areDeep__1.f (k : Nat) (l0 : List Int)  : Option (Int) := slices_IndexFunc_int_int__at_impl_areDeep__1.l0 k l0 (l0.length : Int) 0
theorem slices_IndexFunc_int_int__at_impl_areDeep__1.mono_l : ∀ k, (∀ y0 y1 y2, LeO (slices_IndexFunc_int_int__at_impl_areDeep__1.l0 k y0 y1 y2) (slices_IndexFunc_int_int__at_impl_areDeep__1.l0 (k + 1) y0 y1 y2))
 | 0 => fun _ _ _ r h => by simp [slices_IndexFunc_int_int__at_impl_areDeep__1.l0] at h
 | k + 1 => by
  have ih0 := slices_IndexFunc_int_int__at_impl_areDeep__1.mono_l k
  ·intro y0 y1 y2
   unfold slices_IndexFunc_int_int__at_impl_areDeep__1.l0
   repeat' first
   | (with_reducible first | exact ih0 _ _ _ | exact LeO.refl _ | exact LeO.none _ | refine LeO.ite ?_ ?_ | refine LeO.bind ?_ (fun _ => ?_))
   | exact ih0 _ _ _
   | exact LeO.none _
   | refine LeO.ite ?_ ?_
   | refine LeO.bind ?_ (fun _ => ?_)
theorem slices_IndexFunc_int_int__at_impl_areDeep__1.mono : ∀ a0 k, LeO (slices_IndexFunc_int_int__at_impl_areDeep__1.f k a0) (slices_IndexFunc_int_int__at_impl_areDeep__1.f (k + 1) a0) := by
 intro a0 k
 have ih0 := slices_IndexFunc_int_int__at_impl_areDeep__1.mono_l k
 unfold slices_IndexFunc_int_int__at_impl_areDeep__1.f
 repeat' first
   | (with_reducible first | exact ih0 _ _ _ | exact LeO.refl _ | exact LeO.none _ | refine LeO.ite ?_ ?_ | refine LeO.bind ?_ (fun _ => ?_))
   | exact ih0 _ _ _
   | exact LeO.none _
   | refine LeO.ite ?_ ?_
   | refine LeO.bind ?_ (fun _ => ?_)
theorem slices_IndexFunc_int_int__at_impl_areDeep__1.calls (k : Nat) (A0 : Option Addr) (c0 : Nat) (l0 : List Int)  (r : Int) (w : World) (hr0 : Kd.C (Kd.int .i64) w A0 l0.length l0) (hc0 : l0.length ≤ c0) (h : slices_IndexFunc_int_int__at_impl_areDeep__1.f k l0 = some r) :
  Calls Tryz.prog 129 #[.slice A0 l0.length c0, .func (.func 98) #[] #[]] w fun e w' => e = .returned (.int .i64 r) ∧ Drawn0 w w' := by
 have HR0 := Aside0.mk hr0
 have HC0 := Aside0.mk hc0
 clear hr0 hc0
 have H : (slices_IndexFunc_int_int__at_impl_areDeep__1.l0 k l0 (l0.length : Int) 0) = some r := h
 clear h
 have H' := Aside0.mk H
 clear H
 go_enter Tryz.func129, Tryz.ntmps129
 go_wp2
 go_loopg [8] k (fun kq v8 w' => ∃ (x8_1 : Int), v8 = .int .i64 x8_1 ∧ Aside0 (slices_IndexFunc_int_int__at_impl_areDeep__1.l0 kq l0 (l0.length : Int) x8_1 = some r) ∧ Aside0 (kq ≤ k) ∧ Drawn0 w w')
 case atStart => exact ⟨(0), zE1, H', ⟨Nat.le_refl _⟩, by repeat (first | exact Drawn0.refl _ | apply Drawn0.step)⟩
 case round =>
  clear H'
  try clear p2
  obtain ⟨x8_1, rfl, HA, HK1, ⟨m1, rfl⟩⟩ := hrel
  cases gk with
  | zero => exact absurd HA.out (by simp [slices_IndexFunc_int_int__at_impl_areDeep__1.l0])
  | succ k1 =>
   have H := HA.out
   clear HA
   simp only [slices_IndexFunc_int_int__at_impl_areDeep__1.l0] at H
   by_cases c3 : x8_1 < (l0.length : Int)
   ·rw [if_pos c3] at H
    have c3b0 : decide (x8_1 < (l0.length : Int)) = true := decide_eq_true c3
    clear c3
    by_cases c4 : 0 ≤ x8_1
    ·rw [if_pos c4] at H
     have c4b0 : decide (0 ≤ x8_1) = true := decide_eq_true c4
     clear c4
     by_cases c5 : x8_1 < (l0.length : Int)
     ·rw [if_pos c5] at H
      have c5b0 : decide (x8_1 < (l0.length : Int)) = true := decide_eq_true c5
      clear c5
      replace H := Option.bind_eq_some_iff.mp H
      obtain ⟨t343, A60, H⟩ := H
      (try dsimp only at H)
      have A6 := Aside0.mk A60
      clear A60
      by_cases c7 : t343 = true
      ·subst c7
       rw [if_pos rfl] at H
       obtain rfl := Option.some.inj H
       have p342 : 0 ≤ (x8_1 : Int) := zD
       have q342 : x8_1 < (l0.length : Int) := zD
       obtain ⟨ad342, e342, hx342_0⟩ := Kd.at_int HR0.out x8_1 p342 q342
       cases e342
       replace p342 := eq_true p342
       replace q342 := eq_true q342
       go_wp2_with (first | (go_at_call 98; (with_reducible refine (impl_areDeep__1.calls (rd l0 x8_1) true _ A6.out).mono ?_); rintro e w' ⟨rfl, ⟨nd, rfl⟩⟩))
       go_ret
       exact ⟨by first | rfl | (simp; done) | (simp [*]; done) | (simp only [IntWalk.i64_left]; done) | (simp [IntWalk.i64_left]; done) | (simp [*, IntWalk.i64_left]; done), by repeat (first | exact Drawn0.refl _ | apply Drawn0.step)⟩
      ·replace c7 := Bool.eq_false_iff.mpr c7
       subst c7
       rw [if_neg zN] at H
       have H' := Aside0.mk H
       clear H
       have p342 : 0 ≤ (x8_1 : Int) := zD
       have q342 : x8_1 < (l0.length : Int) := zD
       obtain ⟨ad342, e342, hx342_0⟩ := Kd.at_int HR0.out x8_1 p342 q342
       cases e342
       replace p342 := eq_true p342
       replace q342 := eq_true q342
       go_wp2_with (first | (go_at_call 98; (with_reducible refine (impl_areDeep__1.calls (rd l0 x8_1) false _ A6.out).mono ?_); rintro e w' ⟨rfl, ⟨nd, rfl⟩⟩))
       go_roundg k1
       case measure => have := HK1.out; omega
       case rel => exact ⟨(wrap64 (x8_1 + 1)), zE1, H', ⟨by have := HK1.out; omega⟩, by repeat (first | exact Drawn0.refl _ | apply Drawn0.step)⟩
     ·rw [if_neg c5] at H
      exact absurd H (by simp)
    ·rw [if_neg c4] at H
     exact absurd H (by simp)
   ·rw [if_neg c3] at H
    have c3b0 : decide (x8_1 < (l0.length : Int)) = false := decide_eq_false c3
    clear c3
    obtain rfl := Option.some.inj H
    go_wp2
    go_ret
    exact ⟨by first | rfl | (simp; done) | (simp [*]; done) | (simp only [IntWalk.i64_left]; done) | (simp [IntWalk.i64_left]; done) | (simp [*, IntWalk.i64_left]; done), by repeat (first | exact Drawn0.refl _ | apply Drawn0.step)⟩
def slices_ContainsFunc_int_int__at_impl_areDeep__1.f (k : Nat) (l0 : List Int)  : Option (Bool) := (slices_IndexFunc_int_int__at_impl_areDeep__1.f k l0).bind fun t344 => (some (decide (t344 ≥ 0)))
theorem slices_ContainsFunc_int_int__at_impl_areDeep__1.mono : ∀ a0 k, LeO (slices_ContainsFunc_int_int__at_impl_areDeep__1.f k a0) (slices_ContainsFunc_int_int__at_impl_areDeep__1.f (k + 1) a0) := by
 intro a0 k
 unfold slices_ContainsFunc_int_int__at_impl_areDeep__1.f
 repeat' first
   | (with_reducible first | exact slices_IndexFunc_int_int__at_impl_areDeep__1.mono _ _ | exact LeO.refl _ | exact LeO.none _ | refine LeO.ite ?_ ?_ | refine LeO.bind ?_ (fun _ => ?_))
   | exact slices_IndexFunc_int_int__at_impl_areDeep__1.mono _ _
   | exact LeO.none _
   | refine LeO.ite ?_ ?_
   | refine LeO.bind ?_ (fun _ => ?_)
theorem slices_ContainsFunc_int_int__at_impl_areDeep__1.calls (k : Nat) (A0 : Option Addr) (c0 : Nat) (l0 : List Int)  (r : Bool) (w : World) (hr0 : Kd.C (Kd.int .i64) w A0 l0.length l0) (hc0 : l0.length ≤ c0) (h : slices_ContainsFunc_int_int__at_impl_areDeep__1.f k l0 = some r) :
  Calls Tryz.prog 88 #[.slice A0 l0.length c0, .func (.func 98) #[] #[]] w fun e w' => e = .returned (.bool r) ∧ Drawn0 w w' := by
 have HR0 := Aside0.mk hr0
 have HC0 := Aside0.mk hc0
 clear hr0 hc0
 have H : ((slices_IndexFunc_int_int__at_impl_areDeep__1.f k l0).bind fun t344 => (some (decide (t344 ≥ 0)))) = some r := h
 clear h
 replace H := Option.bind_eq_some_iff.mp H
 obtain ⟨t344, A30, H⟩ := H
 (try dsimp only at H)
 have A3 := Aside0.mk A30
 clear A30
 obtain rfl := Option.some.inj H
 go_enter Tryz.func88, Tryz.ntmps88
 go_wp2_with (first | ((with_reducible refine gate_callee (f := 129) rfl ?_); refine goesL_ (some 7) rfl rfl Tryz.func129 (by kernel_rfl) rfl #[.slice A0 l0.length c0, .func (.func 98) #[] #[]] rfl (by (try simp only [List.map_toArray, List.map_cons, List.map_nil]); first | done | rfl | (simp only [List.length_drop, List.length_take]; rfl)) ?_; (with_reducible refine (slices_IndexFunc_int_int__at_impl_areDeep__1.calls k _ _ l0  t344 _ ?side1 ?side2 A3.out).mono ?_); (case side1 => exact zC HR0.out); (case side2 => exact HC0.out); rintro e w' ⟨rfl, ⟨nd, rfl⟩⟩; refine ⟨_, rfl, ?_⟩))
 go_ret
 exact ⟨by first | rfl | (simp; done) | (simp [*]; done) | (simp only [IntWalk.i64_left]; done) | (simp [IntWalk.i64_left]; done) | (simp [*, IntWalk.i64_left]; done), by repeat (first | exact Drawn0.refl _ | apply Drawn0.step)⟩
end Go.Proofs.YtmanjfdchhipmaaGreatDoor.XFnBestWithin
