-- by wip/shake.py
import Derived.Test.YtcdmmpbcjcajlaaProg
import Derived.Below
import Derived.Deep.Draws
import Derived.Deep.AppendLies
import Derived.Maps.AppendAt
import Derived.OwnWalk
import Derived.Laws.BytesArg
import Derived.Laws.MakeOwn
import Derived.Laws.OwnMore
import Derived.Deep.OwnRows
import Derived.Tactics
import Derived.Lib.ConvBytes
import Derived.Laws.Slices
import Derived.WalkKit
import Derived.KernelRfl
import Derived.RowKit3
import Derived.Deep.LoopGhost
import Derived.Deep.QuietTactic
import Derived.BigQuiet
import Derived.WideLaws
import Derived.Deep.DeepCutAuto
import Derived.Deep.CutBlock
import Derived.Deep.RegionHeld3
import Derived.Laws.Rows
import Derived.Lib.AppendStr
import Derived.ArgAppend
import Derived.Laws.IdiomCopy
import Derived.OrdersHeld
import Derived.Laws.BitsLemmas
import Derived.RowKit
import Derived.WalkLawsBesides
import Derived.Test.YtcdmmpbcjcajlaaHandCloneI
import Derived.Laws.EntriesVeiled
import Derived.Test.YtcdmmpbcjcajlaaHandMergeRun
import Derived.IntWalk
import Derived.Test.YtcdmmpbcjcajlaaVWords
import Derived.Test.YtcdmmpbcjcajlaaVLast
import Derived.Test.YtcdmmpbcjcajlaaVTab
import Derived.Test.YtcdmmpbcjcajlaaVFour
import Derived.Test.YtcdmmpbcjcajlaaVQPut
import Derived.Test.YtcdmmpbcjcajlaaVApart
import Derived.Test.YtcdmmpbcjcajlaaVArr
import Derived.Test.YtcdmmpbcjcajlaaVZeros
import Derived.Test.YtcdmmpbcjcajlaaVFoot
import Derived.Test.YtcdmmpbcjcajlaaVKept
import Derived.Test.YtcdmmpbcjcajlaaVShare
import Derived.Test.YtcdmmpbcjcajlaaVN
import Derived.Test.YtcdmmpbcjcajlaaVFootNe
import Derived.Test.YtcdmmpbcjcajlaaVAt
import Derived.Test.YtcdmmpbcjcajlaaVEqStruct
import Derived.Test.YtcdmmpbcjcajlaaVRepsOne
import Derived.Test.YtcdmmpbcjcajlaaVInv
import Derived.Test.YtcdmmpbcjcajlaaVInvWords
import Derived.Test.YtcdmmpbcjcajlaaVGuard
import Derived.Test.YtcdmmpbcjcajlaaVNEv
import Derived.Test.YtcdmmpbcjcajlaaVMore
namespace Go.Proofs.Ytcdmmpbcjcajlaa.XFnOrderedCodes
open Go.RowKit Go.Proofs.Ytcdmmpbcjcajlaa.Hand Go.Proofs.YtcdmmpbcjcajlaaW.PrintWords Go.Proofs.YtcdmmpbcjcajlaaW.PrintLast Go.Proofs.YtcdmmpbcjcajlaaW.PrintMore
attribute [local go_sem] max2_int min2_int max_two min_two max_three min_three max_four min_four   -- for this text's walks alone
set_option linter.unusedVariables false
set_option linter.unusedSimpArgs false
def errW : Option Int → Value
 | none => .nilIface
 | some c => .iface 0 (.int .i64 c)
theorem errW_none : errW none = .nilIface := rfl
theorem errW_some (c : Int) : errW (some c) = .iface 0 (.int .i64 c) := rfl
theorem readsRow_len {α : Type} {R : α → List Value → Prop} {size : Nat} {w : World} {A : Option Addr} {n m : Nat} {ps : List α} (h : m = n) (hr : ReadsRow R size w A m ps) : ReadsRow R size w A n ps := h ▸ hr
theorem info3 : (Try.prog.info? 3).map (fun i => (i.zero, i.size, i.bytes)) = some (some (.int .i64 0), 1, 8) := by kernel_rfl
theorem info5 : (Try.prog.info? 5).map (fun i => (i.zero, i.size, i.bytes)) = some (some (.int .u8 0), 1, 1) := by kernel_rfl
theorem info9 : (Try.prog.info? 9).map (fun i => (i.zero, i.size, i.bytes)) = some (some (.string ⟨#[]⟩), 1, 16) := by kernel_rfl
theorem info24 : (Try.prog.info? 24).map (fun i => (i.zero, i.size, i.bytes)) = some (some (.slice none 0 0), 1, 24) := by kernel_rfl
def rd_L2 (xs : List (List Int)) (i : Int) : (List Int) := xs.getD i.toNat ([] : List Int)
theorem at_L2 {w : World} {A : Option Addr} {n : Nat} {xs : List (List Int)} (h : Kd.C (Kd.slice 3 (Kd.int .i64)) w A n xs) (i : Int) (h0 : 0 ≤ i) (h1 : i < n) : ∃ ad A0 c0, A = some ad ∧ w.cell? (ad.add i.toNat) = some (.slice A0 (rd_L2 xs i).length c0) ∧ (rd_L2 xs i).length ≤ c0 ∧ (Kd.int .i64).C w A0 (rd_L2 xs i).length (rd_L2 xs i) := by
 obtain ⟨ad, c, e, _, hK, hc0⟩ := Kd.C_get h ([] : List Int) i h0 h1
 have hc : ∀ j u, c[j]? = some u → w.cell? (ad.add (i.toNat * 1 + j)) = some u := hc0
 obtain ⟨A0, c0, rfl, l0, g0⟩ := hK
 exact ⟨ad, A0, c0, e, by have hq := hc 0 _ rfl; rwa [Nat.mul_one, Nat.add_zero] at hq, l0, g0⟩
theorem zC {P Q : Prop} (h : P) (g : P → Q := by intro h; repeat (first | exact h | (with_reducible refine Kd.C_alloc ?_ _) | (with_reducible refine Kd.C_drewN ?_ _) | (with_reducible refine Kd.C_drew ?_))) : Q := g h
theorem zB {P Q : Prop} (h : P) (g : P → Q := by intro h; repeat (first | (with_reducible first | exact h | apply below_alloc | apply pw_below_drewN | apply below_drew1) | exact h)) : Q := g h
theorem zR {P Q : Prop} (h : P) (g : P → Q := by intro h; (with_reducible repeat (first | apply Kd.R_alloc | apply Kd.R_drewN | apply Kd.R_drew)); exact h) : Q := g h
theorem zA {P : Prop} (h : P := by (try simp only [List.map_toArray, List.map_cons, List.map_nil]); first | done | rfl) : P := h
theorem zN : ¬ (false = true) := by decide
theorem zF {P : Prop} (h : P := by first | rfl | (simp [errW_none, errW_some] <;> rfl) | (simp [*, errW_none, errW_some] <;> rfl)) : P := h
theorem zD {p : Prop} [Decidable p] (h : decide p = true := by first | (with_reducible assumption) | assumption) : p := of_decide_eq_true h
theorem zE1 {P : Prop} (h : P := by first | rfl | (simp; done) | (simp [*]; done) | (simp only [IntWalk.i64_left]; done) | (simp [IntWalk.i64_left]; done) | (simp [*, IntWalk.i64_left]; done)) : P := h
end Go.Proofs.Ytcdmmpbcjcajlaa.XFnOrderedCodes
