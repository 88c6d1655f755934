-- Written by a program of this session (wip/xprint.py), which follows the kit's print; no kit file.
import Derived.Test.YtkefjfpjnghkdaaDoorProg
import Derived.Below
import Derived.Deep.Draws
import Derived.Deep.AppendLies
import Derived.Maps.AppendAt
import Derived.OwnWalk
import Derived.Laws.BytesArg
import Derived.Laws.MakeOwn
import Derived.Laws.OwnMore
import Derived.Deep.OwnRows
import Derived.Tactics
import Derived.Lib.ConvBytes
import Derived.Laws.Slices
import Derived.WalkKit
import Derived.KernelRfl
import Derived.RowKit3
import Derived.Deep.LoopGhost
import Derived.Deep.QuietTactic
import Derived.BigQuiet
import Derived.WideLaws
import Derived.Deep.DeepCutAuto
import Derived.Deep.CutBlock
import Derived.Deep.RegionHeld3
import Derived.Laws.Rows
import Derived.Lib.AppendStr
import Derived.ArgAppend
import Derived.Laws.IdiomCopy
import Derived.OrdersHeld
import Derived.Laws.BitsLemmas
import Derived.RowKit
import Derived.Test.YtkefjfpjnghkdaaDoorHandWord
import Derived.Test.YtkefjfpjnghkdaaDoorHandCompare
import Derived.Test.YtkefjfpjnghkdaaDoorWWords
import Derived.Test.YtkefjfpjnghkdaaDoorWLast
import Derived.Test.YtkefjfpjnghkdaaDoorWTab
import Derived.Test.YtkefjfpjnghkdaaDoorWFour
import Derived.Test.YtkefjfpjnghkdaaDoorWQPut
import Derived.Test.YtkefjfpjnghkdaaDoorWApart
import Derived.Test.YtkefjfpjnghkdaaDoorWArr
import Derived.Test.YtkefjfpjnghkdaaDoorWZeros
import Derived.Test.YtkefjfpjnghkdaaDoorWFoot
import Derived.Test.YtkefjfpjnghkdaaDoorWKept
import Derived.Test.YtkefjfpjnghkdaaDoorWShare
import Derived.Test.YtkefjfpjnghkdaaDoorWN
import Derived.Test.YtkefjfpjnghkdaaDoorWFootNe
import Derived.Test.YtkefjfpjnghkdaaDoorWAt
import Derived.Test.YtkefjfpjnghkdaaDoorWEqStruct
import Derived.Test.YtkefjfpjnghkdaaDoorWRepsOne
import Derived.Test.YtkefjfpjnghkdaaDoorWInv
import Derived.Test.YtkefjfpjnghkdaaDoorWInvWords
import Derived.Test.YtkefjfpjnghkdaaDoorWGuard
import Derived.Test.YtkefjfpjnghkdaaDoorWNEv
import Derived.Test.YtkefjfpjnghkdaaDoorWMore
namespace Go.Proofs.YtkefjfpjnghkdaaDoor.XFnExactMeanLength
open Go.RowKit Go.Proofs.YtkefjfpjnghkdaaDoor.Hand Go.Proofs.YtkefjfpjnghkdaaDoorW.PrintWords Go.Proofs.YtkefjfpjnghkdaaDoorW.PrintLast Go.Proofs.YtkefjfpjnghkdaaDoorW.PrintMore
attribute [local go_sem] max2_int min2_int max_two min_two max_three min_three max_four min_four   -- for this text's walks alone
set_option linter.unusedVariables false
set_option linter.unusedSimpArgs false



def errW : Option Int → Value
  | none => .nilIface
  | some c => .iface 0 (.int .i64 c)
theorem errW_none : errW none = .nilIface := rfl
theorem errW_some (c : Int) : errW (some c) = .iface 0 (.int .i64 c) := rfl

theorem readsRow_len {α : Type} {R : α → List Value → Prop} {size : Nat} {w : World} {A : Option Addr} {n m : Nat} {ps : List α} (h : m = n) (hr : ReadsRow R size w A m ps) : ReadsRow R size w A n ps := h ▸ hr
theorem info3 : (Tryd.prog.info? 3).map (fun i => (i.zero, i.size, i.bytes)) = some (some (.int .i64 0), 1, 8) := by kernel_rfl
theorem info9 : (Tryd.prog.info? 9).map (fun i => (i.zero, i.size, i.bytes)) = some (some (.string ⟨#[]⟩), 1, 16) := by kernel_rfl
-- the values' own types

end Go.Proofs.YtkefjfpjnghkdaaDoor.XFnExactMeanLength
