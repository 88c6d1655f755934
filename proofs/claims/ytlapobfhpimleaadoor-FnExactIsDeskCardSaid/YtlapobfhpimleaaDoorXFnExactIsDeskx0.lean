-- Written by a program of this session (wip/xprint.py), which follows the kit's print; no kit file.
import Derived.Test.YtlapobfhpimleaaDoorProg
import Derived.Below
import Derived.Deep.Draws
import Derived.Deep.AppendLies
import Derived.Maps.AppendAt
import Derived.OwnWalk
import Derived.Laws.BytesArg
import Derived.Laws.MakeOwn
import Derived.Laws.OwnMore
import Derived.Deep.OwnRows
import Derived.Tactics
import Derived.Lib.ConvBytes
import Derived.Laws.Slices
import Derived.WalkKit
import Derived.KernelRfl
import Derived.RowKit3
import Derived.Deep.LoopGhost
import Derived.Deep.QuietTactic
import Derived.BigQuiet
import Derived.WideLaws
import Derived.Deep.DeepCutAuto
import Derived.Deep.CutBlock
import Derived.Deep.RegionHeld3
import Derived.Laws.Rows
import Derived.Lib.AppendStr
import Derived.ArgAppend
import Derived.Laws.IdiomCopy
import Derived.OrdersHeld
import Derived.Laws.BitsLemmas
import Derived.RowKit
import Derived.Test.YtlapobfhpimleaaDoorHandWord
import Derived.Test.YtlapobfhpimleaaDoorHandCompare
import Derived.Test.YtlapobfhpimleaaDoorWWords
import Derived.Test.YtlapobfhpimleaaDoorWLast
import Derived.Test.YtlapobfhpimleaaDoorWTab
import Derived.Test.YtlapobfhpimleaaDoorWFour
import Derived.Test.YtlapobfhpimleaaDoorWQPut
import Derived.Test.YtlapobfhpimleaaDoorWApart
import Derived.Test.YtlapobfhpimleaaDoorWArr
import Derived.Test.YtlapobfhpimleaaDoorWZeros
import Derived.Test.YtlapobfhpimleaaDoorWFoot
import Derived.Test.YtlapobfhpimleaaDoorWKept
import Derived.Test.YtlapobfhpimleaaDoorWShare
import Derived.Test.YtlapobfhpimleaaDoorWN
import Derived.Test.YtlapobfhpimleaaDoorWFootNe
import Derived.Test.YtlapobfhpimleaaDoorWAt
import Derived.Test.YtlapobfhpimleaaDoorWEqStruct
import Derived.Test.YtlapobfhpimleaaDoorWRepsOne
import Derived.Test.YtlapobfhpimleaaDoorWInv
import Derived.Test.YtlapobfhpimleaaDoorWInvWords
import Derived.Test.YtlapobfhpimleaaDoorWGuard
import Derived.Test.YtlapobfhpimleaaDoorWNEv
import Derived.Test.YtlapobfhpimleaaDoorWMore
namespace Go.Proofs.YtlapobfhpimleaaDoor.XFnExactIsDesk
open Go.RowKit Go.Proofs.YtlapobfhpimleaaDoor.Hand Go.Proofs.YtlapobfhpimleaaDoorW.PrintWords Go.Proofs.YtlapobfhpimleaaDoorW.PrintLast Go.Proofs.YtlapobfhpimleaaDoorW.PrintMore
attribute [local go_sem] max2_int min2_int max_two min_two max_three min_three max_four min_four   -- for this text's walks alone
set_option linter.unusedVariables false
set_option linter.unusedSimpArgs false



def errW : Option Int → Value
  | none => .nilIface
  | some c => .iface 0 (.int .i64 c)
theorem errW_none : errW none = .nilIface := rfl
theorem errW_some (c : Int) : errW (some c) = .iface 0 (.int .i64 c) := rfl

theorem readsRow_len {α : Type} {R : α → List Value → Prop} {size : Nat} {w : World} {A : Option Addr} {n m : Nat} {ps : List α} (h : m = n) (hr : ReadsRow R size w A m ps) : ReadsRow R size w A n ps := h ▸ hr
theorem info3 : (Tryd.prog.info? 3).map (fun i => (i.zero, i.size, i.bytes)) = some (some (.int .i64 0), 1, 8) := by kernel_rfl
theorem info9 : (Tryd.prog.info? 9).map (fun i => (i.zero, i.size, i.bytes)) = some (some (.string ⟨#[]⟩), 1, 16) := by kernel_rfl
-- the values' own types

end Go.Proofs.YtlapobfhpimleaaDoor.XFnExactIsDesk
