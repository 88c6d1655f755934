-- by wip/shake.py
import Derived.Test.YtcdmmpbcjcajlaaVInv
import Derived.Test.YtcdmmpbcjcajlaaVFootNe
namespace Go.Proofs.YtcdmmpbcjcajlaaW.PrintWords
open Go.RowKit
end Go.Proofs.YtcdmmpbcjcajlaaW.PrintWords
namespace Go.Proofs.YtcdmmpbcjcajlaaW.PrintLast
section
variable {ops : Array Oper} {a : Act} {o og : Oper} {g : Nat} {t : Tmp} {u : Bool}
end
end Go.Proofs.YtcdmmpbcjcajlaaW.PrintLast
