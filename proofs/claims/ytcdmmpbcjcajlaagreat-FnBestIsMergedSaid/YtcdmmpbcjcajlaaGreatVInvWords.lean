-- Cut out of longer texts by a program of this session (wip/shake.py): what the claim uses.
import Derived.Test.YtcdmmpbcjcajlaaGreatVInv
import Derived.Test.YtcdmmpbcjcajlaaGreatVFootNe
namespace Go.Proofs.YtcdmmpbcjcajlaaGreatW.PrintWords
open Go.RowKit
end Go.Proofs.YtcdmmpbcjcajlaaGreatW.PrintWords
namespace Go.Proofs.YtcdmmpbcjcajlaaGreatW.PrintLast
section
variable {ops : Array Oper} {a : Act} {o og : Oper} {g : Nat} {t : Tmp} {u : Bool}
end
end Go.Proofs.YtcdmmpbcjcajlaaGreatW.PrintLast
