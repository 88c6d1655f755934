-- Cut out of longer texts by a program of this session (wip/shake.py): what the claim uses.
import Derived.Test.YtcdmmpbcjcajlaaGreatVWords
import Derived.Laws.StructEq
namespace Go.Proofs.YtcdmmpbcjcajlaaGreatW.PrintWords
open Go.RowKit
section
variable {P : Program} {d : Nat} {xs ys : Array Value} {f : Field} {fs : List Field} {a b : Value} {r s : Bool} {w : World}
end
end Go.Proofs.YtcdmmpbcjcajlaaGreatW.PrintWords
