-- Cut out of longer texts by a program of this session (wip/shake.py): what the claim uses.
import Derived.Test.YtcdmmpbcjcajlaaGreatVTab
namespace Go.Proofs.YtcdmmpbcjcajlaaGreatW.PrintLast
section
variable {P : Program} {ops : Array Oper} {Q : Exit → Act → World → Prop} {md : Region.Mode} {S : World → Prop} {ds : List Nat} {T : Bool × List (List Nat × List Nat)}
end
end Go.Proofs.YtcdmmpbcjcajlaaGreatW.PrintLast
