-- by wip/shake.py
import Derived.Lib.Walk
import Derived.Lib.LazyBuf
import Derived.Test.YtmanjfdchhipmaaGreatDoorHandSortI
namespace Go.Proofs.YtmanjfdchhipmaaGreatDoor.Hand
open Go.RowKit Go.Shelf Go.Proofs.YtmanjfdchhipmaaGreatDoorW.PrintWords Go.Proofs.YtmanjfdchhipmaaGreatDoorW.PrintLast Go.Proofs.YtmanjfdchhipmaaGreatDoorW.PrintMore
set_option linter.unusedVariables false
set_option linter.unusedSimpArgs false
end Go.Proofs.YtmanjfdchhipmaaGreatDoor.Hand
