/- FirstDesk of the program and of the reference answer alike, in new memory each time: no condition. -/
import Derived.Test.YtfinmeglakcmbaaPFnExactFirstDeskx2
namespace Go.Proofs.Ytfinmeglakcmbaa.Pure
open Go.RowKit Go.Proofs.Ytfinmeglakcmbaa.PFnExactFirstDesk Go.Proofs.YtfinmeglakcmbaaW.PrintWords Go.Proofs.YtfinmeglakcmbaaW.PrintLast

theorem FnExactFirstDesk : laws_FnExactFirstDesk.Pure := ⟨20, by kernel_rfl⟩

end Go.Proofs.Ytfinmeglakcmbaa.Pure
