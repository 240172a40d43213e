import Derived.Test.YtdkpcdicfeenmaaGreatDoorRows
import Derived.JoinedOf
set_option maxRecDepth 100000
namespace Go.Proofs.YtdkpcdicfeenmaaGreatDoor
theorem j_sh : Tryz.prog.stopsHeard = true := by kernel_rfl
end Go.Proofs.YtdkpcdicfeenmaaGreatDoor
