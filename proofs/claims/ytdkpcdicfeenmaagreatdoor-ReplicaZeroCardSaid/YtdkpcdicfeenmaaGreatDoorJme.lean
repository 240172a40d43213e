import Derived.Test.YtdkpcdicfeenmaaGreatDoorRows
import Derived.JoinedOf
set_option maxRecDepth 100000
namespace Go.Proofs.YtdkpcdicfeenmaaGreatDoor
theorem j_me : Tryz.prog.mayEnter = true := by kernel_rfl
end Go.Proofs.YtdkpcdicfeenmaaGreatDoor
