import Derived.Test.YtdkpcdicfeenmaaGreatDoorRows
import Derived.JoinedOf
set_option maxRecDepth 100000
namespace Go.Proofs.YtdkpcdicfeenmaaGreatDoor
theorem j_mr : mapsRowed Tryz.prog = true := by kernel_rfl
end Go.Proofs.YtdkpcdicfeenmaaGreatDoor
