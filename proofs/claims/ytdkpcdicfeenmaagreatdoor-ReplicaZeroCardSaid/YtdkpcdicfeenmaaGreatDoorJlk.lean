import Derived.Test.YtdkpcdicfeenmaaGreatDoorRows
import Derived.SevenTiedAt
set_option maxRecDepth 100000
namespace Go.Proofs.YtdkpcdicfeenmaaGreatDoor
theorem j_lk : true = Tryz.prog.looks [] := by kernel_rfl
end Go.Proofs.YtdkpcdicfeenmaaGreatDoor
