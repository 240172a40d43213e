import Derived.Test.YtdkpcdicfeenmaaGreatDoorRows
import Derived.JoinedOf
set_option maxRecDepth 100000
namespace Go.Proofs.YtdkpcdicfeenmaaGreatDoor
theorem j_rec : (Rows.replicaZeroRow.recurses == Tryz.prog.recurses 3) = true := by kernel_rfl
end Go.Proofs.YtdkpcdicfeenmaaGreatDoor
