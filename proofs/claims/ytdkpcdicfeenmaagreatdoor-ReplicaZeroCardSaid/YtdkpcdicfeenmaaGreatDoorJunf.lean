import Derived.Test.YtdkpcdicfeenmaaGreatDoorRows
import Derived.JoinedOf
set_option maxRecDepth 100000
namespace Go.Proofs.YtdkpcdicfeenmaaGreatDoor
theorem j_unf : (Rows.replicaZeroRow.unfollowed == Tryz.prog.unfollowed 3) = true := by kernel_rfl
end Go.Proofs.YtdkpcdicfeenmaaGreatDoor
