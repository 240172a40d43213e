import Derived.Test.YtdkpcdicfeenmaaGreatDoorJlo
import Derived.Test.YtdkpcdicfeenmaaGreatDoorJmr
import Derived.Test.YtdkpcdicfeenmaaGreatDoorJinp
import Derived.Test.YtdkpcdicfeenmaaGreatDoorJunf
import Derived.Test.YtdkpcdicfeenmaaGreatDoorJrec
import Derived.Test.YtdkpcdicfeenmaaGreatDoorJnam
import Derived.Test.YtdkpcdicfeenmaaGreatDoorJme
import Derived.Test.YtdkpcdicfeenmaaGreatDoorJsh
set_option maxRecDepth 100000
namespace Go.Proofs.YtdkpcdicfeenmaaGreatDoor
theorem closed : joinedFacts Tryz.prog 3 Tryz.f3 Rows.replicaZeroSpec Rows.replicaZeroRow = true := by
  unfold joinedFacts
  rw [j_lo, j_mr, j_inp, j_unf, j_rec, j_nam, j_me, j_sh]
  kernel_rfl
end Go.Proofs.YtdkpcdicfeenmaaGreatDoor
