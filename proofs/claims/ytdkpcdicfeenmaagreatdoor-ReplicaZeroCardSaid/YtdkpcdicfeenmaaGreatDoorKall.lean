import Derived.Test.YtdkpcdicfeenmaaGreatDoorKa
import Derived.Test.YtdkpcdicfeenmaaGreatDoorKb
import Derived.Test.YtdkpcdicfeenmaaGreatDoorKc
import Derived.Test.YtdkpcdicfeenmaaGreatDoorKd
import Derived.Test.YtdkpcdicfeenmaaGreatDoorKe
import Derived.Test.YtdkpcdicfeenmaaGreatDoorKf
import Derived.Test.YtdkpcdicfeenmaaGreatDoorKg
import Derived.Test.YtdkpcdicfeenmaaGreatDoorKu
import Derived.Test.YtdkpcdicfeenmaaGreatDoorKh
import Derived.Test.YtdkpcdicfeenmaaGreatDoorKi
import Derived.Test.YtdkpcdicfeenmaaGreatDoorKj
import Derived.Test.YtdkpcdicfeenmaaGreatDoorCards
set_option maxRecDepth 100000
namespace Go.Proofs.YtdkpcdicfeenmaaGreatDoor
open Go
theorem my_tie : Tryz.prog.laidByTextLater [("petrel/crc.table", Rows.laid_petrel_crc_table), ("petrel/sha.first", Rows.laid_petrel_sha_first), ("petrel/sha.k", Rows.laid_petrel_sha_k), ("errors.errorType", Rows.laid_errors_errorType), ("petrel/op.parts", Rows.laid_petrel_op_parts)] [.data, .data, .data, .handle, .data] true :=
  Program.laidByTextLater_by_run_h 400 8 ti_a ti_b ti_c ti_d ti_e ti_f ti_g ti_h ti_i ti_j
theorem my_row_tie : Rows.replicaZeroRow.laidByTextAt .later Tryz.pinned [.data, .data, .data, .handle, .data] true :=
  OpenClaim.laidByTextAt_later rfl rfl my_tie ti_u
end Go.Proofs.YtdkpcdicfeenmaaGreatDoor
