import Derived.Test.YtdkpcdicfeenmaaGreatDoorRows
import Derived.LaidByTextLater
import Derived.SevenTiedAt
set_option maxRecDepth 100000
namespace Go.Proofs.YtdkpcdicfeenmaaGreatDoor
open Go
theorem ti_d : ([("petrel/crc.table", Rows.laid_petrel_crc_table), ("petrel/sha.first", Rows.laid_petrel_sha_first), ("petrel/sha.k", Rows.laid_petrel_sha_k), ("errors.errorType", Rows.laid_errors_errorType), ("petrel/op.parts", Rows.laid_petrel_op_parts)] : List (String × DataW Unit)).map (fun x => Tryz.prog.kindOfLater x.1) = ([.data, .data, .data, .handle, .data] : List LaidKind).map some := by kernel_rfl
end Go.Proofs.YtdkpcdicfeenmaaGreatDoor
