import Derived.Test.YtdkpcdicfeenmaaGreatDoorRows
import Derived.LaidByTextLater
import Derived.SevenTiedAt
set_option maxRecDepth 100000
namespace Go.Proofs.YtdkpcdicfeenmaaGreatDoor
open Go
theorem ti_a : Tryz.prog.worded (varsWordLater true) = true := by kernel_rfl
end Go.Proofs.YtdkpcdicfeenmaaGreatDoor
