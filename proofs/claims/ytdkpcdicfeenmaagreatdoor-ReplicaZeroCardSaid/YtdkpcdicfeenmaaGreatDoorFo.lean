import Derived.Test.YtdkpcdicfeenmaaGreatDoorMe
namespace Go.Ai
open Go.Proofs
theorem follows_mixed : Tryz.prog.follows .mixedOrders = true := by kernel_rfl
end Go.Ai
