import Derived.Test.YtdkpcdicfeenmaaGreatDoorMe
namespace Go.Ai
open Go.Proofs
theorem awake_memo : memoChk tabs (.bool true) (evCall Tryz.prog sig orc1 3000 23 [] ⟨preTr tabs, 64⟩) = true := by kernel_rfl
end Go.Ai
