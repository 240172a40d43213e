import Derived.Test.YtdkpcdicfeenmaaGreatDoorMe
namespace Go.Ai
open Go.Proofs
theorem memo2 : memoChk2 pre_1_3 mv2 (evCall Tryz.prog sig noOrc 3000 138 ma2 ⟨preTr pre_1_3, 64⟩) = true := by kernel_rfl
end Go.Ai
