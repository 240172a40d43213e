import Derived.Test.YtnpmmojiajcbkaaGreatDoorMe
namespace Go.Ai
open Go.Proofs
theorem memo1 : memoChk pre sum1 (evCall Tryz.prog sig noOrc 3000 35 [.string str1] ⟨preTr pre, 64⟩) = true := by kernel_rfl
end Go.Ai
