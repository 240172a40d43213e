import Derived.Test.YtnpmmojiajcbkaaGreatDoorMe
namespace Go.Ai
open Go.Proofs
theorem memo0 : memoChk pre sum0 (evCall Tryz.prog sig noOrc 3000 35 [.string str0] ⟨preTr pre, 64⟩) = true := by kernel_rfl
end Go.Ai
