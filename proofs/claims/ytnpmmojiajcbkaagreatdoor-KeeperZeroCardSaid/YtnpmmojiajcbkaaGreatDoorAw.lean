import Derived.Test.YtnpmmojiajcbkaaGreatDoorMe
namespace Go.Ai
open Go.Proofs
theorem awake_memo : memoChk glob (.bool true) (evCall Tryz.prog sig (memoOrc pre tbl) 3000 4 [] ⟨preTr glob, 64⟩) = true := by kernel_rfl
end Go.Ai
