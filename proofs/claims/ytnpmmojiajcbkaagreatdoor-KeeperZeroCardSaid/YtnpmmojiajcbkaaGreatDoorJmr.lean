import Derived.Test.YtnpmmojiajcbkaaGreatDoorRows
import Derived.JoinedOf
set_option maxRecDepth 100000
namespace Go.Proofs.YtnpmmojiajcbkaaGreatDoor
theorem j_mr : mapsRowed Tryz.prog = true := by kernel_rfl
end Go.Proofs.YtnpmmojiajcbkaaGreatDoor
