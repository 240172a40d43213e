import Derived.Test.YtnpmmojiajcbkaaGreatDoorRows
import Derived.JoinedOf
set_option maxRecDepth 100000
namespace Go.Proofs.YtnpmmojiajcbkaaGreatDoor
theorem j_rec : (Rows.keeperZeroRow.recurses == Tryz.prog.recurses 3) = true := by kernel_rfl
end Go.Proofs.YtnpmmojiajcbkaaGreatDoor
