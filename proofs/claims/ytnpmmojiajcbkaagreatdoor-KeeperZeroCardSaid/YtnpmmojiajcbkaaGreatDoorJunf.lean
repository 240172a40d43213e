import Derived.Test.YtnpmmojiajcbkaaGreatDoorRows
import Derived.JoinedOf
set_option maxRecDepth 100000
namespace Go.Proofs.YtnpmmojiajcbkaaGreatDoor
theorem j_unf : (Rows.keeperZeroRow.unfollowed == Tryz.prog.unfollowed 3) = true := by kernel_rfl
end Go.Proofs.YtnpmmojiajcbkaaGreatDoor
