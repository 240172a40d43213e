import Derived.Test.YtnpmmojiajcbkaaGreatDoorRows
import Derived.SevenTiedAt
set_option maxRecDepth 100000
namespace Go.Proofs.YtnpmmojiajcbkaaGreatDoor
theorem j_go : false = Rows.keeperZeroRow.goesBy Tryz.prog := by kernel_rfl
end Go.Proofs.YtnpmmojiajcbkaaGreatDoor
