import Derived.Test.YtnpmmojiajcbkaaGreatDoorRows
import Derived.SevenTiedAt
set_option maxRecDepth 100000
namespace Go.Proofs.YtnpmmojiajcbkaaGreatDoor
theorem j_lk : true = Tryz.prog.looks [] := by kernel_rfl
end Go.Proofs.YtnpmmojiajcbkaaGreatDoor
