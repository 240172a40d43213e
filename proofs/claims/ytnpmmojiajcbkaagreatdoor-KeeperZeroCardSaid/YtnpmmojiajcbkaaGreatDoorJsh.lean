import Derived.Test.YtnpmmojiajcbkaaGreatDoorRows
import Derived.JoinedOf
set_option maxRecDepth 100000
namespace Go.Proofs.YtnpmmojiajcbkaaGreatDoor
theorem j_sh : Tryz.prog.stopsHeard = true := by kernel_rfl
end Go.Proofs.YtnpmmojiajcbkaaGreatDoor
