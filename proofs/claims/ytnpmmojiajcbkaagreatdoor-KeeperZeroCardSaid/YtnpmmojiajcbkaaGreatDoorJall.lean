import Derived.Test.YtnpmmojiajcbkaaGreatDoorJlo
import Derived.Test.YtnpmmojiajcbkaaGreatDoorJmr
import Derived.Test.YtnpmmojiajcbkaaGreatDoorJinp
import Derived.Test.YtnpmmojiajcbkaaGreatDoorJunf
import Derived.Test.YtnpmmojiajcbkaaGreatDoorJrec
import Derived.Test.YtnpmmojiajcbkaaGreatDoorJnam
import Derived.Test.YtnpmmojiajcbkaaGreatDoorJme
import Derived.Test.YtnpmmojiajcbkaaGreatDoorJsh
set_option maxRecDepth 100000
namespace Go.Proofs.YtnpmmojiajcbkaaGreatDoor
theorem closed : joinedFacts Tryz.prog 3 Tryz.f3 Rows.keeperZeroSpec Rows.keeperZeroRow = true := by
  unfold joinedFacts
  rw [j_lo, j_mr, j_inp, j_unf, j_rec, j_nam, j_me, j_sh]
  kernel_rfl
end Go.Proofs.YtnpmmojiajcbkaaGreatDoor
