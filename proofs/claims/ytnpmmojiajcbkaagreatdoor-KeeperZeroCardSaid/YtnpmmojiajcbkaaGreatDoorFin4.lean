import Derived.Test.YtnpmmojiajcbkaaGreatDoorFin3
import Derived.Test.YtnpmmojiajcbkaaGreatDoorJlk
import Derived.Test.YtnpmmojiajcbkaaGreatDoorJgo
/- KeeperZero (petrellaw34): for every entry, topic and operation the law returns true and leaves its arguments as they were; the listed package variables hold what the program lays (the card ties them to its text). -/
set_option maxRecDepth 100000
namespace Go.Proofs.YtnpmmojiajcbkaaGreatDoor
open Go.Ai Go.ChangeShapes Go.WideShapes Go.ChangeAt Go.RowKit

theorem keeperZero_card : Rows.KeeperZeroCardSaid :=
  Claim7.holds_tied_plain_at .later [] [.data, .data, .data, .data] true (true, "6ff9c953f257b94a4c9221a0a6366941da8d31eca135b1d6e86680f02618f099") true
    keeperZero_holds (fun _ h => by cases h) (by kernel_rfl) (fun _ h => by cases h) keeperZero_row_tie rfl ⟨rfl, rfl⟩ (by kernel_rfl) rfl
    (fun f fn hf hfn => by
      obtain rfl : f = 3 := Option.some.inj ((show Tryz.prog.funcNamed "petrel/petrellaw34.KeeperZero" = some 3 by kernel_rfl).symm.trans hf) |>.symm
      obtain rfl : fn = Tryz.f3 := (Option.some.inj (Tryz.func3.symm.trans hfn)).symm
      exact ⟨j_lk, fun j t ht => by
        rw [Tryz.params3] at ht
        have hm : t ∈ [25, 9, 28] := by simpa using Array.mem_of_getElem? ht
        have hall : ([25, 9, 28].all fun u => !Tryz.prog.wantsStandIn u) = true := by kernel_rfl
        exact (show Tryz.prog.wantsStandIn t = false by simpa using List.all_eq_true.1 hall t hm)⟩)
    j_go
#print axioms keeperZero_card
end Go.Proofs.YtnpmmojiajcbkaaGreatDoor
