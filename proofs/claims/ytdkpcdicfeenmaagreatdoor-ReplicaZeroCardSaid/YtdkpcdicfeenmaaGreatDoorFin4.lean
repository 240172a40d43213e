import Derived.Test.YtdkpcdicfeenmaaGreatDoorFin3
import Derived.Test.YtdkpcdicfeenmaaGreatDoorKall
import Derived.Test.YtdkpcdicfeenmaaGreatDoorJlk
import Derived.Test.YtdkpcdicfeenmaaGreatDoorJgo
set_option maxRecDepth 100000
namespace Go.Proofs.YtdkpcdicfeenmaaGreatDoor
open Go.Ai Go.ChangeShapes Go.WideShapes Go.ChangeAt Go.RowKit
theorem replicaZero_card : Rows.ReplicaZeroCardSaid :=
  Claim7.holds_tied_plain_at .later [] [.data, .data, .data, .handle, .data] true (true, "accc305618a788c624a54be0922e7d27264e282bc5bab5568423d97165f227fa") true
    replicaZero_holds (fun _ h => by cases h) (by kernel_rfl) (fun _ h => by cases h) my_row_tie rfl ⟨rfl, rfl⟩ (by kernel_rfl) rfl
    (fun f fn hf hfn => by
      obtain rfl : f = 3 := Option.some.inj ((show Tryz.prog.funcNamed "petrel/petrellaw35.ReplicaZero" = some 3 by kernel_rfl).symm.trans hf) |>.symm
      obtain rfl : fn = Tryz.f3 := (Option.some.inj (Tryz.func3.symm.trans hfn)).symm
      exact ⟨j_lk, fun j t ht => by
        rw [Tryz.params3] at ht
        have hm : t ∈ [9, 3, 9] := by simpa using Array.mem_of_getElem? ht
        have hall : ([9, 3, 9].all fun u => !Tryz.prog.wantsStandIn u) = true := by kernel_rfl
        exact (show Tryz.prog.wantsStandIn t = false by simpa using List.all_eq_true.1 hall t hm)⟩)
    j_go
#print axioms replicaZero_card
end Go.Proofs.YtdkpcdicfeenmaaGreatDoor
