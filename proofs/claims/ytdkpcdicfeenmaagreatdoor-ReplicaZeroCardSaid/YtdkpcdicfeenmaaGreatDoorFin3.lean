import Derived.Test.YtdkpcdicfeenmaaGreatDoorFin2
import Derived.Test.YtdkpcdicfeenmaaGreatDoorJall
set_option maxRecDepth 100000
namespace Go.Proofs.YtdkpcdicfeenmaaGreatDoor
open Go.Ai Go.ChangeShapes Go.WideShapes Go.ChangeAt Go.RowKit
theorem replicaZero_holds : Rows.ReplicaZeroSaid :=
  OpenClaim.holds_of_wide 3 Tryz.f3 rfl rfl rfl rfl rfl rfl rfl ⟨rfl, rfl, rfl, rfl, rfl⟩ rfl rfl rfl rfl rfl (by kernel_rfl) Tryz.func3 closed
    (of_decide_eq_true (by kernel_rfl)) (by unfold Func.isWrapper; first | (rw [if_pos (by decide +kernel)]; kernel_rfl) | (rw [if_neg (by decide +kernel)]; exact ⟨rfl, rfl⟩))
    (fun os started H enc _ => lifted os started H enc)
end Go.Proofs.YtdkpcdicfeenmaaGreatDoor
