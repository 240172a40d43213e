/-
  DERIVED. GIVEN WITH THE SEED: THE CARDS: each row of YtdkpcdicfeenmaaGreatDoorRows.lean that lists a variable, with what it lists TIED to the program's text (the seventh form; the later family's looks); each row that meets fmt, with fmt's text TOLD by the authors' own Lean function (tested against real Go, not proved from fmt's source: count such statements apart). THE CARD IS WHAT COUNTS. Prove the row's statement (the work); the ties are given (YtdkpcdicfeenmaaGreatDoorTie.lean); close each card by the builder's one call (the guide's Derived/Test/ToyasCard.lean, 'card_holds'). Laid BY PROGRAM, IN A SANDBOX (cutbox-door.mjs). By AI agents, Wed Nov 11 2026. No macro, syntax, notation, axiom, sorry.
-/
import Derived.Test.YtdkpcdicfeenmaaGreatDoorRows
import GoSem.ClaimSeven
namespace Go.Proofs.YtdkpcdicfeenmaaGreatDoor
namespace Rows

/-- THE TIED CARD OF 'petrellaw35.ReplicaZero'. -/
def replicaZeroCard : Claim7 := { stood := { row := replicaZeroRow, standIns := [], harness := (true, "accc305618a788c624a54be0922e7d27264e282bc5bab5568423d97165f227fa"), looks := true }, kinds := [], alts := [], laidByText := true, laidKinds := [.data, .data, .data, .handle, .data], laidTests := true, laidLooks := .later }
def ReplicaZeroCardSaid : Prop := Claim7.holds Tryz.pinned (.plain (OpenSpec.ofChange replicaZeroSpec)) replicaZeroCard

/-- THE SECOND FORM's CARD OF 'petrellaw35.ReplicaZero'. -/
def replicaZeroUptoCard : Claim7 := { stood := { row := replicaZeroUptoRow, standIns := [], harness := (true, "accc305618a788c624a54be0922e7d27264e282bc5bab5568423d97165f227fa"), looks := true }, kinds := [], alts := [], laidByText := true, laidKinds := [.data, .data, .data, .handle, .data], laidTests := true, laidLooks := .later }
def ReplicaZeroUptoCardSaid : Prop := Claim7.holds Tryz.pinned (.plain (OpenSpec.upto replicaZeroSpec)) replicaZeroUptoCard
end Rows
end Go.Proofs.YtdkpcdicfeenmaaGreatDoor
