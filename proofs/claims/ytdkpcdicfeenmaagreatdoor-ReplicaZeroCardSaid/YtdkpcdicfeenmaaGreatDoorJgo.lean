import Derived.Test.YtdkpcdicfeenmaaGreatDoorRows
import Derived.SevenTiedAt
set_option maxRecDepth 100000
namespace Go.Proofs.YtdkpcdicfeenmaaGreatDoor
theorem goes_none {P : Program} (h : (P.funcs.toList.any Func.goes) = false) {c : OpenClaim} (hs : c.start = .entering) : false = c.goesBy P := by
  have hg : ∀ g : Nat, (P.funcs[g]?).any Func.goes = false := by
    intro g
    cases hf : P.funcs[g]? with
    | none => rfl
    | some fn =>
      have hm : fn ∈ P.funcs.toList := Array.mem_toList_iff.2 (Array.mem_of_getElem? hf)
      have := List.any_eq_false.1 h fn hm
      simpa using this
  have hf : ∀ f, P.goes f = false := by
    intro f
    unfold Program.goes
    rw [show (P.closure f).any (fun g => (P.funcs[g]?).any Func.goes) = false from List.any_eq_false.2 fun g _ => by simp [hg g]]
    have : P.funcs.any Func.goes = false := by rw [← Array.any_toList]; exact h
    rw [this, Bool.and_false]; rfl
  unfold OpenClaim.goesBy Program.goesAt Program.goesFrom
  rw [hs]
  cases P.funcNamed c.func with
  | none => rfl
  | some f => simp [hf f]
theorem goes_all : (Tryz.prog.funcs.toList.any Func.goes) = false := by kernel_rfl
theorem j_go : false = Rows.replicaZeroRow.goesBy Tryz.prog := goes_none goes_all rfl
end Go.Proofs.YtdkpcdicfeenmaaGreatDoor
