import Derived.Test.YtdkpcdicfeenmaaGreatDoorAs2
namespace Go.Ai
open Go.Proofs
noncomputable def retAll (o : Option (AEnd × St × Nat × Nat)) : Bool :=
  match o with
  | some (.ret (.bool true), st, _, _) => (match st.h.get 0 with | some o => isErr o | none => false) && tabs.all fun p => match st.h.get p.1 with | some o => eqObj o p.2 | none => false
  | _ => false
theorem retAll_some {o : Option (AEnd × St × Nat × Nat)} (h : retAll o = true) : ∃ st r k, o = some (.ret (.bool true), st, r, k) ∧ ∀ p ∈ glob, st.h.get p.1 = some p.2 := by
  unfold retAll at h
  split at h
  · rename_i st r k
    simp only [Bool.and_eq_true] at h
    obtain ⟨h1, h2⟩ := h
    refine ⟨st, r, k, rfl, fun p hp => ?_⟩
    rcases List.mem_cons.1 hp with rfl | hp
    · cases hg : st.h.get 0 with
      | none => rw [hg] at h1; cases h1
      | some o => rw [hg] at h1; rw [isErr_ok h1]
    · have h3 := List.all_eq_true.1 h2 p hp
      cases hg : st.h.get p.1 with
      | none => rw [hg] at h3; cases h3
      | some o => rw [hg] at h3; rw [(eqObj_ok h3).1]
  · cases h
section
variable (T : ByteArray) (z : Int) (B : ByteArray)
def args3 : List Value := [.string T, .int .i64 z, .string B]
theorem f3_run : retAll (evCall Tryz.prog sig orcL 500 3 (args3 T z B) ⟨preTr glob, 64⟩) = true := by kernel_rfl
end
end Go.Ai
