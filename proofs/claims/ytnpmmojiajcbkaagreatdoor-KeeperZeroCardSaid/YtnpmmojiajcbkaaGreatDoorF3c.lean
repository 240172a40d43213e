import Derived.Test.YtnpmmojiajcbkaaGreatDoorMe
namespace Go.Ai
open Go.Proofs
noncomputable def orc3 : FuncId → List Value → Option (M AEnd) := fun f args => match args with | [] => bif Nat.beq f 4 then some (memoM glob (.bool true)) else none | _ => none
def z32 : List Value := List.replicate 32 (.int .u8 0)
noncomputable def okTrue (res : Option (AEnd × St × Nat × Nat)) : Bool :=
  match res with
  | some (.ret (.bool true), _) => true
  | _ => false
theorem f3_closed : okTrue (evCall Tryz.prog sig orc3 500 3 [.agg (.mk (.int .i64 0 :: .string ⟨#[]⟩ :: .string ⟨#[]⟩ :: z32)), .string ⟨#[]⟩, .agg (.mk (.int .i64 0 :: .int .i64 0 :: .string ⟨#[]⟩ :: .string ⟨#[]⟩ :: (z32 ++ [.slice (some ⟨64, 0, none⟩) 3 TOP])))] ⟨preTr glob, 65⟩) = true := by kernel_rfl
end Go.Ai
