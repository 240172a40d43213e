import Derived.Test.YtnpmmojiajcbkaaGreatDoorF3c
import Derived.Test.YtnpmmojiajcbkaaGreatDoorE4
namespace Go.Ai
open Go.Proofs
def seqL : Code → Code | .seq x _ => x | c => c
def seqR : Code → Code | .seq _ y => y | c => c
noncomputable def body3 : Code := match Tryz.f3.body with | some b => b | none => .skip
def opsOf : Code → Array Oper | .region _ ops _ => ops | _ => #[]
noncomputable def ops1 : Array Oper := opsOf (seqL (seqL (seqR body3)))
noncomputable def cond1 : Code := seqR (seqL (seqR body3))
noncomputable def rest3 : Code := seqR (seqR body3)
noncomputable def fake (b : Bool) (o : Oper) : Oper := { o with op := .move (.const (.bool b)) }
noncomputable def dropF {α : Type} (o : Option (α × St × Nat × Nat)) : Option (α × St) := match o with | some (a, s, _, _) => some (a, s) | none => none
def actOf (r : Option ((ACtl × AAct) × St × Nat × Nat)) : AAct := match r with | some ((_, a), _) => a | none => ⟨.leaf, 0, []⟩
def actOfD (r : Option ((AAct × List Foot) × St × Nat × Nat)) : AAct := match r with | some ((a, _), _) => a | none => ⟨.leaf, 0, []⟩
def feetOf (r : Option ((AAct × List Foot) × St × Nat × Nat)) : List Foot := match r with | some ((_, f), _) => f | none => []
def stOf (r : Option ((ACtl × AAct) × St × Nat × Nat)) : St := match r with | some (_, s, _) => s | none => ⟨.leaf, 0⟩

section
variable (V : Nat → Value) (T : Nat → ByteArray) (ra : Option Addr) (rl rc : Nat)
noncomputable def args3 : List Value := [.agg (.mk (V 0 :: .string (T 0) :: .string (T 1) :: vals V 32 1)), .string (T 2), .agg (.mk (V 33 :: V 34 :: .string (T 3) :: .string (T 4) :: (vals V 32 35 ++ [.slice ra rl rc])))]
noncomputable def s00 : St := ⟨preTr glob, 65⟩
noncomputable def run0 := evCode Tryz.prog sig orc3 101 (seqL body3) (initAct Tryz.f3 (args3 V T ra rl rc)) s00
noncomputable def A0 : AAct := actOf (run0 V T ra rl rc)
noncomputable def S0 : St := stOf (run0 V T ra rl rc)
noncomputable abbrev call3 := evCall Tryz.prog sig orc3 98
noncomputable abbrev li (l : List Oper) (a : AAct) (s : St) := evList Tryz.prog sig call3 ops1 l a s
theorem step0 : dropF (run0 V T ra rl rc) = some ((.normal, A0 V T ra rl rc), S0 V T ra rl rc) := by kernel_rfl
noncomputable def B1 (b : Bool) : AAct := actOf (li (ops1.toList.take 3 ++ ((ops1.toList.drop 3).take 1).map (fake b)) (A0 V T ra rl rc) (S0 V T ra rl rc))
theorem step1 : dropF (li (ops1.toList.take 4) (A0 V T ra rl rc) (S0 V T ra rl rc)) = some ((.normal, B1 V T ra rl rc (Nat.blt 20 rl)), S0 V T ra rl rc) := by kernel_rfl
noncomputable def ret6 (o : Option ((ACtl × AAct) × St × Nat × Nat)) : Bool := match o with | some ((.ret, a), st, _, _) => (match a.t.get 6 with | some (.bool true) => a.d.isEmpty && glob.all fun p => (match st.h.get p.1 with | some o => eqObj o p.2 | none => false) | _ => false) | _ => false
noncomputable abbrev fin (l : List Oper) (a : AAct) (s : St) := (M.bind (M.bind (evList Tryz.prog sig call3 ops1 l a) fun r => match r.1 with
  | .normal => evCode Tryz.prog sig orc3 99 cond1 r.2
  | c => M.pure (c, r.2)) fun r => match r.1 with
  | .normal => evCode Tryz.prog sig orc3 100 rest3 r.2
  | c => M.pure (c, r.2)) s
theorem fin1 : ret6 (fin (ops1.toList.drop 4) (B1 V T ra rl rc true) (S0 V T ra rl rc)) = true := by kernel_rfl
noncomputable def B2 (b : Bool) : AAct := actOf (li ((ops1.toList.drop 4).take 4 ++ ((ops1.toList.drop 8).take 1).map (fun o => { fake b o with guard := none })) (B1 V T ra rl rc false) (S0 V T ra rl rc))
theorem step2 : dropF (li ((ops1.toList.drop 4).take 5) (B1 V T ra rl rc false) (S0 V T ra rl rc)) = some ((.normal, B2 V T ra rl rc (Nat.blt 3000 (T 1).size)), S0 V T ra rl rc) := by kernel_rfl
theorem fin2 : ret6 (fin (ops1.toList.drop 9) (B2 V T ra rl rc true) (S0 V T ra rl rc)) = true := by kernel_rfl
theorem fin3 : ret6 (fin (ops1.toList.drop 9) (B2 V T ra rl rc false) (S0 V T ra rl rc)) = true := by kernel_rfl
theorem ops_len : ops1.size = 10 := by kernel_rfl
end
end Go.Ai
