import Derived.Test.YtnpmmojiajcbkaaGreatDoorFin
import Derived.Test.YtnpmmojiajcbkaaGreatDoorJlo
import Derived.SevenTiedAt
set_option maxRecDepth 100000
namespace Go.Proofs.YtnpmmojiajcbkaaGreatDoor
open Go.Ai Go.ChangeShapes Go.WideShapes Go.ChangeAt Go.RowKit

theorem stands {W : World} (hL : laidMetH Tryz.prog Rows.keeperZeroRow.laid W) (hsh : W.ShapedOpen Tryz.prog) : Stands W glob := by
  rw [MakeChecks.laidMetH_plain _ _ _ (by kernel_rfl)] at hL
  obtain ⟨ps, h, _⟩ := hL
  obtain ⟨h1, q1, h⟩ := laid_head h
  obtain ⟨h2, q2, h⟩ := laid_head h
  obtain ⟨h3, q3, h⟩ := laid_head h
  obtain ⟨h4, q4, h⟩ := laid_head h
  intro p hp
  simp only [glob, List.mem_cons, List.not_mem_nil, or_false] at hp
  rcases hp with rfl | rfl | rfl | rfl
  · obtain ⟨c, a, b⟩ := table_at hsh (g := 0) (t := 189) (e := 188) (n := 8) (k := .u32) (gl := gSha) (by kernel_rfl) (of_decide_eq_true (by kernel_rfl)) (by kernel_rfl) (by kernel_rfl) (by kernel_rfl) (by kernel_rfl) (by kernel_rfl) (by kernel_rfl) (by kernel_rfl) (by kernel_rfl) h2
    exact ⟨by decide, _, _, c, rfl, by kernel_rfl, a, b⟩
  · obtain ⟨c, a, b⟩ := table_at hsh (g := 1) (t := 226) (e := 3) (n := 8) (k := .i64) (gl := gOp) (by kernel_rfl) (of_decide_eq_true (by kernel_rfl)) (by kernel_rfl) (by kernel_rfl) (by kernel_rfl) (by kernel_rfl) (by kernel_rfl) (by kernel_rfl) (by kernel_rfl) (by kernel_rfl) h4
    exact ⟨by decide, _, _, c, rfl, by kernel_rfl, a, b⟩
  · obtain ⟨c, a, b⟩ := table_at hsh (g := 2) (t := 277) (e := 188) (n := 64) (k := .u32) (gl := gK) (by kernel_rfl) (of_decide_eq_true (by kernel_rfl)) (by kernel_rfl) (by kernel_rfl) (by kernel_rfl) (by kernel_rfl) (by kernel_rfl) (by kernel_rfl) (by kernel_rfl) (by kernel_rfl) h3
    exact ⟨by decide, _, _, c, rfl, by kernel_rfl, a, b⟩
  · obtain ⟨c, a, b⟩ := table_at hsh (g := 4) (t := 402) (e := 188) (n := 16) (k := .u32) (gl := gCrc) (by kernel_rfl) (of_decide_eq_true (by kernel_rfl)) (by kernel_rfl) (by kernel_rfl) (by kernel_rfl) (by kernel_rfl) (by kernel_rfl) (by kernel_rfl) (by kernel_rfl) (by kernel_rfl) h1
    exact ⟨by decide, _, _, c, rfl, by kernel_rfl, a, b⟩
theorem own : ownKnob Tryz.prog.godebug = none := by kernel_rfl

def e0 : Value := .agg (.mk (.int .i64 0 :: .string ⟨#[]⟩ :: .string ⟨#[]⟩ :: List.replicate 32 (.int .u8 0)))
def o0 : Value := .agg (.mk (.int .i64 0 :: .int .i64 0 :: .string ⟨#[]⟩ :: .string ⟨#[]⟩ :: (List.replicate 32 (.int .u8 0) ++ [.slice none 0 0])))

/-- The door's own heap meets the condition: three closed facts. -/
theorem door_met (os : Os) (args : Array Value) : laidMetH Tryz.prog Rows.keeperZeroRow.laid ((World.doorLaid Tryz.prog 400 os).forCall (fun _ _ => 0) ⟨#[], args, []⟩).memory :=
  laidMetH_of_parts3 (fuel := 8) (laidMet_of_run' 8 (by kernel_rfl) (by kernel_rfl)) (by kernel_rfl) (by kernel_rfl)

theorem lifted (os : Os) (started : os.Started) (H : Type) (enc : TypeId × Value → H) :
    ReturnsInHanded {} Tryz.checked os 3 .any (fun w args => (Rows.keeperZeroSpec.pre enc Tryz.prog Tryz.f3 [] false w args ∧ laidMetH Tryz.prog Rows.keeperZeroRow.laid w) ∧ sizedMet enc Tryz.prog Tryz.f3 (OpenSpec.ofChange Rows.keeperZeroSpec) false w args)
      (Rows.keeperZeroSpec.post enc Tryz.prog Tryz.f3 false true false false) := by
  refine law_lifted (C := Tryz.checked) (X := fun w _ => laidMetH Tryz.prog Rows.keeperZeroRow.laid w) (tb := 4) (fun _ _ _ hh h => h.of_heap hh) own started (by kernel_rfl) Tryz.func3
    (ChangeSpec.witness_shaped (enc := enc) (C := Tryz.checked) (os := os) (X := fun w _ => laidMetH Tryz.prog Rows.keeperZeroRow.laid w) false (World.doorLaid Tryz.prog 400 os) #[e0, .string ⟨#[]⟩, o0] 8 rfl (World.shaped_of_RefB (by kernel_rfl) (by kernel_rfl)) (by kernel_rfl) (by kernel_rfl) (by kernel_rfl) (door_met os _))
    rfl j_lo ?_ (by kernel_rfl) Tryz.underlying4 ?_ ?_
  · intro t ht
    rw [Tryz.params3] at ht
    have h : t = 25 ∨ t = 9 ∨ t = 28 := by simpa using ht
    rcases h with rfl | rfl | rfl <;> exact ⟨by kernel_rfl, of_decide_eq_true (by kernel_rfl)⟩
  · intro ds hds
    rw [Tryz.params3] at hds
    match ds, hds with
    | [d1, d2, d3], _ => exact ⟨rfl, rfl, rfl⟩
  · intro W base args ds before hsz hval _ _ hL hsh
    rw [Tryz.params3] at hsz
    obtain ⟨V, T, ra, rl, rc, ex, ha, hex⟩ := args_lr (ι0 := glob) hsz hval
    obtain ⟨st, r, k, hev, hk⟩ := f3_run V T ra rl rc
    exact law_calls sig_ok follows_mixed orc3_ok (n0 := 65) (by decide) hev hk (stands hL hsh) hex ha

end Go.Proofs.YtnpmmojiajcbkaaGreatDoor
