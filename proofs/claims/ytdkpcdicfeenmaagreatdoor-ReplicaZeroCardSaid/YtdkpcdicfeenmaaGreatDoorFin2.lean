import Derived.Test.YtdkpcdicfeenmaaGreatDoorFin
import Derived.Test.YtdkpcdicfeenmaaGreatDoorJlo
import Derived.SevenTiedAt
import Derived.LaidHandle
set_option maxRecDepth 100000
namespace Go.Proofs.YtdkpcdicfeenmaaGreatDoor
open Go.Ai Go.ChangeShapes Go.WideShapes Go.ChangeAt Go.RowKit
theorem types_size : Tryz.prog.types.size = 682 := by kernel_rfl
theorem et : Tryz.prog.globalNamed "errors.errorType" = some 0 := by kernel_rfl
theorem rt : (Tryz.prog.cutTypes.find? (·.1 == "internal/reflectlite.rtype")).map (·.2) = some 258 := by kernel_rfl
theorem oneRow : ((List.range 682).filter fun t => Tryz.prog.rowNamed t [101, 114, 114, 111, 114]) = [39] := by kernel_rfl
theorem err_stands {W : World} (hsh : W.ShapedOpen Tryz.prog) (h : handlesMet Tryz.prog [("errors.errorType", Rows.laid_errors_errorType)] W) : W.heap[0]? = some (.cells #[.iface 258 (.agg #[hER])] 145 (0, 0)) := by
  obtain ⟨name, u, ty, e1, e2, e3, e4, e5⟩ := h _ (List.mem_singleton.2 rfl)
  have en : name = [101, 114, 114, 111, 114] := (Option.some.inj e1).symm
  subst en
  obtain rfl := Option.some.inj (rt.symm.trans e2)
  have hm : ty ∈ (List.range 682).filter fun t => Tryz.prog.rowNamed t [101, 114, 114, 111, 114] := List.mem_filter.2 ⟨List.mem_range.2 (by rw [← types_size]; exact e3), e4⟩
  rw [oneRow] at hm
  obtain rfl := List.mem_singleton.1 hm
  have hh : typeHandle Tryz.prog 39 = hER := by kernel_rfl
  rw [hh] at e5
  have hrow : (((begin Tryz.prog (fun _ _ => 0) default).world.heap[0]?).bind Obj.row?).map (·.2) = some 145 := by kernel_rfl
  simp only [Option.map_eq_some_iff] at hrow
  obtain ⟨⟨zero, t''⟩, hr, ht⟩ := hrow
  simp only at ht
  subst ht
  obtain ⟨cs', hc, _⟩ := hsh.1 0 zero _ (of_decide_eq_true (by kernel_rfl)) hr
  simp only [World.var?, et, Option.bind_some, hc, Option.some.injEq] at e5
  rw [hc, e5]
theorem stands {W : World} (hL : laidMetH Tryz.prog Rows.replicaZeroRow.laid W) (hsh : W.ShapedOpen Tryz.prog) : Stands W glob := by
  have e1 : (Rows.replicaZeroRow.laid.filter fun x => x.2.handleName?.isSome) = ([("errors.errorType", Rows.laid_errors_errorType)] : List (String × DataW Unit)) := by kernel_rfl
  have e2 : (Rows.replicaZeroRow.laid.filter fun x => x.2.handleName?.isNone) = ([("petrel/crc.table", Rows.laid_petrel_crc_table), ("petrel/sha.first", Rows.laid_petrel_sha_first), ("petrel/sha.k", Rows.laid_petrel_sha_k), ("petrel/op.parts", Rows.laid_petrel_op_parts)] : List (String × DataW Unit)) := by kernel_rfl
  unfold laidMetH at hL
  rw [e1, e2] at hL
  obtain ⟨hp, hh⟩ := hL
  obtain ⟨ps, h, _⟩ := hp
  obtain ⟨h1, q0, h⟩ := laid_head h
  obtain ⟨h2, q1, h⟩ := laid_head h
  obtain ⟨h3, q2, h⟩ := laid_head h
  obtain ⟨h4, q3, h⟩ := laid_head h
  intro p hp
  simp only [glob, tabs, List.mem_cons, List.not_mem_nil, or_false] at hp
  rcases hp with rfl | rfl | rfl | rfl | rfl
  · exact ⟨by decide, .inr ⟨_, _, rfl, err_stands hsh hh⟩⟩
  · obtain ⟨c, a, b⟩ := table_at hsh (g := 1) (t := 439) (e := 438) (n := 8) (k := .u32) (gl := gSha) (by kernel_rfl) (of_decide_eq_true (by kernel_rfl)) (by kernel_rfl) (by kernel_rfl) (by kernel_rfl) (by kernel_rfl) (by kernel_rfl) (by kernel_rfl) (by kernel_rfl) (by kernel_rfl) h2
    exact ⟨by decide, .inl ⟨_, _, c, rfl, by kernel_rfl, a, b⟩⟩
  · obtain ⟨c, a, b⟩ := table_at hsh (g := 2) (t := 456) (e := 3) (n := 8) (k := .i64) (gl := gOp) (by kernel_rfl) (of_decide_eq_true (by kernel_rfl)) (by kernel_rfl) (by kernel_rfl) (by kernel_rfl) (by kernel_rfl) (by kernel_rfl) (by kernel_rfl) (by kernel_rfl) (by kernel_rfl) h4
    exact ⟨by decide, .inl ⟨_, _, c, rfl, by kernel_rfl, a, b⟩⟩
  · obtain ⟨c, a, b⟩ := table_at hsh (g := 3) (t := 507) (e := 438) (n := 64) (k := .u32) (gl := gK) (by kernel_rfl) (of_decide_eq_true (by kernel_rfl)) (by kernel_rfl) (by kernel_rfl) (by kernel_rfl) (by kernel_rfl) (by kernel_rfl) (by kernel_rfl) (by kernel_rfl) (by kernel_rfl) h3
    exact ⟨by decide, .inl ⟨_, _, c, rfl, by kernel_rfl, a, b⟩⟩
  · obtain ⟨c, a, b⟩ := table_at hsh (g := 5) (t := 638) (e := 438) (n := 16) (k := .u32) (gl := gCrc) (by kernel_rfl) (of_decide_eq_true (by kernel_rfl)) (by kernel_rfl) (by kernel_rfl) (by kernel_rfl) (by kernel_rfl) (by kernel_rfl) (by kernel_rfl) (by kernel_rfl) (by kernel_rfl) h1
    exact ⟨by decide, .inl ⟨_, _, c, rfl, by kernel_rfl, a, b⟩⟩
theorem own : ownKnob Tryz.prog.godebug = none := by kernel_rfl
/-- The door's own heap meets the condition. -/
theorem door_met (os : Os) (args : Array Value) : laidMetH Tryz.prog Rows.replicaZeroRow.laid ((World.doorLaid Tryz.prog 400 os).forCall (fun _ _ => 0) ⟨#[], args, []⟩).memory :=
  laidMetH_of_parts3 (fuel := 8) (laidMet_of_run' 8 (by kernel_rfl) (by kernel_rfl)) (by kernel_rfl) (by kernel_rfl)
theorem lifted (os : Os) (started : os.Started) (H : Type) (enc : TypeId × Value → H) :
    ReturnsInHanded {} Tryz.checked os 3 .any (fun w args => (Rows.replicaZeroSpec.pre enc Tryz.prog Tryz.f3 [] false w args ∧ laidMetH Tryz.prog Rows.replicaZeroRow.laid w) ∧ sizedMet enc Tryz.prog Tryz.f3 (OpenSpec.ofChange Rows.replicaZeroSpec) false w args)
      (Rows.replicaZeroSpec.post enc Tryz.prog Tryz.f3 false true false false) := by
  refine law_lifted (C := Tryz.checked) (X := fun w _ => laidMetH Tryz.prog Rows.replicaZeroRow.laid w) (tb := 4) (fun _ _ _ hh h => h.of_heap hh) own started (by kernel_rfl) Tryz.func3
    (ChangeSpec.witness_shaped (enc := enc) (C := Tryz.checked) (os := os) (X := fun w _ => laidMetH Tryz.prog Rows.replicaZeroRow.laid w) false (World.doorLaid Tryz.prog 400 os) #[.string ⟨#[]⟩, .int .i64 0, .string ⟨#[]⟩] 8 rfl (World.shaped_of_RefB (by kernel_rfl) (by kernel_rfl)) (by kernel_rfl) (by kernel_rfl) (by kernel_rfl) (door_met os _))
    rfl j_lo ?_ (by kernel_rfl) Tryz.underlying4 ?_ ?_
  · intro t ht
    rw [Tryz.params3] at ht
    have h : t = 9 ∨ t = 3 ∨ t = 9 := by simpa using ht
    rcases h with rfl | rfl | rfl <;> exact ⟨by kernel_rfl, of_decide_eq_true (by kernel_rfl)⟩
  · intro ds hds
    rw [Tryz.params3] at hds
    match ds, hds with
    | [d1, d2, d3], _ => exact ⟨rfl, rfl, rfl⟩
  · intro W base args ds before hsz hval _ _ hL hsh
    rw [Tryz.params3] at hsz
    obtain ⟨T, z, B, ha⟩ := args_lr (ι := entry glob (fun _ => none)) hsz hval
    obtain ⟨st, r, k, hev, hk⟩ := retAll_some (f3_run T z B)
    exact law_calls sig_ok follows_mixed orcL_ok (n0 := 64) (by decide) hev hk (stands hL hsh) (fun _ _ => rfl) ha
end Go.Proofs.YtdkpcdicfeenmaaGreatDoor
