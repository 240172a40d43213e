import Derived.Test.YtdkpcdicfeenmaaGreatDoorAs
import Derived.Test.YtdkpcdicfeenmaaGreatDoorMe
set_option maxRecDepth 100000
namespace Go.Ai
open Go.Proofs

theorem Sim.grow {sz : TypeId → Nat} {ι : Inj} {s : St} {w : World} (h : Sim sz ι s.h w) (o : Obj) : Tran sz ι s w ι s (w.alloc o) := by
  have hp : (w.alloc o).heap = w.heap.push o := rfl
  have hh : ∀ b, b < w.heap.size → (w.alloc o).heap[b]? = w.heap[b]? := fun b hb => by
    rw [hp, Array.getElem?_push, if_neg (by omega)]
  have hs : (w.alloc o).heap.size = w.heap.size + 1 := by rw [hp, Array.size_push]
  refine ⟨fun _ _ h => h, fun _ _ => rfl, Nat.le_refl _, ⟨fun x o' hx => ?_, h.inj, h.glob⟩, fun b hb _ => hh b hb, fun x L hx hL _ => ⟨x, L, hx, hL, rfl⟩, by omega, fun b c e fr hb => ⟨c, ?_, rfl⟩, rfl, rfl, rfl⟩
  · obtain ⟨L, o2, a, b, c⟩ := h.obj x o' hx
    exact ⟨L, o2, a, by rw [hh _ (Array.getElem?_eq_some_iff.1 b).1]; exact b, c⟩
  · rw [hh _ (Array.getElem?_eq_some_iff.1 hb).1]; exact hb
theorem setCell_wput {w : World} {b i : Nat} {c : Array Value} {e : TypeId} {fr : Nat × Nat} {v : Value} (h : w.heap[b]? = some (.cells c e fr)) : w.setCell ⟨b, i, none⟩ v = wput w b (.cells (c.setIfInBounds i v) e fr) := by
  cases w with | mk heap tape drawn os output =>
  simp only [World.setCell, wput]
  congr 1
  apply Array.ext_getElem?
  intro k
  simp only at h
  rw [Array.getElem?_modify]
  by_cases ek : b = k
  · subst ek
    rw [if_pos rfl, h]
    simp [(Array.getElem?_eq_some_iff.1 h).1]
  · rw [if_neg ek, Array.getElem?_setIfInBounds_ne ek]

def gErr : AObj := .fix #[.iface 258 (.agg #[hER])] 145
/-- the handle of 'error' stands in its variable -/
def isErr : AObj → Bool
  | .fix c e => (match c.toList with
    | [.iface t v] => Nat.beq t 258 && (match v with
      | .agg x => (match x.toList with
        | [.pointer (some a)] => Nat.beq a.block 6 && (Nat.beq a.off 39 && a.spot.isNone)
        | _ => false)
      | _ => false)
    | _ => false) && Nat.beq e 145
  | _ => false
theorem isErr_ok {o : AObj} (h : isErr o = true) : o = gErr := by
  unfold isErr at h
  split at h
  · rename_i c e
    simp only [Bool.and_eq_true] at h
    obtain ⟨h1, h2⟩ := h
    split at h1
    · rename_i t v hc
      simp only [Bool.and_eq_true] at h1
      obtain ⟨h3, h4⟩ := h1
      split at h4
      · rename_i x
        split at h4
        · rename_i a hx
          simp only [Bool.and_eq_true] at h4
          obtain ⟨h5, h6, h7⟩ := h4
          obtain ⟨c⟩ := c; obtain ⟨x⟩ := x; obtain ⟨b, o, s⟩ := a
          simp only at hc hx h5 h6 h7
          subst hc; subst hx
          obtain rfl := Nat.eq_of_beq_eq_true h2
          obtain rfl := Nat.eq_of_beq_eq_true h3
          obtain rfl := Nat.eq_of_beq_eq_true h5
          obtain rfl := Nat.eq_of_beq_eq_true h6
          cases s with
          | none => rfl
          | some _ => cases h7
        · cases h4
      · cases h4
    · cases h1
  · cases h

noncomputable def asM (x : Nat) (n : Int) : M AEnd :=
  M.bind (M.getO 0) fun g => M.bind (M.guard (isErr g)) fun _ =>
  M.bind (M.getO x) fun o => match o with
    | .cells [_] e false => M.bind (M.guard (Nat.beq e 29)) fun _ => M.bind (M.setO x (.cells [.int .i64 n] 29 false)) fun _ => M.pure (.ret (.bool true))
    | _ => M.fail
theorem asM_local (x : Nat) (n : Int) : M.Local (asM x n) := by
  unfold asM
  refine M.Local.bind (M.Local.getO _) fun _ => M.Local.bind (M.Local.guard _) fun _ => M.Local.bind (M.Local.getO _) fun o => ?_
  split
  · exact M.Local.bind (M.Local.guard _) fun _ => M.Local.bind (M.Local.setO _ _) fun _ => M.Local.pure _
  · exact M.Local.fail
theorem asM_ok {x : Nat} {n : Int} {s s' : St} {e : AEnd} {r k : Nat} {ι : Inj} {w : World} {args' : Array Value} (h : asM x n s = some (e, s', r, k)) (hs : Sim Tryz.prog.cellsOf ι s.h w)
    (ha : LR ι [.iface 29 (.int .i64 n), .iface 72 (.pointer (some ⟨x, 0, none⟩))] args'.toList) : CallsIn Fence.wide 0 Tryz.prog 33 args' w (CallPost Tryz.prog ι s w s' e) := by
  unfold asM at h
  obtain ⟨g, _, _, hg, _, h⟩ := bind_getO h
  obtain ⟨_, _, hgi, h⟩ := bind_guard h
  rw [isErr_ok hgi] at hg

  obtain ⟨o, _, _, ho, hxn, h⟩ := bind_getO h
  split at h
  · rename_i old ety
    obtain ⟨_, _, he, h⟩ := bind_guard h
    have he' := Nat.eq_of_beq_eq_true he
    rw [he'] at ho

    obtain ⟨_, _, _, _, hx64, h⟩ := bind_setO h
    obtain ⟨h1, h2⟩ := M.pure_some h
    rw [h1, h2]

    obtain ⟨L0, o0, a1, a2, a3, a4⟩ := hs.obj _ _ hg
    obtain ⟨a5, a6⟩ := hs.glob _ _ (by decide) a1
    subst a4
    obtain ⟨L, o1, b1, b2, c, fr, b3, b4, b5, b6⟩ := hs.obj _ _ ho
    subst b3
    simp only [Bool.false_eq_true, if_false] at b6
    subst b6
    obtain ⟨old', b7, b8⟩ := b5 0 old rfl
    -- the arguments
    obtain ⟨al⟩ := args'
    obtain ⟨hl, hv⟩ := ha
    match al, hl with
    | [v1, v2], _ =>
      have r1 := hv 0 _ v1 rfl rfl
      have r2 := hv 1 _ v2 rfl rfl
      cases r1 with
      | iface t v v' r1 =>
      cases r1
      cases r2 with
      | iface t v v' r2 =>
      cases r2 with
      | ptr a o L1 hL1 =>
      rw [b1] at hL1; cases hL1
      have hlt : L.b < w.heap.size := (Array.getElem?_eq_some_iff.1 b2).1
      refine callsIn_wide.2 ((as_hit n ⟨L.b, L.sh + 0, none⟩ old' w ?_ ?_ ?_).mono fun ev w' hev => ?_)
      · rw [a5] at a2
        simp only [World.cell?, a2]
        rfl
      · simp only [World.cell?, b2]
        exact b7
      · simp only [World.frozen?, b2]
        simp
      · obtain ⟨rfl, rfl⟩ := hev
        have t1 := Sim.grow hs (.cells #[.pointer (some ⟨L.b, L.sh + 0, none⟩)] 72)
        have t2 := Sim.grow t1.sim (.cells #[hPE, .pointer (some ⟨w.heap.size, 0, none⟩), .int .u64 150] 142)
        have t3 := Sim.grow t2.sim (.cells #[hPE, .pointer (some ⟨w.heap.size, 0, none⟩), .int .u64 150] 142)
        have t4 := Sim.grow t3.sim (.cells #[.int .i64 n] 29)
        have t5 := ((t1.trans t2).trans t3).trans t4
        have hcell : ((((w.alloc (.cells #[.pointer (some ⟨L.b, L.sh + 0, none⟩)] 72)).alloc (.cells #[hPE, .pointer (some ⟨w.heap.size, 0, none⟩), .int .u64 150] 142)).alloc (.cells #[hPE, .pointer (some ⟨w.heap.size, 0, none⟩), .int .u64 150] 142)).alloc (.cells #[.int .i64 n] 29)).heap[L.b]? = some (.cells c 29 (0, 0)) := by
          have hp : ∀ (w : World) (o : Obj), (w.alloc o).heap = w.heap.push o := fun _ _ => rfl
          simp only [hp, Array.getElem?_push, Array.size_push]
          rw [if_neg (by omega), if_neg (by omega), if_neg (by omega), if_neg (by omega)]
          exact b2
        have t6 := Sim.put t5.sim (x := x) (L := L) (o := .cells [.int .i64 n] 29 false) (o' := .cells (c.setIfInBounds (L.sh + 0) (.int .i64 n)) 29 (0, 0)) (by rw [ho]; rfl) hx64 b1
          ⟨_, _, rfl, fun i _ h => by omega, fun i v hv => ?_, rfl⟩ (keepCells hcell (by simp))
        · refine ⟨ι, ?_, .bool true⟩
          have := t5.trans t6
          rw [← setCell_wput hcell] at this
          exact this
        · match i, hv with
          | 0, hv =>
            simp only [List.getElem?_cons_zero, Option.some.injEq] at hv
            subst hv
            refine ⟨.int .i64 n, ?_, .int _ _⟩
            have hlt2 : L.sh + 0 < c.size := (Array.getElem?_eq_some_iff.1 b7).1
            rw [Array.getElem?_setIfInBounds_self_of_lt hlt2]
          | i + 1, hv => simp at hv
  · cases h

/-- the law's summaries: awake, and errors.As at an Errno -/
noncomputable def orcL : FuncId → List Value → Option (M AEnd) := fun f args =>
  match args with
  | [] => bif Nat.beq f 23 then some (memoM tabs (.bool true)) else none
  | [.iface t (.int .i64 n), .iface u (.pointer (some ⟨x, 0, none⟩))] => bif Nat.beq f 33 && (Nat.beq t 29 && Nat.beq u 72) then some (asM x n) else none
  | _ => none
theorem orcL_some {f : FuncId} {args : List Value} {m : M AEnd} (h : orcL f args = some m) : (f = 23 ∧ args = [] ∧ m = memoM tabs (.bool true)) ∨
    ∃ n x, f = 33 ∧ args = [.iface 29 (.int .i64 n), .iface 72 (.pointer (some ⟨x, 0, none⟩))] ∧ m = asM x n := by
  unfold orcL at h
  split at h
  · cases hb : Nat.beq f 23 with
    | false => rw [hb] at h; cases h
    | true =>
      rw [hb] at h
      simp only [cond_true, Option.some.injEq] at h
      exact .inl ⟨Nat.eq_of_beq_eq_true hb, rfl, h.symm⟩
  · rename_i t n u x
    cases hb : (Nat.beq f 33 && (Nat.beq t 29 && Nat.beq u 72)) with
    | false => rw [hb] at h; cases h
    | true =>
      rw [hb] at h
      simp only [cond_true, Option.some.injEq] at h
      simp only [Bool.and_eq_true] at hb
      obtain ⟨h1, h2, h3⟩ := hb
      obtain rfl := Nat.eq_of_beq_eq_true h2
      obtain rfl := Nat.eq_of_beq_eq_true h3
      exact .inr ⟨n, x, Nat.eq_of_beq_eq_true h1, rfl, h.symm⟩
  · cases h
def glob : List (Nat × AObj) := (0, gErr) :: tabs
end Go.Ai
