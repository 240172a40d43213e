/- The abstract evaluator, file 4: an evaluator of the model's code over an abstract heap, and the proof that it is sound. It states nothing of the claim itself. -/
import Derived.Test.YtdkpcdicfeenmaaGreatDoorE3
import Derived.Conc.LoneSelect
import GoSem.ClaimChange
import Derived.ProofKit
import Derived.MapPlaces
import Derived.WideKeyArgs
import Derived.Deep.Frames
import Derived.ChangeSame
import Derived.LaidMore
import Derived.OpenShut
import Derived.ChangeArms
import Derived.Handed
import Derived.Stop.Joined
import Derived.ChangeCalls
/- The abstract evaluator, part 24: the evaluator is sound. -/
namespace Go.Ai

variable {P : Program} {S : Sig}

def CtlR (ι : Inj) : ACtl → Exit → Prop
  | .normal, .normal => True
  | .exit i, .exit j => j = i
  | .ret, .ret => True
  | .panic ch, .panic ch' => ChR ι ch ch'
  | _, _ => False

def CodePost (P : Program) (ι : Inj) (s : St) (w : World) (s' : St) (c : ACtl) (b : AAct) (e : Exit) (a'' : Act) (w'' : World) : Prop :=
  ∃ ι', Tran P.cellsOf ι s w ι' s' w'' ∧ CtlR ι' c e ∧ AR ι' b a''

def ModeR (ι : Inj) : AMode → FrameMode → Prop
  | .returning, .returning => True
  | .panicking ch, .panicking ch' => ChR ι ch ch'
  | _, _ => False

theorem ModeR.mono {ι ι' : Inj} (hι : ι.Le ι') {u : AMode} {u' : FrameMode} (h : ModeR ι u u') : ModeR ι' u u' := by
  cases u <;> cases u' <;> first | exact h | exact ChR.mono hι h

/-- what follows a first part goes on from where it has come to -/
theorem CodePost.trans {ι ι1 : Inj} {s s1 s' : St} {w w1 : World} {c : ACtl} {b : AAct} {e : Exit} {a'' : Act} {w'' : World} (t : Tran P.cellsOf ι s w ι1 s1 w1) (h : CodePost P ι1 s1 w1 s' c b e a'' w'') : CodePost P ι s w s' c b e a'' w'' := by
  obtain ⟨ι', t', x, y⟩ := h
  exact ⟨ι', t.trans t', x, y⟩

variable {orc : FuncId → List Value → Option (M AEnd)}

/-- a deferred call -/
def CallDPost (P : Program) (ι : Inj) (s : St) (w : World) (s' : St) (x : AEnd × AMode) (en : Ending) (u' : FrameMode) (w' : World) : Prop :=
  ∃ ι', Tran P.cellsOf ι s w ι' s' w' ∧ EndR ι' x.1 en ∧ ModeR ι' x.2 u'

/-- as 'wpIn', but of frames that a plain call has entered -/
def NIn (P : Program) (c : Code) (Q : Exit → Act → World → Prop) (a : Act) (w : World) : Prop :=
  ∀ (b : Frame) (k : List Item) (cs : List Frame), b.kind = .normal → b.roundOf = none →
    ∃ e a' w', Q e a' w' ∧ ArrivesIn (Machine.fenced P Fence.wide) P (lone (b.atR a (.code c :: k)) cs w) b k cs e a' w'

def NRounds (P : Program) (c : Code) (Q : Exit → Act → World → Prop) : Nat → Act → World → Prop
  | 0, _, _ => False
  | m + 1, a, w => NIn P c (Exit.then (NRounds P c Q m) Q) a w

structure Sound (P : Program) (S : Sig) (orc : FuncId → List Value → Option (M AEnd)) (n : Nat) : Prop where
  code : ∀ ro c a x s s' r k ι w a', (ro = none ∨ roundOK c = true) → evCode P S orc n c a s = some (x, s', r, k) → Sim P.cellsOf ι s.h w → Free ι s.n s'.n → AR ι a a' → c.wpIn (fen ro) 0 P (CodePost P ι s w s' x.1 x.2) a' w
  loop : ∀ ro c a x s s' r k ι w a', (ro = none ∨ roundOK c = true) → evCode P S orc n (.loop c) a s = some (x, s', r, k) → Sim P.cellsOf ι s.h w → Free ι s.n s'.n → AR ι a a' → Code.roundsIn (fen ro) 0 P c (CodePost P ι s w s' x.1 x.2) n a' w
  codeN : ∀ c a x s s' r k ι w a', evCodeN P S orc n c a s = some (x, s', r, k) → Sim P.cellsOf ι s.h w → Free ι s.n s'.n → AR ι a a' → NIn P c (CodePost P ι s w s' x.1 x.2) a' w
  loopN : ∀ c a x s s' r k ι w a', evCodeN P S orc n (.loop c) a s = some (x, s', r, k) → Sim P.cellsOf ι s.h w → Free ι s.n s'.n → AR ι a a' → NRounds P c (CodePost P ι s w s' x.1 x.2) n a' w
  codeD : ∀ c a u x s s' r k ι w a' (c₀ : Frame) cs u', evCodeD P S orc n c a u s = some (x, s', r, k) → Sim P.cellsOf ι s.h w → Free ι s.n s'.n → AR ι a a' → ModeR ι u u' →
    c.wpSIn Fence.wide 0 P (fun e a'' cs' w'' => ∃ ι' u'', cs' = { c₀ with mode := u'' } :: cs ∧ Tran P.cellsOf ι s w ι' s' w'' ∧ CtlR ι' x.1 e ∧ AR ι' x.2.1 a'' ∧ ModeR ι' x.2.2 u'') a' ({ c₀ with mode := u' } :: cs) w
  call : CallOK P ⟨evCall P S orc n, evRound P S orc n⟩
  leave : ∀ fn a ds u e s s' r k ι w a' ds' u' ι0 s0 w0, evLeave P S orc n fn a ds u s = some (e, s', r, k) → Tran P.cellsOf ι0 s0 w0 ι s w → Free ι s.n s'.n → AR ι a a' → DefsR ι ds ds' → ModeR ι u u' →
    LeavesInM Fence.wide 0 P fn a'.tmps (CallPost P ι0 s0 w0 s' e) ds' u' w
  callD : ∀ f args u x s s' r k ι w (args' : Array Value) u', evCallD P S orc n f args u s = some (x, s', r, k) → Sim P.cellsOf ι s.h w → Free ι s.n s'.n → LR ι args args'.toList → ModeR ι u u' →
    CallsDIn Fence.wide 0 P f args' u' w (CallDPost P ι s w s' x)

section
variable {call : Env} {ops : Array Oper}

theorem evList_ok (hS : SigOK S P) {ro : Option Nat} (hro : ro = none ∨ ∀ (j : Nat) (o : Oper), ops[j]? = some o → notDefer o = true) (hcl : Env.Loc call) (hc : CallOK P call) {ι0 : Inj} {s0 : St} {w0 : World} : ∀ {l : List Oper} {i : Nat} {a : AAct} {x : ACtl × AAct} {s s' : St} {r k : Nat} {ι : Inj} {w : World} {a' : Act},
    evList P S call ops l a s = some (x, s', r, k) → (∀ j, l[j]? = ops[i + j]?) → Tran P.cellsOf ι0 s0 w0 ι s w → Free ι s.n s'.n → AR ι a a' →
    wpOpsIn (fen ro) 0 P ops (CodePost P ι0 s0 w0 s' x.1 x.2) (List.range' i l.length) a' w
  | [], i, a, x, s, s', r, k, ι, w, a', h, _, t0, _, har => by
    obtain ⟨rfl, rfl⟩ := M.pure_some h
    exact ⟨ι, t0, trivial, har⟩
  | o :: l, i, a, x, s, s', r, k, ι, w, a', h, hi, t0, hf, har => by
    unfold evList at h
    obtain ⟨y, s1, _, _, _, _, k1, k2⟩ := M.bind_some h; clear h
    obtain ⟨c, b⟩ := y
    rw [List.length_cons, List.range'_succ, wpOpsIn_cons]
    have h0 : ops[i]? = some o := by simpa using (hi 0).symm
    have hle : s1.n ≤ s'.n := by
      cases c with
      | normal => exact (evList_local hcl).le k2
      | _ => obtain ⟨_, rfl⟩ := M.pure_some k2; exact Nat.le_refl _
    refine evOp_ok hS hcl hc h0 (hro.imp id (fun h => h _ _ h0)) k1 t0.sim (hf.left hle) har (fun ι' a'' w'' t hn har' => ?_) (fun ι' ch ch' w'' t hn hch har' => ?_)
    · subst hn
      exact evList_ok hS hro hcl hc (i := i + 1) k2 (fun j => by have := hi (j + 1); simpa [Nat.add_assoc, Nat.add_comm 1 j] using this) (t0.trans t) (t.free hf) har'
    · subst hn
      obtain ⟨rfl, rfl⟩ := M.pure_some k2
      exact ⟨ι', t0.trans t, hch, har'⟩

theorem evRegion_ok (hS : SigOK S P) {ro : Option Nat} (hro : ro = none ∨ ∀ (j : Nat) (o : Oper), ops[j]? = some o → notDefer o = true) (hcl : Env.Loc call) (hc : CallOK P call) {id : Nat} {a : AAct} {x : ACtl × AAct} {s s' : St} {r k : Nat} {ι : Inj} {w : World} {a' : Act}
    (h : evList P S call ops ops.toList a s = some (x, s', r, k)) (hs : Sim P.cellsOf ι s.h w) (hf : Free ι s.n s'.n) (har : AR ι a a') : (Code.region id ops false).wpIn (fen ro) 0 P (CodePost P ι s w s' x.1 x.2) a' w := by
  refine wpIn_region ?_
  rw [List.range_eq_range', ← Array.length_toList]
  exact evList_ok hS hro hcl hc h (fun j => by simp) (Tran.refl hs) hf har

/-- what is left of a region of a deferred function, walked -/
def LSIn (P : Program) (ops : Array Oper) (Q : Exit → Act → List Frame → World → Prop) (l : List Nat) (a : Act) (cs : List Frame) (w : World) : Prop :=
  ∀ (b : Frame) (k : List Item), b.kind = .deferred → b.roundOf = none → Fence.wide.fn b.fn → Fence.wide.room (cs.length + 1 + 0) →
    ∃ e a' cs' w', cs'.length = cs.length ∧ Q e a' cs' w' ∧ ArrivesIn (Machine.fenced P Fence.wide) P (lone (b.atR a (.inRegion ops l :: k)) cs w) b k cs' e a' w'

section
variable {Q : Exit → Act → List Frame → World → Prop} {a : Act} {cs : List Frame} {w : World}

theorem LSIn.nil (h : Q .normal a cs w) : LSIn P ops Q [] a cs w := fun _ _ _ _ hF hroom => ⟨.normal, a, cs, w, rfl, h, .one (fenced_calm hF hroom rfl) stepR_region_end⟩

theorem LSIn.plain {l : List Nat} {Q0 : Exit → Act → World → Prop} (h : wpOpsIn Fence.wide 0 P ops Q0 l a w) (hq0 : ∀ e a' w', Q0 e a' w' → Q e a' cs w') : LSIn P ops Q l a cs w := fun b k _ hro hF hroom =>
  let ⟨e, a', w', hq, harr⟩ := wp_opsIn l a w h b k cs hro hF hroom
  ⟨e, a', cs, w', rfl, hq0 _ _ _ hq, harr⟩

theorem LSIn.unwanted {i : Nat} {l : List Nat} {o : Oper} (ho : ops[i]? = some o) (hw : Region.wanted o (yielded ops a.tmps) = false) (h : LSIn P ops Q l (a.put o.dst undef) cs w) : LSIn P ops Q (i :: l) a cs w := fun b k hb hro hF hroom => by
  obtain ⟨e, a', cs', w', hl, hq, harr⟩ := h b k hb hro hF hroom
  have h0 : (lone (b.atR a (.inRegion ops (i :: l) :: k)) cs w).fenced P Fence.wide := fenced_oper hF hroom ho (fun _ _ => trivial)
  have hs := stepR_op_skip (P := P) (b := b) (a := a) (k := k) (cs := cs) (w := w) (ops := ops) (i := i) (rest := l) (by simp [ho, hw])
  simp only [ho, Option.bind_some] at hs
  exact ⟨e, a', cs', w', hl, hq, .of_steps (.one h0 hs) harr⟩

theorem LSIn.step {i : Nat} {l : List Nat} {o : Oper} (ho : ops[i]? = some o) (hw : Region.wanted o (yielded ops a.tmps) = true) {v : Value} {w1 : World}
    (hr : (execOp a.eval o).run P w = .ok (.value v) w1 ∨ ((execOp a.eval o).run P w = .ok .skip w1 ∧ v = undef)) (h : LSIn P ops Q l (a.put o.dst v) cs w1) : LSIn P ops Q (i :: l) a cs w := fun b k hb hro hF hroom => by
  obtain ⟨e, a', cs', w', hl, hq, harr⟩ := h b k hb hro hF hroom
  have h0 : (lone (b.atR a (.inRegion ops (i :: l) :: k)) cs w).fenced P Fence.wide := fenced_oper hF hroom ho (fun _ _ => trivial)
  have hg := stepGR_op (P := P) (b := b) (k := k) (cs := cs) (w := w) (rest := l) ho hw
  rw [hro, Oper.semAt_none] at hg
  have hfin : ∀ v, (b.atR a (.inRegion ops (i :: l) :: k)).finish v = b.atR (a.put o.dst v) (.inRegion ops l :: k) := by
    intro v; rw [Frame.finish_atR, ho]; rfl
  refine ⟨e, a', cs', w', hl, hq, .of_steps (.one h0 (step_lone_go ?_)) harr⟩
  rcases hr with hr | ⟨hr, rfl⟩ <;> (rw [hg, ← hfin]; simp [stepG.apply, hr])

theorem LSIn.panic {i : Nat} {l : List Nat} {o : Oper} (ho : ops[i]? = some o) (hw : Region.wanted o (yielded ops a.tmps) = true) {v : Value} {w1 : World}
    (hr : (execOp a.eval o).run P w = .halt (.panic v) w1) (h : Q (.panic [{ v, recovered := false }]) a cs w1) : LSIn P ops Q (i :: l) a cs w := fun b k hb hro hF hroom => by
  have h0 : (lone (b.atR a (.inRegion ops (i :: l) :: k)) cs w).fenced P Fence.wide := fenced_oper hF hroom ho (fun _ _ => trivial)
  have hg := stepGR_op (P := P) (b := b) (k := k) (cs := cs) (w := w) (rest := l) ho hw
  rw [hro, Oper.semAt_none] at hg
  refine ⟨_, a, cs, w1, rfl, h, .inRegion ops (i :: l) :: k, .one h0 (step_lone_go ?_)⟩
  rw [hg, ← Frame.raise_atR]; simp [stepG.apply, hr]

theorem LSIn.recover {i : Nat} {l : List Nat} {o : Oper} (ho : ops[i]? = some o) (hw : Region.wanted o (yielded ops a.tmps) = true)
    (hr : (execOp a.eval o).run P w = .ok .recover w) (h : match recoverD cs with | some (v, cs') => LSIn P ops Q l (a.put o.dst v) cs' w | none => LSIn P ops Q l (a.put o.dst .nilIface) cs w) : LSIn P ops Q (i :: l) a cs w := fun b k hb hro hF hroom => by
  have h0 : (lone (b.atR a (.inRegion ops (i :: l) :: k)) cs w).fenced P Fence.wide := fenced_oper hF hroom ho (fun _ _ => trivial)
  have hg := stepGR_op (P := P) (b := b) (k := k) (cs := cs) (w := w) (rest := l) ho hw
  rw [hro, Oper.semAt_none] at hg
  have hfin : ∀ v, (b.atR a (.inRegion ops (i :: l) :: k)).finish v = b.atR (a.put o.dst v) (.inRegion ops l :: k) := by
    intro v; rw [Frame.finish_atR, ho]; rfl
  have hk : (b.atR a (.inRegion ops (i :: l) :: k)).kind = .deferred := hb
  have htr := tryRecover_deferred hk cs
  split at h
  · rename_i v cs' hrec
    have hlen := recoverD_length hrec
    obtain ⟨e, a', cs'', w'', hl, hq, harr⟩ := h b k hb hro hF (hlen ▸ hroom)
    refine ⟨e, a', cs'', w'', hl.trans hlen, hq, .of_steps (.one h0 (step_lone_go ?_)) harr⟩
    rw [hg, ← hfin]
    simp only [Frame.atR, hro] at htr ⊢
    simp [stepG.apply, hr, htr, hrec]
  · rename_i hrec
    obtain ⟨e, a', cs'', w'', hl, hq, harr⟩ := h b k hb hro hF hroom
    refine ⟨e, a', cs'', w'', hl, hq, .of_steps (.one h0 (step_lone_go ?_)) harr⟩
    rw [hg, ← hfin]
    simp only [Frame.atR, hro] at htr ⊢
    simp [stepG.apply, hr, htr, hrec]

theorem LSIn.region {id : Nat} (h : LSIn P ops Q (List.range ops.size) a cs w) : (Code.region id ops false).wpSIn Fence.wide 0 P Q a cs w :=
  fun b k hb hr hF hroom => let ⟨e, a', cs', w', l, q, r⟩ := h b k hb hr hF hroom; ⟨e, a', cs', w', l, q, .of_steps (.one (fenced_calm hF hroom rfl) stepR_region) r⟩
end

/-- a region of a deferred function -/
theorem evListD_ok (hS : SigOK S P) (hcl : Env.Loc call) (hc : CallOK P call) {c₀ : Frame} {cs : List Frame} {ι0 : Inj} {s0 : St} {w0 : World} : ∀ {l : List Oper} {i : Nat} {a : AAct} {u : AMode} {x : ACtl × AAct × AMode} {s s' : St} {r k : Nat} {ι : Inj} {w : World} {a' : Act} {u' : FrameMode},
    evListD P S call ops l a u s = some (x, s', r, k) → (∀ j, l[j]? = ops[i + j]?) → Tran P.cellsOf ι0 s0 w0 ι s w → Free ι s.n s'.n → AR ι a a' → ModeR ι u u' →
    LSIn P ops (fun e a'' cs' w'' => ∃ ι' u'', cs' = { c₀ with mode := u'' } :: cs ∧ Tran P.cellsOf ι0 s0 w0 ι' s' w'' ∧ CtlR ι' x.1 e ∧ AR ι' x.2.1 a'' ∧ ModeR ι' x.2.2 u'') (List.range' i l.length) a' ({ c₀ with mode := u' } :: cs) w
  | [], i, a, u, x, s, s', r, k, ι, w, a', u', h, _, t0, _, har, hu => by
    obtain ⟨rfl, rfl⟩ := M.pure_some h
    exact LSIn.nil ⟨ι, u', rfl, t0, trivial, har, hu⟩
  | o :: l, i, a, u, x, s, s', r, k, ι, w, a', u', h, hi, t0, hf, har, hu => by
    unfold evListD at h
    have h0 : ops[i]? = some o := by simpa using (hi 0).symm
    have hi' : ∀ j, l[j]? = ops[i + 1 + j]? := fun j => by have := hi (j + 1); simpa [Nat.add_assoc, Nat.add_comm 1 j] using this
    rw [List.length_cons, List.range'_succ]
    cases hr : isRecover o with
    | true =>
      rw [hr] at h; simp only [cond_true] at h
      obtain ⟨b, _, _, e1, h1⟩ := bind_lift h; clear h
      -- the operation is a call of recover
      have hrun : (execOp a'.eval o).run P w = .ok .recover w ∧ o.guard = none := by
        unfold isRecover at hr
        split at hr
        · rename_i c hc
          split at hr
          · rename_i hcal hargs
            refine ⟨?_, by simpa using hr⟩
            have ha : c.args = #[] := by rw [← Array.toList_inj]; simpa using hargs
            simp only [execOp, hc, resolve, hcal, Sem.run_bind, Sem.run_pure, Result.andThen_ok, invoke, ha]
            rfl
          · cases hr
        · cases hr
      have hw : Region.wanted o (yielded ops a'.tmps) = true := by simp [Region.wanted, hrun.2]
      refine LSIn.recover h0 hw hrun.1 ?_
      -- what recover answers
      have key : ∀ {v' : Value} {u2 : FrameMode}, (VR ι (arecover u).1 v') → ModeR ι (arecover u).2 u2 →
          LSIn P ops (fun e a'' cs' w'' => ∃ ι' u'', cs' = { c₀ with mode := u'' } :: cs ∧ Tran P.cellsOf ι0 s0 w0 ι' s' w'' ∧ CtlR ι' x.1 e ∧ AR ι' x.2.1 a'' ∧ ModeR ι' x.2.2 u'') (List.range' (i + 1) l.length) (a'.put o.dst v') ({ c₀ with mode := u2 } :: cs) w := by
        intro v' u2 hv hu2
        cases hrec : hasRecover l with
        | true =>
          rw [hrec] at h1
          exact evListD_ok hS hcl hc (i := i + 1) h1 hi' t0 hf (aput_ok har hv e1) hu2
        | false =>
          rw [hrec] at h1
          simp only [cond_false] at h1
          obtain ⟨y, s1, _, _, _, _, k1, k2⟩ := M.bind_some h1
          obtain ⟨rfl, rfl⟩ := M.pure_some k2
          refine LSIn.plain (evList_ok hS (ro := none) (.inl rfl) hcl hc (i := i + 1) k1 hi' (Tran.refl t0.sim) hf (aput_ok har hv e1)) (fun e a'' w'' hp => ?_)
          obtain ⟨ι', t', hct, har'⟩ := hp
          exact ⟨ι', u2, rfl, t0.trans t', hct, har', hu2.mono t'.ext⟩
      cases u with
      | returning =>
        cases u' with
        | returning => exact key (v' := .nilIface) .nilIface trivial
        | run => exact hu.elim
        | panicking ch => exact hu.elim
      | panicking ch =>
        cases u' with
        | run => exact hu.elim
        | returning => exact hu.elim
        | panicking ch' =>
          cases ch with
          | nil =>
            cases ch' with
            | nil => exact key (v' := .nilIface) .nilIface trivial
            | cons e' l' => exact hu.elim
          | cons e lch =>
            cases ch' with
            | nil => exact hu.elim
            | cons e' l' =>
              obtain ⟨⟨p1, p2, p3⟩, p4⟩ := hu
              obtain ⟨v, rcv⟩ := e
              obtain ⟨v', rcv', ge'⟩ := e'
              simp only at p1 p2 p3
              subst p2; subst p3
              cases rcv' with
              | false => exact key (v' := v') (u2 := .panicking ({ v := v', recovered := true } :: l')) p1 ⟨⟨p1, rfl, rfl⟩, p4⟩
              | true => exact key (v' := .nilIface) (u2 := .panicking ({ v := v', recovered := true } :: l')) .nilIface ⟨⟨p1, rfl, rfl⟩, p4⟩
    | false =>
      rw [hr] at h; simp only [cond_false] at h
      obtain ⟨wd, _, _, e1, h1⟩ := bind_lift h; clear h
      have hwd := awanted_ok har e1
      cases wd with
      | false =>
        simp only [cond_false] at h1
        obtain ⟨b, _, _, e2, h2⟩ := bind_lift h1; clear h1
        exact LSIn.unwanted h0 hwd (evListD_ok hS hcl hc (i := i + 1) h2 hi' t0 hf (aput_ok har VR.undef e2) hu)
      | true =>
        simp only [cond_true] at h1
        obtain ⟨nx, s1, _, _, _, _, k1, k2⟩ := M.bind_some h1; clear h1
        have hle : s1.n ≤ s'.n := by
          cases nx with
          | val v => obtain ⟨_, _, _, _, h2⟩ := bind_lift k2; exact (evListD_local hcl).le h2
          | skip => obtain ⟨_, _, _, _, h2⟩ := bind_lift k2; exact (evListD_local hcl).le h2
          | panic v => obtain ⟨_, rfl⟩ := M.pure_some k2; exact Nat.le_refl _
          | _ => simp [M.fail] at k2
        obtain ⟨ι1, w1, t1, n1⟩ := aop_ok hS k1 t0.sim (hf.left hle) har
        cases nx with
        | val v =>
          obtain ⟨v', r1, r2⟩ := n1
          obtain ⟨b1, _, _, e2, h2⟩ := bind_lift k2; clear k2
          exact LSIn.step h0 hwd (.inl r1) (evListD_ok hS hcl hc (i := i + 1) h2 hi' (t0.trans t1) (t1.free hf) (aput_ok (har.mono t1.ext) r2 e2) (hu.mono t1.ext))
        | skip =>
          have r1 : (execOp a'.eval o).run P w = .ok .skip w1 := n1
          obtain ⟨b1, _, _, e2, h2⟩ := bind_lift k2; clear k2
          exact LSIn.step h0 hwd (.inr ⟨r1, rfl⟩) (evListD_ok hS hcl hc (i := i + 1) h2 hi' (t0.trans t1) (t1.free hf) (aput_ok (har.mono t1.ext) VR.undef e2) (hu.mono t1.ext))
        | panic v =>
          obtain ⟨v', r1, r2⟩ := n1
          obtain ⟨rfl, rfl⟩ := M.pure_some k2
          exact LSIn.panic h0 hwd r1 ⟨ι1, u', rfl, t0.trans t1, ⟨⟨r2, rfl, rfl⟩, trivial⟩, har.mono t1.ext, hu.mono t1.ext⟩
        | _ => simp [M.fail] at k2

end
end Go.Ai
/- The abstract evaluator, part 25: the evaluator is sound. -/
namespace Go.Ai

variable {P : Program} {S : Sig} {orc : FuncId → List Value → Option (M AEnd)}

theorem roundsIn_mono' {F : Fence} {c : Code} {Q Q' : Exit → Act → World → Prop} (hq : ∀ e a w, Q e a w → Q' e a w) : ∀ (m : Nat) (a : Act) (w : World), Code.roundsIn F 0 P c Q m a w → Code.roundsIn F 0 P c Q' m a w
  | 0, _, _, h => h.elim
  | m + 1, a, w, h => wpIn_mono h (fun e a' w' q => by
      cases e with
      | normal => exact roundsIn_mono' hq m a' w' q
      | _ => exact hq _ _ _ q)

theorem wpSIn_mono' {c : Code} {Q Q' : Exit → Act → List Frame → World → Prop} {a : Act} {cs : List Frame} {w : World} (h : c.wpSIn Fence.wide 0 P Q a cs w) (hq : ∀ e a cs w, Q e a cs w → Q' e a cs w) : c.wpSIn Fence.wide 0 P Q' a cs w :=
  fun b k hb hr hF hroom => let ⟨e, a', cs', w', l, q, r⟩ := h b k hb hr hF hroom; ⟨e, a', cs', w', l, hq _ _ _ _ q, r⟩

theorem callsDIn_mono' {f : FuncId} {args : Array Value} {u : FrameMode} {w : World} {R R' : Ending → FrameMode → World → Prop} (h : CallsDIn Fence.wide 0 P f args u w R) (hr : ∀ e u w, R e u w → R' e u w) : CallsDIn Fence.wide 0 P f args u w R' :=
  ⟨h.1, fun c cs hu hroom => let ⟨e, u', w', fr, r, rest⟩ := h.2 c cs hu hroom; ⟨e, u', w', fr, hr _ _ _ r, rest⟩⟩

theorem settle_ok {ι : Inj} {u : AMode} {u' : FrameMode} (h : ModeR ι u u') : ModeR ι (asettle u) (settle u') := by
  have all : ∀ {l : List APE} {l' : List PanicEntry}, ChR ι l l' → l'.dropWhile (fun e => !e.goexit) = [] := by
    intro l
    induction l with
    | nil => intro l' h; cases l' with | nil => rfl | cons => exact h.elim
    | cons e l ih =>
      intro l' h
      cases l' with
      | nil => rfl
      | cons e' l' =>
        obtain ⟨⟨_, _, h3⟩, h4⟩ := h
        simp only [List.dropWhile_cons, h3, Bool.not_false, if_true]
        exact ih h4
  cases u with
  | returning => cases u' <;> first | exact h.elim | trivial
  | panicking ch =>
    cases u' with
    | run => exact h.elim
    | returning => exact h.elim
    | panicking ch' =>
      cases ch with
      | nil => cases ch' with | nil => exact h | cons => exact h.elim
      | cons e l =>
        cases ch' with
        | nil => exact h.elim
        | cons e' l' =>
          obtain ⟨v, rcv⟩ := e
          obtain ⟨v', rcv', ge'⟩ := e'
          have h' := h
          obtain ⟨⟨h1, h2, h3⟩, h4⟩ := h
          simp only at h1 h2 h3
          subst h2; subst h3
          cases rcv' with
          | false => exact h'
          | true =>
            simp only [settle, all h4, asettle]
            trivial

theorem ChR.append {ι : Inj} : ∀ {l m : List APE} {l' m' : List PanicEntry}, ChR ι l l' → ChR ι m m' → ChR ι (l ++ m) (l' ++ m')
  | [], _, [], _, _, h => h
  | _ :: _, _, _ :: _, _, h, k => ⟨h.1, ChR.append h.2 k⟩
  | [], _, _ :: _, _, h, _ => h.elim
  | _ :: _, _, [], _, h, _ => h.elim

theorem raised_ok {ι : Inj} {u : AMode} {u' : FrameMode} (h : ModeR ι u u') {ch : List APE} {ch' : List PanicEntry} (hc : ChR ι ch ch') : ModeR ι (araised u ch) (raised u' ch') := by
  cases u with
  | returning => cases u' <;> first | exact h.elim | exact hc
  | panicking old =>
    cases u' with
    | run => exact h.elim
    | returning => exact h.elim
    | panicking old' => exact hc.append h

theorem wide_depth {n : Nat} : Fence.wide.depth.isSome = true → 1 ≤ n := fun h => by simp [Fence.wide] at h

/-- the record of a loop under way -/
theorem Sim.loop {sz0 : TypeId → Nat} {ι : Inj} {s : St} {w : World} (hs : Sim sz0 ι s.h w) {y : Nat} {t : Tr Value} {sz : Nat} {ps : List Nat} {asg body : Code} {st : Nat} {pd : Option Code} (hy : s.h.get y = some (.loop t sz ps asg body st pd)) {L : Loc} (hL : ι y = some L) :
    L.sh = 0 ∧ ∃ q : Loop, w.heap[L.b]? = some (.loop q) ∧ TmpR ι t sz q.tmps ∧ q.params.toList = ps ∧ q.assign = asg ∧ q.body = body ∧ q.state = lstate st ∧ q.pending = pd := by
  obtain ⟨L', o, a, b, h0, q, rfl, h⟩ := hs.obj y _ hy
  rw [hL] at a; cases a
  exact ⟨h0, q, b, h⟩

theorem Sim.setLoop {sz0 : TypeId → Nat} {ι : Inj} {s : St} {w : World} (hs : Sim sz0 ι s.h w) {y : Nat} {t : Tr Value} {sz : Nat} {ps : List Nat} {asg body : Code} {st : Nat} {pd : Option Code} (hy : s.h.get y = some (.loop t sz ps asg body st pd)) (hn : y + 1 < 2 ^ 64) {L : Loc} (hL : ι y = some L)
    {q : Loop} (hq : w.heap[L.b]? = some (.loop q)) (st' : Nat) (pd' : Option Code) {q' : Loop} (hq' : q' = { q with state := lstate st', pending := pd' }) :
    Tran sz0 ι s w ι ⟨s.h.set 64 y (some (.loop t sz ps asg body st' pd')), s.n⟩ (w.putObj L.b (.loop q')) := by
  obtain ⟨h0, q0, b, h1, h2, h3, h4, _⟩ := hs.loop hy hL
  rw [hq] at b; cases b
  subst hq'
  exact hs.put (by rw [hy]; rfl) hn hL ⟨h0, _, rfl, h1, h2, h3, h4, rfl, rfl⟩ (keepNot hq (fun _ _ _ h => by cases h))

theorem setArgs_ok {ι : Inj} {sz : Nat} : ∀ {ps : List Nat} {vs vs' : List Value} {t : Tr Value} {c : Array Value}, TmpR ι t sz c → (ps.all fun p => Nat.blt p sz && Nat.blt p 1000000) = true → LR ι vs vs' →
    TmpR ι (setArgs ps vs t) sz ((ps.zip vs').foldl (fun tmps (x : Nat × Value) => tmps.setIfInBounds x.1 x.2) c)
  | [], vs, vs', t, c, h, _, _ => by
    have e : setArgs [] vs t = t := by cases vs <;> rfl
    rw [e]; exact h
  | p :: ps, [], [], t, c, h, _, _ => h
  | p :: ps, [], v :: vs', t, c, h, _, hl => by have := hl.1; simp at this
  | p :: ps, v :: vs, [], t, c, h, _, hl => by have := hl.1; simp at this
  | p :: ps, v :: vs, v' :: vs', t, c, h, hp, hl => by
    simp only [List.all_cons, Bool.and_eq_true, Nat.blt_eq] at hp
    obtain ⟨⟨p1, p2⟩, p3⟩ := hp
    have hl' : LR ι vs vs' := ⟨by have := hl.1; simpa using this, fun i a b x y => hl.2 (i + 1) a b (by simpa using x) (by simpa using y)⟩
    have hv : VR ι v v' := hl.2 0 v v' rfl rfl
    show TmpR ι (setArgs ps vs (t.set 24 p (some v))) sz ((ps.zip vs').foldl _ (c.setIfInBounds p v'))
    refine setArgs_ok ⟨by simp [h.1], fun x u hu => ?_⟩ p3 hl'
    by_cases e : x = p
    · subst e
      rw [Tr.get_set_same _ _ _ _ (by omega)] at hu; cases hu
      exact ⟨p1, v', by simp [h.1, p1], hv⟩
    · rw [Tr.get_set_other _ _ _ _ _ e] at hu
      obtain ⟨a, u', b, d⟩ := h.2 x u hu
      exact ⟨a, u', by rw [Array.getElem?_setIfInBounds_ne (fun c => e c.symm)]; exact b, d⟩

theorem roundEnd_ok {y st : Nat} {pd : Option Code} {b : Bool} {v : Value} {s s' : St} {r k : Nat} (h : roundEnd y st pd b s = some (v, s', r, k)) {ι : Inj} {w : World} (hs : Sim P.cellsOf ι s.h w) {L : Loc} (hL : ι y = some L) (hst : st = if pd.isNone then 0 else 2) (hb : b = pd.isNone) :
    ∃ w', (Instr.endRound L.b pd).run P w = .ok (.bool b) w' ∧ v = .bool b ∧ Tran P.cellsOf ι s w ι s' w' := by
  unfold roundEnd at h
  obtain ⟨o, _, _, e1, _, h1⟩ := bind_getO h
  split at h1
  · obtain ⟨_, _, _, _, e3, h2⟩ := bind_setO h1
    obtain ⟨rfl, rfl⟩ := M.pure_some h2
    obtain ⟨_, q, b1, _⟩ := hs.loop e1 hL
    refine ⟨_, by rw [hb]; exact run_endRound pd b1, rfl, hs.setLoop e1 e3 hL b1 st pd ?_⟩
    rw [hst]
    cases pd <;> rfl
  · simp [M.fail] at h1

/-- The statement 'for range f'. -/
theorem rangeFunc_ok (hS : SigOK S P) {call : Env} (hcl : Env.Loc call) (hc : CallOK P call) {g : Operand} {ps : Array Tmp} {assign body : Code} {a : AAct} {a' : Act} {fn : Fn} {first cap : Array Value}
    {s s' : St} {x : ACtl × AAct} {r k : Nat} {ι : Inj} {w : World} (hg : VR ι (.func fn first cap) (a'.eval g))
    (h : (M.bind (M.guard (roundOK assign && roundOK body)) fun _ =>
        M.bind (M.newO .dfr) fun r => M.bind (M.newO (.loop a.t a.sz ps.toList assign body 0 none)) fun y =>
        M.bind (ainvoke S fn cap.toList (first.toList ++ [.func (.yield y) #[] #[]])) fun nx => match nx with
        | .enter f args => M.bind (call.c f args) fun e => match e with
          | .ret _ => M.bind (M.getO y) fun o => match o with
            | .loop t sz ps asg body st pd => M.bind (M.guard (not (Nat.beq st 1))) fun _ =>
              M.bind (M.setO y (.loop t sz ps asg body 3 pd)) fun _ => match pd with
              | none => M.pure (ACtl.normal, { a with d := .mark r :: a.d })
              | some .ret => M.pure (.ret, { a with d := .mark r :: a.d })
              | some (.exit i) => M.pure (.exit i, { a with d := .mark r :: a.d })
              | some _ => M.fail
            | _ => M.fail
          | .panic ch => M.pure (.panic ch, { a with d := .mark r :: a.d })
        | _ => M.fail) s = some (x, s', r, k)) (hs : Sim P.cellsOf ι s.h w) (hf : Free ι s.n s'.n) (har : AR ι a a') :
    (Code.rangeFunc g ps assign body).wpIn Fence.wide 0 P (CodePost P ι s w s' x.1 x.2) a' w := by
  obtain ⟨_, _, _, h⟩ := bind_guard h
  obtain ⟨rn, s1, _, _, _, _, k1, k2⟩ := M.bind_some h; clear h
  obtain ⟨yn, s2, _, _, _, _, k3, k4⟩ := M.bind_some k2; clear k2
  obtain ⟨nx, s2', _, _, _, _, k5, k6⟩ := M.bind_some k4; clear k4
  obtain ⟨rfl, rfl, nok1⟩ := M.newO_some k1
  obtain ⟨rfl, rfl, nok2⟩ := M.newO_some k3
  have tail : ∀ {s3 : St} {v : Value} {r k : Nat}, (M.bind (M.getO (s.n + 1)) fun o => match o with
            | .loop t sz ps asg body st pd => M.bind (M.guard (not (Nat.beq st 1))) fun _ =>
              M.bind (M.setO (s.n + 1) (.loop t sz ps asg body 3 pd)) fun _ => match pd with
              | none => M.pure (ACtl.normal, { a with d := .mark s.n :: a.d })
              | some .ret => M.pure (.ret, { a with d := .mark s.n :: a.d })
              | some (.exit i) => M.pure (.exit i, { a with d := .mark s.n :: a.d })
              | some _ => M.fail
            | _ => M.fail) s3 = some (x, s', r, k) → ∃ t sz ps asg body st pd c, s3.h.get (s.n + 1) = some (.loop t sz ps asg body st pd) ∧ st ≠ 1 ∧ s.n + 1 + 1 < 2 ^ 64 ∧ s' = ⟨s3.h.set 64 (s.n + 1) (some (.loop t sz ps asg body 3 pd)), s3.n⟩ ∧
              x = (c, { a with d := .mark s.n :: a.d }) ∧ ((pd = none ∧ c = .normal) ∨ (pd = some .ret ∧ c = .ret) ∨ ∃ i, pd = some (.exit i) ∧ c = .exit i) := by
    intro s3 v r k hh
    obtain ⟨o, _, _, e1, _, h1⟩ := bind_getO hh
    split at h1
    · rename_i t sz ps asg body st pd
      obtain ⟨_, _, e2, h2⟩ := bind_guard h1
      obtain ⟨_, _, _, _, e3, h3⟩ := bind_setO h2
      have hst : st ≠ 1 := by rintro rfl; simp at e2
      split at h3
      · obtain ⟨rfl, rfl⟩ := M.pure_some h3
        exact ⟨t, sz, ps, asg, body, st, _, _, e1, hst, e3, rfl, rfl, .inl ⟨rfl, rfl⟩⟩
      · obtain ⟨rfl, rfl⟩ := M.pure_some h3
        exact ⟨t, sz, ps, asg, body, st, _, _, e1, hst, e3, rfl, rfl, .inr (.inl ⟨rfl, rfl⟩)⟩
      · obtain ⟨rfl, rfl⟩ := M.pure_some h3
        exact ⟨t, sz, ps, asg, body, st, _, _, e1, hst, e3, rfl, rfl, .inr (.inr ⟨_, rfl, rfl⟩)⟩
      · simp [M.fail] at h3
    · simp [M.fail] at h1
  -- the bounds
  have hle2 : s2'.n ≤ s'.n := by
    cases nx with
    | enter f args =>
      obtain ⟨e, s3, _, _, _, _, k7, k8⟩ := M.bind_some k6
      have h3 := (hcl.1 f args).le k7
      cases e with
      | ret v =>
        obtain ⟨_, _, _, _, _, _, _, _, _, _, _, rfl, _⟩ := tail (v := v) k8
        exact h3
      | panic ch => obtain ⟨_, rfl⟩ := M.pure_some k8; exact h3
    | _ => simp [M.fail] at k6
  have hle1 := ainvoke_local.le k5
  simp only at hle1
  have free1 : ι s.n = none := hf s.n (Nat.le_refl _) (by omega)
  have t1 := hs.alloc (sh := 0) (t := 0) nok1 free1 (o := .dfr) (o' := .deferred (some [])) ⟨rfl, rfl⟩
  have hf1 := t1.free hf
  have free2 : (ι.add s.n ⟨w.heap.size, 0, 0⟩) (s.n + 1) = none := hf1 (s.n + 1) (Nat.le_refl _) (by omega)
  refine wpIn_rangeFunc fun fn' _ => ?_
  have har1 := har.mono t1.ext
  have t2 := t1.sim.alloc (sh := 0) (t := 0) nok2 free2 (o := .loop a.t a.sz ps.toList assign body 0 none) (o' := .loop { state := .ready, pending := none, fn := fn', tmps := a'.tmps, params := ps, assign := assign, body := body, defers := w.heap.size })
    ⟨rfl, _, rfl, ⟨har1.size, fun x v hv => (har1.mono (Inj.add_le _ free2)).tmp x v hv⟩, rfl, rfl, rfl, rfl, rfl⟩
  have t12 := t1.trans t2
  simp only at t2 t12
  generalize hι2 : (ι.add s.n ⟨w.heap.size, 0, 0⟩).add (s.n + 1) ⟨(w.alloc (.deferred (some []))).heap.size, 0, 0⟩ = ι2 at t2 t12
  generalize hw2 : (w.alloc (.deferred (some []))).alloc (.loop { state := .ready, pending := none, fn := fn', tmps := a'.tmps, params := ps, assign := assign, body := body, defers := w.heap.size }) = w2 at t2 t12
  have hl : (w.alloc (.deferred (some []))).heap.size = w.heap.size + 1 := by
    show (w.heap.push _).size = _
    simp
  have hr2 : ι2 s.n = some ⟨w.heap.size, 0, 0⟩ := by
    rw [← hι2]; exact Inj.add_le _ free2 _ _ (Inj.add_same _ _ _)
  have hy2 : ι2 (s.n + 1) = some ⟨w.heap.size + 1, 0, 0⟩ := by
    rw [← hι2, Inj.add_same, hl]
  generalize hev : a'.eval g = gv at hg
  cases hg with
  | yield => simp [ainvoke, M.fail] at k5
  | func _ f' _ _ x' y' hff hx hy h1 h2 =>
  obtain ⟨rfl, _⟩ := hff
  have hcap : LR ι2 cap.toList y'.toList := (LR.ofArr hy h2).mono t12.ext
  have hargs : LR ι2 (first.toList ++ [.func (.yield (s.n + 1)) #[] #[]]) (x' ++ #[(.func (.yield (w.heap.size + 1)) #[] #[] : Value)]).toList := by
    have := ((LR.ofArr hx h1).mono t12.ext).append (LR.cons (VR.yield (s.n + 1) _ hy2) LR.nil)
    simpa using this
  obtain ⟨rfl, f, as, as', rfl, hinv, has⟩ := ainvoke_at hS k5 (w := w2) hcap hargs
  obtain ⟨e, s3, _, _, _, _, k7, k8⟩ := M.bind_some k6; clear k6
  have hle3 : s3.n ≤ s'.n := by
    cases e with
    | ret v =>
      obtain ⟨_, _, _, _, _, _, _, _, _, _, _, rfl, _⟩ := tail (v := v) k8
      exact Nat.le_refl _
    | panic ch => obtain ⟨_, rfl⟩ := M.pure_some k8; exact Nat.le_refl _
  have hcall := hc.c f as _ e s3 _ _ ι2 w2 as' k7 t12.sim ((t12.free hf).left hle3) has
  refine ⟨w.heap.size + 1, [{ target := .collected w.heap.size, args := #[] }], w2, { target := .fn f' y', args := x' ++ #[.func (.yield (w.heap.size + 1)) #[] #[]] }, w2, f, as', w2, ?_, ?_, fun _ _ => trivial, hinv, wide_depth, CallsIn.mono hcall fun en w3 hp => ?_⟩
  · rw [← hw2]
    exact run_enterLoop_outer fn' a'.tmps ps assign body
  · simp only [resolve, hev, Deferred.ofValue]
    simp [Act.eval]
  · obtain ⟨ι3, t3, q3⟩ := hp
    have t123 := t12.trans t3
    have har3 : AR ι3 { a with d := .mark s.n :: a.d } { a' with defers := [{ target := .collected w.heap.size, args := #[] }] ++ a'.defers } :=
      (har.mono t123.ext).defer (d := .mark s.n) ⟨_, t3.ext _ _ hr2, rfl⟩
    cases e with
    | ret v =>
      obtain ⟨t, sz, ps', asg, bd, st, pd, c, e1, hst, hn, rfl, rfl, hpd⟩ := tail (v := v) k8
      cases en with
      | panicked _ => exact q3.elim
      | outgrown => exact q3.elim
      | returned v' =>
        have hL3 := t3.ext _ _ hy2
        obtain ⟨_, q, b1, b2, b3, b4, b5, b6, b7⟩ := t3.sim.loop e1 hL3
        have hne : q.state ≠ .busy := by
          rw [b6]
          match st, hst with
          | 0, _ => simp [lstate]
          | 1, h => exact (h rfl).elim
          | 2, _ => simp [lstate]
          | n + 3, _ => simp [lstate]
        have t4 := t3.sim.setLoop e1 hn hL3 b1 3 pd (q' := { q with state := .exhausted }) (by rw [← b7]; rfl)
        have t1234 := t123.trans t4
        rw [b7] at t1234
        refine ⟨q.pending, _, run_endLoop b1 hne, ?_⟩
        rw [b7]
        rcases hpd with ⟨rfl, rfl⟩ | ⟨rfl, rfl⟩ | ⟨i, rfl, rfl⟩
        · exact ⟨ι3, t1234, trivial, har3⟩
        · exact wpIn_ret ⟨ι3, t1234, trivial, har3⟩
        · exact wpIn_exit ⟨ι3, t1234, rfl, har3⟩
    | panic ch =>
      obtain ⟨rfl, rfl⟩ := M.pure_some k8
      cases en with
      | returned _ => exact q3.elim
      | outgrown => exact q3.elim
      | panicked ch' => exact ⟨ι3, t123, q3, har3⟩

end Go.Ai
/- The abstract evaluator, part 25b: a select of one case with a default, in a function that a call has entered. -/
namespace Go.Ai
open Go.Conc

variable {P : Program} {S : Sig}

section
variable {Q : Exit → Act → World → Prop} {a : Act} {w : World}

theorem wcalm {b : Frame} {a : Act} {k : List Item} {cs : List Frame} {w : World} : (lone (b.atR a k) cs w).fenced P Fence.wide := fenced_wide P _

theorem NIn.of_wp {c : Code} (h : c.wpIn Fence.wide 0 P Q a w) : NIn P c Q a w := fun b k cs _ hro => h b k cs hro trivial (room_wide _)

theorem NIn.mono {c : Code} {Q' : Exit → Act → World → Prop} (h : NIn P c Q a w) (hq : ∀ e a w, Q e a w → Q' e a w) : NIn P c Q' a w :=
  fun b k cs hk hro => let ⟨e, a', w', q, r⟩ := h b k cs hk hro; ⟨e, a', w', hq _ _ _ q, r⟩

theorem NIn.seq {x y : Code} (h : NIn P x (Exit.then (NIn P y Q) Q) a w) : NIn P (.seq x y) Q a w := by
  intro b k cs hk hro
  have h0 : (lone (b.atR a (.code (.seq x y) :: k)) cs w).fenced P Fence.wide := wcalm
  obtain ⟨e, a₁, w₁, hq, harr⟩ := h b (.code y :: k) cs hk hro
  cases e with
  | normal =>
    obtain ⟨e₂, a₂, w₂, hq₂, harr₂⟩ := hq b k cs hk hro
    exact ⟨e₂, a₂, w₂, hq₂, .of_steps (.head h0 stepR_seq harr) harr₂⟩
  | _ => exact ⟨_, a₁, w₁, hq, .of_steps (.one h0 stepR_seq) (.pass (x := .code y) rfl (fun _ _ => .inl (by simp)) harr)⟩

theorem NIn.cond {c : Operand} {x y : Code} {t : Bool} (hc : a.eval c = .bool t) (h : NIn P (if t then x else y) Q a w) : NIn P (.cond c x y) Q a w :=
  fun b k cs hk hro => let ⟨e, a', w', q, r⟩ := h b k cs hk hro; ⟨e, a', w', q, .of_steps (.one wcalm (stepR_cond hc)) r⟩

theorem NIn.block {id : Nat} {c : Code} (h : NIn P c (Exit.inBlock id Q) a w) : NIn P (.block id c) Q a w := by
  intro b k cs hk hro
  have h0 : (lone (b.atR a (.code (.block id c) :: k)) cs w).fenced P Fence.wide := wcalm
  obtain ⟨e, a₁, w₁, hq, harr⟩ := h b (.inBlock id :: k) cs hk hro
  cases e with
  | normal => exact ⟨.normal, a₁, w₁, hq, .head h0 stepR_block (StepsIn.trans harr (.one wcalm stepR_inBlock))⟩
  | exit id' =>
    by_cases hid : id' = id
    · simp only [Exit.inBlock, hid, if_true] at hq
      exact ⟨.normal, a₁, w₁, hq, .head h0 stepR_block (harr.1 k (by simp [exitTo, hid]))⟩
    · simp only [Exit.inBlock, hid, if_false] at hq
      have this : (id == id') = false := by simp; exact fun h => hid h.symm
      have hx : exitTo id' (.inBlock id :: k) = exitTo id' k := by simp [exitTo, this]
      exact ⟨.exit id', a₁, w₁, hq, fun k' hk => .head h0 stepR_block (harr.1 k' (by rw [hx]; exact hk)),
        fun hr' hk => let ⟨k₁, h1, h2⟩ := harr.2 hr' (by rw [hx]; exact hk); ⟨k₁, h1, .head h0 stepR_block h2⟩⟩
  | goto l =>
    have hx : gotoIn l (.inBlock id :: k) = gotoIn l k := by simp [gotoIn]
    exact ⟨_, a₁, w₁, hq, fun k' hk => .head h0 stepR_block (harr.1 k' (by rw [hx]; exact hk)),
      fun hr' hk => let ⟨k₁, h1, h2⟩ := harr.2 hr' (by rw [hx]; exact hk); ⟨k₁, h1, .head h0 stepR_block h2⟩⟩
  | _ => exact ⟨_, a₁, w₁, hq, .of_steps (.one h0 stepR_block) harr⟩

theorem NIn.loop {c : Code} (m : Nat) (h : NRounds P c Q m a w) : NIn P (.loop c) Q a w := by
  intro b k cs hk hro
  have key : ∀ m a w, NRounds P c Q m a w → ∃ e a' w', Q e a' w' ∧ ArrivesIn (Machine.fenced P Fence.wide) P (lone (b.atR a (.code c :: .inLoop c :: k)) cs w) b k cs e a' w' := by
    intro m
    induction m with
    | zero => intro a w h; exact h.elim
    | succ m ih =>
      intro a w h
      obtain ⟨e, a₁, w₁, hq, harr⟩ := h b (.inLoop c :: k) cs hk hro
      cases e with
      | normal =>
        obtain ⟨e₂, a₂, w₂, hq₂, harr₂⟩ := ih a₁ w₁ hq
        exact ⟨e₂, a₂, w₂, hq₂, .of_steps (StepsIn.trans harr (.one wcalm stepR_inLoop)) harr₂⟩
      | _ => exact ⟨_, a₁, w₁, hq, .pass (x := .inLoop c) rfl (fun _ _ => .inl (by simp)) harr⟩
  obtain ⟨e, a', w', hq, harr⟩ := key m a w h
  exact ⟨e, a', w', hq, .of_steps (.one wcalm stepR_loop) harr⟩

theorem NRounds.mono' {c : Code} {Q' : Exit → Act → World → Prop} (hq : ∀ e a w, Q e a w → Q' e a w) : ∀ (m : Nat) (a : Act) (w : World), NRounds P c Q m a w → NRounds P c Q' m a w
  | 0, _, _, h => h.elim
  | m + 1, a, w, h => NIn.mono h (fun e a' w' q => by
      cases e with
      | normal => exact NRounds.mono' hq m a' w' q
      | _ => exact hq _ _ _ q)

/-- the region's first operation is a communication that goes through at once -/
theorem NIn.region_comm {id : Nat} {ops : Array Oper} {o : Oper} {v : Value} {w1 w2 : World} {cases : Array CommCase} (ho : ops[0]? = some o) (hw : Region.wanted o (yielded ops a.tmps) = true) (hnd : ∀ c, o.op ≠ .defer c)
    (hr : (execOp a.eval o).run P w = .ok (.comm cases false .select) w1)
    (hstep : ∀ (fr : Frame) (cs : List Frame) (es : Array Event), stepG P true (G fr cs) w = .comm (G fr cs) cases false .select w1 es → step P (solo (G fr cs) w) = .next (solo (G (fr.finish v) cs) w2))
    (h : wpOpsIn Fence.wide 0 P ops Q (List.range' 1 (ops.size - 1)) (a.put o.dst v) w2) : NIn P (.region id ops false) Q a w := by
  intro b k cs hk hro
  obtain ⟨e, a', w', hq, harr⟩ := wp_opsIn _ _ _ h b k cs hro trivial (room_wide _)
  refine ⟨e, a', w', hq, .of_steps (.one wcalm stepR_region) ?_⟩
  have hsz : 0 < ops.size := (Array.getElem?_eq_some_iff.1 ho).1
  have hl : List.range ops.size = 0 :: List.range' 1 (ops.size - 1) := by
    rw [List.range_eq_range']
    obtain ⟨m, hm⟩ : ∃ m, ops.size = m + 1 := ⟨ops.size - 1, by omega⟩
    rw [hm, List.range'_succ]
    rfl
  rw [hl]
  have hg := stepGR_op (P := P) (b := b) (k := k) (cs := cs) (w := w) (rest := List.range' 1 (ops.size - 1)) ho hw
  rw [Oper.semAt_eq _ _ _ hnd] at hg
  have hfin : (b.atR a (.inRegion ops (0 :: List.range' 1 (ops.size - 1)) :: k)).finish v = b.atR (a.put o.dst v) (.inRegion ops (List.range' 1 (ops.size - 1)) :: k) := by
    rw [Frame.finish_atR, ho]; rfl
  have hkk : (b.kind == CallKind.early) = false := by rw [hk]; rfl
  have hc : ∃ es, stepG P true (G (b.atR a (.inRegion ops (0 :: List.range' 1 (ops.size - 1)) :: k)) cs) w = .comm (G (b.atR a (.inRegion ops (0 :: List.range' 1 (ops.size - 1)) :: k)) cs) cases false .select w1 es := by
    unfold G
    rw [hg]
    simp only [stepG.apply, Sem.runT_eq, hr]
    simp [Frame.atR, hkk]
    exact ⟨_, rfl⟩
  obtain ⟨es, hc⟩ := hc
  have hs := hstep _ cs es hc
  rw [hfin] at hs
  exact .of_steps (.one wcalm hs) harr

end

theorem Sim.chan {sz0 : TypeId → Nat} {ι : Inj} {s : St} {w : World} (hs : Sim sz0 ι s.h w) {x cap n r : Nat} {buf : List Value} (hx : s.h.get x = some (.chan cap buf n r)) {L : Loc} (hL : ι x = some L) :
    L.sh = 0 ∧ ∃ buf', w.heap[L.b]? = some (.chan cap buf' false n r false) ∧ LR ι buf buf'.toList := by
  obtain ⟨L', o, a, b, h0, buf', rfl, h⟩ := hs.obj x _ hx
  rw [hL] at a; cases a
  exact ⟨h0, buf', b, h⟩

theorem Sim.setChan {sz0 : TypeId → Nat} {ι : Inj} {s : St} {w : World} (hs : Sim sz0 ι s.h w) {x cap n r : Nat} {buf : List Value} (hx : s.h.get x = some (.chan cap buf n r)) (hn : x + 1 < 2 ^ 64) {L : Loc} (hL : ι x = some L)
    {buf2 : List Value} {buf2' : Array Value} (hb : LR ι buf2 buf2'.toList) (n2 r2 : Nat) : Tran sz0 ι s w ι ⟨s.h.set 64 x (some (.chan cap buf2 n2 r2)), s.n⟩ (w.setChan L.b cap buf2' false n2 r2 false) := by
  obtain ⟨h0, buf', b, _⟩ := hs.chan hx hL
  exact hs.put (by rw [hx]; rfl) hn hL ⟨h0, _, rfl, hb⟩ (keepNot b (fun _ _ _ h => by cases h))

theorem LR.cons_inv {ι : Inj} {v : Value} {l l' : List Value} (h : LR ι (v :: l) l') : ∃ v' m, l' = v' :: m ∧ VR ι v v' ∧ LR ι l m := by
  cases l' with
  | nil => have := h.1; simp at this
  | cons v' m => exact ⟨v', m, rfl, h.2 0 v v' rfl rfl, by have := h.1; simpa using this, fun i a b x y => h.2 (i + 1) a b (by simpa using x) (by simpa using y)⟩

/-- the select, one step of the machine's -/
theorem selOp_ok (hS : SigOK S P) {a : AAct} {a' : Act} {o : Oper} {v : Value} {s s' : St} {r k : Nat} {ι : Inj} {w : World} (h : selOp S a o s = some (v, s', r, k)) (hs : Sim P.cellsOf ι s.h w) (har : AR ι a a') :
    (∀ c, o.op ≠ .defer c) ∧ ∃ cases v' w2, (execOp a'.eval o).run P w = .ok (.comm cases false .select) w ∧ Tran P.cellsOf ι s w ι s' w2 ∧ VR ι v v' ∧
      ∀ (fr : Frame) (cs : List Frame) (es : Array Event), stepG P true (G fr cs) w = .comm (G fr cs) cases false .select w es → step P (solo (G fr cs) w) = .next (solo (G (fr.finish v') cs) w2) := by
  unfold selOp at h
  generalize hop : o.op = op at h
  split at h
  · rename_i cs
    generalize hcs : cs.toList = cl at h
    split at h
    · rename_i c
      obtain ⟨ch, _, _, _, _, _, k1, h1⟩ := M.bind_some h; clear h
      obtain ⟨rfl, hch⟩ := aeval_ok har k1 hs
      obtain ⟨sd, _, _, _, _, _, k2, h2⟩ := M.bind_some h1; clear h1
      obtain ⟨rfl, hsd⟩ := aevalO_ok har k2 hs
      obtain ⟨⟨size, bytes, zv⟩, _, _, e1, h3⟩ := bind_lift h2; clear h2
      obtain ⟨_, _, hpl, h4⟩ := bind_guard h3; clear h3
      obtain ⟨ti, f1, f2, f3, f4⟩ := hS.inf _ _ _ _ e1
      have hzv : (zeroValue c.elem).run P w = .ok zv w := by simp [zeroValue, typeInfo, f1, f4]
      refine ⟨fun _ h => (by cases h), ?_⟩
      have hcs' : cs = #[c] := by rw [← Array.toList_inj, hcs]
      subst hcs'
      have hrun : ∀ (ch' : Value) (sd' : Option Value), a'.eval c.chan = ch' → c.send.map a'.eval = sd' → (execOp a'.eval o).run P w = .ok (.comm #[{ chan := ch', send := sd', zero := zv }] false .select) w := by
        intro ch' sd' g1 g2
        simp only [execOp, hop, Sem.run_bind, Array.mapM_eq_mapM_toList]
        simp [hzv, g1, g2]
      split at h4
      · rename_i x
        obtain ⟨ob, _, _, e2, _, h5⟩ := bind_getO h4; clear h4
        split at h5
        · rename_i cap buf n r0
          generalize hcv : a'.eval c.chan = ch' at hch
          cases hch with
          | chan _ L hL =>
          obtain ⟨h0, buf', hb, hlr⟩ := hs.chan e2 hL
          have hlen : buf'.size = buf.length := by rw [← Array.length_toList]; exact hlr.1
          generalize hsv : c.send.map a'.eval = sd' at hsd
          have hr := hrun _ _ hcv hsv
          cases sd with
          | some u =>
            cases sd' with
            | none => exact hsd.elim
            | some u' =>
              cases hroom : Nat.blt buf.length cap with
              | true =>
                rw [hroom] at h5; simp only [cond_true] at h5
                obtain ⟨_, _, _, _, e3, h6⟩ := bind_setO h5
                obtain ⟨rfl, rfl⟩ := M.pure_some h6
                refine ⟨_, .tuple #[goInt 0, .bool false], _, hr, hs.setChan e2 e3 hL (buf2 := buf ++ [u]) (buf2' := buf'.push u') (by simpa using hlr.append (LR.cons hsd LR.nil)) (n + 1) r0, (VR.int _ _).tuple2 (.bool _), fun fr cs es hc => ?_⟩
                exact step_lone_select_send_room (c := L.b) (z' := zv) (v := u') hc hb (by rw [hlen]; simpa [Nat.blt_eq] using hroom)
              | false =>
                rw [hroom] at h5; simp only [cond_false] at h5
                obtain ⟨rfl, rfl⟩ := M.pure_some h5
                refine ⟨_, .tuple #[goInt (-1), .bool false], _, hr, Tran.refl hs, (VR.int _ _).tuple2 (.bool _), fun fr cs es hc => ?_⟩
                have : ¬ buf.length < cap := by
                  intro c; rw [← Nat.blt_eq] at c; rw [c] at hroom; cases hroom
                exact step_lone_select_send_full (c := L.b) (z' := zv) (v := u') hc hb (by rw [hlen]; omega)
          | none =>
            cases sd' with
            | some _ => exact hsd.elim
            | none =>
              simp only at h5
              cases buf with
              | cons u bs =>
                simp only at h5
                obtain ⟨_, _, _, _, e3, h6⟩ := bind_setO h5
                obtain ⟨rfl, rfl⟩ := M.pure_some h6
                obtain ⟨u', m, hm, hu, hl⟩ := hlr.cons_inv
                have hbuf : buf' = (u' :: m).toArray := by rw [← Array.toList_inj, hm]
                subst hbuf
                refine ⟨_, .tuple #[goInt 0, .bool true, u'], _, hr, hs.setChan e2 e3 hL (buf2 := bs) (buf2' := m.toArray) hl n (r0 + 1), VR.tupleL (l := [_, _, _]) (l' := [_, _, _]) (LR.cons (.int _ _) (LR.cons (.bool _) (LR.cons hu LR.nil))), fun fr cs es hc => ?_⟩
                have := step_lone_select_recv_buf (c := L.b) (z := zv) hc hb (by simp)
                simpa using this
              | nil =>
                simp only at h5
                obtain ⟨rfl, rfl⟩ := M.pure_some h5
                have hbuf : buf' = #[] := by
                  rw [← Array.size_eq_zero_iff, hlen]; rfl
                subst hbuf
                refine ⟨_, .tuple #[goInt (-1), .bool false, zv], _, hr, Tran.refl hs, VR.tupleL (l := [_, _, _]) (l' := [_, _, _]) (LR.cons (.int _ _) (LR.cons (.bool _) (LR.cons (VR.plain_refl hpl) LR.nil))), fun fr cs es hc => ?_⟩
                exact step_lone_select_default (c := L.b) (z := zv) hc hb
        · simp [M.fail] at h5
      · simp [M.fail] at h4
    · simp [M.fail] at h
  · simp [M.fail] at h

/-- a region that may begin with a select, sound -/
theorem evListN_ok (hS : SigOK S P) {call : Env} (hcl : Env.Loc call) (hc : CallOK P call) {ops : Array Oper} {id : Nat} {a : AAct} {x : ACtl × AAct} {s s' : St} {r k : Nat} {ι : Inj} {w : World} {a' : Act}
    (h : evListN P S call ops a s = some (x, s', r, k)) (hs : Sim P.cellsOf ι s.h w) (hf : Free ι s.n s'.n) (har : AR ι a a') : NIn P (.region id ops false) (CodePost P ι s w s' x.1 x.2) a' w := by
  have hplain : ∀ {r k : Nat}, evList P S call ops ops.toList a s = some (x, s', r, k) → NIn P (.region id ops false) (CodePost P ι s w s' x.1 x.2) a' w := fun h =>
    NIn.of_wp (evRegion_ok hS (ro := none) (.inl rfl) hcl hc h hs hf har)
  unfold evListN at h
  generalize hl : ops.toList = l at h
  cases l with
  | nil =>
    refine hplain (r := r) (k := k) ?_
    rw [hl]
    exact h
  | cons o os =>
    simp only at h
    cases hsel : isSel o with
    | false =>
      rw [hsel] at h; simp only [cond_false] at h
      refine hplain (r := r) (k := k) ?_
      rw [hl]; exact h
    | true =>
      rw [hsel] at h; simp only [cond_true] at h
      obtain ⟨v, s1, _, _, _, _, k1, k2⟩ := M.bind_some h; clear h
      obtain ⟨b, _, _, e1, h1⟩ := bind_lift k2; clear k2
      obtain ⟨hnd, cases, v', w2, hr, t, hv, hstep⟩ := selOp_ok hS k1 hs har
      have ho : ops[0]? = some o := by rw [← Array.getElem?_toList, hl]; rfl
      have hg : o.guard = none := by
        unfold isSel at hsel
        split at hsel
        · cases hgu : o.guard with
          | none => rfl
          | some _ => rw [hgu] at hsel; cases hsel
        · cases hsel
      have hw : Region.wanted o (yielded ops a'.tmps) = true := by simp [Region.wanted, hg]
      have hlen : ops.size - 1 = os.length := by rw [← Array.length_toList, hl]; simp
      refine NIn.region_comm ho hw hnd hr hstep ?_
      rw [hlen]
      exact evList_ok hS (ro := none) (.inl rfl) hcl hc (i := 1) h1 (fun j => by
        rw [← Array.getElem?_toList, hl, Nat.add_comm 1 j]
        rfl) t (t.free hf) (aput_ok (har.mono t.ext) hv e1)

/-- a call of a function in which a select may stand: after 'callsIn_of_wp_marks' -/
theorem callsIn_of_NIn {f : FuncId} {fn : Func} {c : Code} {args : Array Value} {w : World} {R : Ending → World → Prop} (hf : P.funcs[f]? = some fn) (hb : fn.body = some c)
    (h : NIn P c (bodyPostM Fence.wide 0 P fn R) { tmps := args ++ Array.replicate (fn.ntmps - args.size) undef, defers := [] } w) : CallsIn Fence.wide 0 P f args w R := by
  refine ⟨trivial, fun cs _ => ?_⟩
  let b : Frame := { (default : Frame) with fn := f, kind := .normal, roundOf := none }
  have henter : Frame.enter P f args .normal = b.atR { tmps := args ++ Array.replicate (fn.ntmps - args.size) undef, defers := [] } [.code c] := by
    simp [Frame.enter, Frame.atR, hf, hb, b]
  obtain ⟨e, a', w', hq, harr⟩ := h b [] cs rfl rfl
  rw [← henter] at harr
  cases e with
  | normal =>
    obtain ⟨e', w'', fr', hR, hs, hfn, hl⟩ := leaves_stepsInM a'.defers .returning w' { b.atR a' [] with mode := .returning } cs rfl rfl rfl hf rfl trivial (room_wide _) hq
    exact ⟨e', w'', fr', hR, ComesIn.of_steps (StepsIn.trans harr (.one wcalm (stepR_end rfl))) hs, hfn, hl⟩
  | ret =>
    obtain ⟨todo, hs₀⟩ := harr.1 rfl
    obtain ⟨e', w'', fr', hR, hs, hfn, hl⟩ := leaves_stepsInM a'.defers .returning w' { b.atR a' todo with mode := .returning } cs rfl rfl rfl hf rfl trivial (room_wide _) hq
    exact ⟨e', w'', fr', hR, ComesIn.of_steps hs₀ hs, hfn, hl⟩
  | panic chain =>
    obtain ⟨todo, hs₀⟩ := harr
    obtain ⟨e', w'', fr', hR, hs, hfn, hl⟩ := leaves_stepsInM a'.defers (.panicking chain) w' { b.atR a' todo with mode := .panicking chain } cs rfl rfl rfl hf rfl trivial (room_wide _) hq
    exact ⟨e', w'', fr', hR, ComesIn.of_steps hs₀ hs, hfn, hl⟩
  | exit id => exact hq.elim
  | goto l => exact hq.elim
  | outgrown => exact ⟨.outgrown, w', b, hq, harr.resolve_left (by simp [b]), rfl, trivial⟩

end Go.Ai
/- The abstract evaluator, part 26: the evaluator is sound. -/
namespace Go.Ai

variable {P : Program} {S : Sig} {orc : FuncId → List Value → Option (M AEnd)}

/-- What is asked of the summaries that are given from outside. -/
structure OrcOK (P : Program) (orc : FuncId → List Value → Option (M AEnd)) : Prop where
  loc : ∀ f args m, orc f args = some m → M.Local m
  ok : ∀ f args m, orc f args = some m → ∀ s e s' r k ι w (args' : Array Value), m s = some (e, s', r, k) → Sim P.cellsOf ι s.h w → Free ι s.n s'.n → LR ι args args'.toList →
    CallsIn Fence.wide 0 P f args' w (CallPost P ι s w s' e)

theorem and_of {a b : Bool} (h : (a && b) = true) : a = true ∧ b = true := by simpa using h
theorem roundOK_region {id : Nat} {ops : Array Oper} {d : Bool} (h : roundOK (.region id ops d) = true) : ∀ (j : Nat) (o : Oper), ops[j]? = some o → notDefer o = true := fun j o ho =>
  List.all_eq_true.1 h o (by have := Array.mem_of_getElem? ho; simpa using this)
theorem roundEnd_local {y st : Nat} {pd : Option Code} {b : Bool} : M.Local (roundEnd y st pd b) := by
  unfold roundEnd
  refine M.Local.bind (M.Local.getO _) (fun _ => ?_)
  split
  · exact M.Local.bind (M.Local.setO _ _) fun _ => M.Local.pure _
  · exact M.Local.fail

theorem sound_code (hS : SigOK S P) (hm : P.follows .mixedOrders = true) (ho : OrcOK P orc) {n : Nat} (ih : Sound P S orc n) :
    ∀ ro c a x s s' r k ι w a', (ro = none ∨ roundOK c = true) → evCode P S orc (n + 1) c a s = some (x, s', r, k) → Sim P.cellsOf ι s.h w → Free ι s.n s'.n → AR ι a a' → c.wpIn (fen ro) 0 P (CodePost P ι s w s' x.1 x.2) a' w := by
  intro ro c a x s s' r k ι w a' hro h hs hf har
  have hloc := locals (P := P) (S := S) ho.loc n
  unfold evCode at h
  cases c with
  | skip =>
    obtain ⟨rfl, rfl⟩ := M.pure_some h
    exact wpIn_skip ⟨ι, Tran.refl hs, trivial, har⟩
  | label l =>
    obtain ⟨rfl, rfl⟩ := M.pure_some h
    exact wpIn_label ⟨ι, Tran.refl hs, trivial, har⟩
  | exit id =>
    obtain ⟨rfl, rfl⟩ := M.pure_some h
    exact wpIn_exit ⟨ι, Tran.refl hs, rfl, har⟩
  | ret =>
    obtain ⟨rfl, rfl⟩ := M.pure_some h
    exact wpIn_ret ⟨ι, Tran.refl hs, trivial, har⟩
  | region id ops d =>
    cases d with
    | true =>
      simp only [cond_true] at h
      obtain ⟨b, s1, _, _, _, _, k1, k2⟩ := M.bind_some h; clear h
      obtain ⟨rfl, rfl⟩ := M.pure_some k2
      exact evDraw_ok hS (hro.imp (fun h => h) (fun h => roundOK_region h)) ⟨hloc.call, hloc.round⟩ ih.call hm k1 hs hf har (fun ι' a'' w' t har' => ⟨ι', t, trivial, har'⟩)
    | false =>
      simp only [cond_false] at h
      exact evRegion_ok hS (hro.imp (fun h => h) (fun h => roundOK_region h)) ⟨hloc.call, hloc.round⟩ ih.call h hs hf har
  | seq p q =>
    simp only at h
    obtain ⟨y, s1, _, _, _, _, k1, k2⟩ := M.bind_some h; clear h
    obtain ⟨c, b⟩ := y
    have hle : s1.n ≤ s'.n := by
      cases c with
      | normal => exact (hloc.code _ _).le k2
      | _ => obtain ⟨_, rfl⟩ := M.pure_some k2; exact Nat.le_refl _
    refine wpIn_seq (wpIn_mono (ih.code ro p a _ s s1 _ _ ι w a' (hro.imp (fun h => h) (fun h => (and_of h).1)) k1 hs (hf.left hle) har) (fun e a1 w1 hp => ?_))
    obtain ⟨ι1, t1, hc, har1⟩ := hp
    cases c with
    | normal =>
      cases e with
      | normal => exact wpIn_mono (ih.code ro q b x s1 s' _ _ ι1 w1 a1 (hro.imp (fun h => h) (fun h => (and_of h).2)) k2 t1.sim (t1.free hf) har1) (fun e a2 w2 hp => CodePost.trans t1 hp)
      | _ => exact hc.elim
    | exit i =>
      obtain ⟨rfl, rfl⟩ := M.pure_some k2
      cases e with
      | exit j => exact ⟨ι1, t1, hc, har1⟩
      | _ => exact hc.elim
    | ret =>
      obtain ⟨rfl, rfl⟩ := M.pure_some k2
      cases e with
      | ret => exact ⟨ι1, t1, hc, har1⟩
      | _ => exact hc.elim
    | panic ch =>
      obtain ⟨rfl, rfl⟩ := M.pure_some k2
      cases e with
      | panic ch' => exact ⟨ι1, t1, hc, har1⟩
      | _ => exact hc.elim
  | cond v p q =>
    simp only at h
    obtain ⟨y, s1, _, _, _, _, k1, k2⟩ := M.bind_some h; clear h
    obtain ⟨rfl, hv⟩ := aeval_ok har k1 hs
    split at k2
    · rename_i t
      generalize hev : a'.eval v = v' at hv
      cases hv
      refine wpIn_cond hev ?_
      cases t with
      | true => exact ih.code ro p a x s1 s' _ _ ι w a' (hro.imp (fun h => h) (fun h => (and_of h).1)) k2 hs hf har
      | false => exact ih.code ro q a x s1 s' _ _ ι w a' (hro.imp (fun h => h) (fun h => (and_of h).2)) k2 hs hf har
    · simp [M.fail] at k2
  | block id b =>
    simp only at h
    obtain ⟨y, s1, _, _, _, _, k1, k2⟩ := M.bind_some h; clear h
    obtain ⟨c, b1⟩ := y
    have key : ∀ {x' : ACtl × AAct}, x = x' → s' = s1 → (∀ ι' e a'' w'', Tran P.cellsOf ι s w ι' s1 w'' → CtlR ι' c e → AR ι' b1 a'' → Exit.inBlock id (CodePost P ι s w s1 x'.1 x'.2) e a'' w'') →
        (Code.block id b).wpIn (fen ro) 0 P (CodePost P ι s w s' x.1 x.2) a' w := by
      intro x' e1 e2 hq
      subst e1; subst e2
      exact wpIn_block (wpIn_mono (ih.code ro b a _ s s' _ _ ι w a' (hro.imp (fun h => h) (fun h => h)) k1 hs hf har) (fun e a1 w1 hp => by
        obtain ⟨ι1, t1, hc, har1⟩ := hp
        exact hq ι1 e a1 w1 t1 hc har1))
    cases c with
    | normal =>
      obtain ⟨e1, e2⟩ := M.pure_some k2
      refine key e1 e2 (fun ι' e a'' w'' t hc har' => ?_)
      cases e with
      | normal => exact ⟨ι', t, trivial, har'⟩
      | _ => exact hc.elim
    | exit i =>
      simp only at k2
      cases hi : Nat.beq i id with
      | true =>
        rw [hi] at k2
        obtain ⟨e1, e2⟩ := M.pure_some k2
        refine key e1 e2 (fun ι' e a'' w'' t hc har' => ?_)
        cases e with
        | exit j =>
          have hj : j = i := hc
          have := Nat.eq_of_beq_eq_true hi
          subst hj; subst this
          simp only [Exit.inBlock, if_true]
          exact ⟨ι', t, trivial, har'⟩
        | _ => exact hc.elim
      | false =>
        rw [hi] at k2
        obtain ⟨e1, e2⟩ := M.pure_some k2
        refine key e1 e2 (fun ι' e a'' w'' t hc har' => ?_)
        cases e with
        | exit j =>
          have hj : j = i := hc
          subst hj
          have hne : ¬ j = id := by
            rintro rfl
            rw [Nat.beq_refl] at hi; cases hi
          simp only [Exit.inBlock, hne, if_false]
          exact ⟨ι', t, rfl, har'⟩
        | _ => exact hc.elim
    | ret =>
      obtain ⟨e1, e2⟩ := M.pure_some k2
      refine key e1 e2 (fun ι' e a'' w'' t hc har' => ?_)
      cases e with
      | ret => exact ⟨ι', t, hc, har'⟩
      | _ => exact hc.elim
    | panic ch =>
      obtain ⟨e1, e2⟩ := M.pure_some k2
      refine key e1 e2 (fun ι' e a'' w'' t hc har' => ?_)
      cases e with
      | panic ch' => exact ⟨ι', t, hc, har'⟩
      | _ => exact hc.elim
  | loop b =>
    simp only at h
    obtain ⟨y, s1, _, _, _, _, k1, k2⟩ := M.bind_some h; clear h
    obtain ⟨c, b1⟩ := y
    have hle : s1.n ≤ s'.n := by
      cases c with
      | normal => exact (hloc.code _ _).le k2
      | _ => obtain ⟨_, rfl⟩ := M.pure_some k2; exact Nat.le_refl _
    refine wpIn_loop_rounds (n + 1) (wpIn_mono (ih.code ro b a _ s s1 _ _ ι w a' (hro.imp (fun h => h) (fun h => h)) k1 hs (hf.left hle) har) (fun e a1 w1 hp => ?_))
    obtain ⟨ι1, t1, hc, har1⟩ := hp
    cases c with
    | normal =>
      cases e with
      | normal => exact roundsIn_mono' (fun e a2 w2 hp => CodePost.trans t1 hp) n a1 w1 (ih.loop ro b b1 x s1 s' _ _ ι1 w1 a1 (hro.imp (fun h => h) (fun h => h)) k2 t1.sim (t1.free hf) har1)
      | _ => exact hc.elim
    | exit i =>
      obtain ⟨rfl, rfl⟩ := M.pure_some k2
      cases e with
      | exit j => exact ⟨ι1, t1, hc, har1⟩
      | _ => exact hc.elim
    | ret =>
      obtain ⟨rfl, rfl⟩ := M.pure_some k2
      cases e with
      | ret => exact ⟨ι1, t1, hc, har1⟩
      | _ => exact hc.elim
    | panic ch =>
      obtain ⟨rfl, rfl⟩ := M.pure_some k2
      cases e with
      | panic ch' => exact ⟨ι1, t1, hc, har1⟩
      | _ => exact hc.elim
  | scope b =>
    simp only at h
    have hro0 : ro = none := hro.resolve_right (by simp [roundOK])
    subst hro0
    refine wpIn_wide.2 (wp_scope_straight (wpIn_wide.1 (wpIn_mono (ih.code none b a x s s' _ _ ι w a' (.inl rfl) h hs hf har) (fun e a1 w1 hp => ?_))))
    cases e with
    | goto l =>
      obtain ⟨_, _, hc, _⟩ := hp
      revert hc
      cases x.1 <;> exact fun h => h.elim
    | _ => exact hp
  | rangeFunc g ps assign body =>
    simp only at h
    have hro0 : ro = none := hro.resolve_right (by simp [roundOK])
    subst hro0
    obtain ⟨y, s1, _, _, _, _, k1, k2⟩ := M.bind_some h; clear h
    obtain ⟨rfl, hv⟩ := aeval_ok har k1 hs
    split at k2
    · exact rangeFunc_ok hS (call := ⟨evCall P S orc n, evRound P S orc n⟩) ⟨hloc.call, hloc.round⟩ ih.call hv k2 hs hf har
    · simp [M.fail] at k2
  | _ => simp [M.fail] at h

theorem sound_loop (ho : OrcOK P orc) {n : Nat} (ih : Sound P S orc n) :
    ∀ ro c a x s s' r k ι w a', (ro = none ∨ roundOK c = true) → evCode P S orc (n + 1) (.loop c) a s = some (x, s', r, k) → Sim P.cellsOf ι s.h w → Free ι s.n s'.n → AR ι a a' → Code.roundsIn (fen ro) 0 P c (CodePost P ι s w s' x.1 x.2) (n + 1) a' w := by
  intro ro b a x s s' r k ι w a' hro h hs hf har
  have hloc := locals (P := P) (S := S) ho.loc n
  unfold evCode at h
  simp only at h
  obtain ⟨y, s1, _, _, _, _, k1, k2⟩ := M.bind_some h; clear h
  obtain ⟨c, b1⟩ := y
  have hle : s1.n ≤ s'.n := by
    cases c with
    | normal => exact (hloc.code _ _).le k2
    | _ => obtain ⟨_, rfl⟩ := M.pure_some k2; exact Nat.le_refl _
  refine (wpIn_mono (ih.code ro b a _ s s1 _ _ ι w a' hro k1 hs (hf.left hle) har) (fun e a1 w1 hp => ?_))
  obtain ⟨ι1, t1, hc, har1⟩ := hp
  cases c with
  | normal =>
    cases e with
    | normal => exact roundsIn_mono' (fun e a2 w2 hp => CodePost.trans t1 hp) n a1 w1 (ih.loop ro b b1 x s1 s' _ _ ι1 w1 a1 hro k2 t1.sim (t1.free hf) har1)
    | _ => exact hc.elim
  | exit i =>
    obtain ⟨rfl, rfl⟩ := M.pure_some k2
    cases e with
    | exit j => exact ⟨ι1, t1, hc, har1⟩
    | _ => exact hc.elim
  | ret =>
    obtain ⟨rfl, rfl⟩ := M.pure_some k2
    cases e with
    | ret => exact ⟨ι1, t1, hc, har1⟩
    | _ => exact hc.elim
  | panic ch =>
    obtain ⟨rfl, rfl⟩ := M.pure_some k2
    cases e with
    | panic ch' => exact ⟨ι1, t1, hc, har1⟩
    | _ => exact hc.elim

theorem sound_codeN (hS : SigOK S P) (ho : OrcOK P orc) {n : Nat} (ih : Sound P S orc n) :
    ∀ c a x s s' r k ι w a', evCodeN P S orc (n + 1) c a s = some (x, s', r, k) → Sim P.cellsOf ι s.h w → Free ι s.n s'.n → AR ι a a' → NIn P c (CodePost P ι s w s' x.1 x.2) a' w := by
  intro c a x s s' r k ι w a' h hs hf har
  have hloc := locals (P := P) (S := S) ho.loc n
  unfold evCodeN at h
  cases c with
  | region id ops d =>
    cases d with
    | true =>
      simp only [cond_true] at h
      exact NIn.of_wp (ih.code none _ a x s s' r k ι w a' (.inl rfl) h hs hf har)
    | false =>
      simp only [cond_false] at h
      exact evListN_ok hS ⟨hloc.call, hloc.round⟩ ih.call h hs hf har
  | seq p q =>
    simp only at h
    obtain ⟨y, s1, _, _, _, _, k1, k2⟩ := M.bind_some h; clear h
    obtain ⟨c, b⟩ := y
    have hle : s1.n ≤ s'.n := by
      cases c with
      | normal => exact (hloc.codeN _ _).le k2
      | _ => obtain ⟨_, rfl⟩ := M.pure_some k2; exact Nat.le_refl _
    refine NIn.seq (NIn.mono (ih.codeN p a _ s s1 _ _ ι w a' k1 hs (hf.left hle) har) (fun e a1 w1 hp => ?_))
    obtain ⟨ι1, t1, hc, har1⟩ := hp
    cases c with
    | normal =>
      cases e with
      | normal => exact NIn.mono (ih.codeN q b x s1 s' _ _ ι1 w1 a1 k2 t1.sim (t1.free hf) har1) (fun e a2 w2 hp => CodePost.trans t1 hp)
      | _ => exact hc.elim
    | exit i =>
      obtain ⟨rfl, rfl⟩ := M.pure_some k2
      cases e with
      | exit j => exact ⟨ι1, t1, hc, har1⟩
      | _ => exact hc.elim
    | ret =>
      obtain ⟨rfl, rfl⟩ := M.pure_some k2
      cases e with
      | ret => exact ⟨ι1, t1, hc, har1⟩
      | _ => exact hc.elim
    | panic ch =>
      obtain ⟨rfl, rfl⟩ := M.pure_some k2
      cases e with
      | panic ch' => exact ⟨ι1, t1, hc, har1⟩
      | _ => exact hc.elim
  | cond v p q =>
    simp only at h
    obtain ⟨y, s1, _, _, _, _, k1, k2⟩ := M.bind_some h; clear h
    obtain ⟨rfl, hv⟩ := aeval_ok har k1 hs
    split at k2
    · rename_i t
      generalize hev : a'.eval v = v' at hv
      cases hv
      refine NIn.cond hev ?_
      cases t with
      | true => exact ih.codeN p a x s1 s' _ _ ι w a' k2 hs hf har
      | false => exact ih.codeN q a x s1 s' _ _ ι w a' k2 hs hf har
    · simp [M.fail] at k2
  | block id b =>
    simp only at h
    obtain ⟨y, s1, _, _, _, _, k1, k2⟩ := M.bind_some h; clear h
    obtain ⟨c, b1⟩ := y
    have key : ∀ {x' : ACtl × AAct}, x = x' → s' = s1 → (∀ ι' e a'' w'', Tran P.cellsOf ι s w ι' s1 w'' → CtlR ι' c e → AR ι' b1 a'' → Exit.inBlock id (CodePost P ι s w s1 x'.1 x'.2) e a'' w'') →
        NIn P (Code.block id b) (CodePost P ι s w s' x.1 x.2) a' w := by
      intro x' e1 e2 hq
      subst e1; subst e2
      exact NIn.block (NIn.mono (ih.codeN b a _ s s' _ _ ι w a' k1 hs hf har) (fun e a1 w1 hp => by
        obtain ⟨ι1, t1, hc, har1⟩ := hp
        exact hq ι1 e a1 w1 t1 hc har1))
    cases c with
    | normal =>
      obtain ⟨e1, e2⟩ := M.pure_some k2
      refine key e1 e2 (fun ι' e a'' w'' t hc har' => ?_)
      cases e with
      | normal => exact ⟨ι', t, trivial, har'⟩
      | _ => exact hc.elim
    | exit i =>
      simp only at k2
      cases hi : Nat.beq i id with
      | true =>
        rw [hi] at k2
        obtain ⟨e1, e2⟩ := M.pure_some k2
        refine key e1 e2 (fun ι' e a'' w'' t hc har' => ?_)
        cases e with
        | exit j =>
          have hj : j = i := hc
          have := Nat.eq_of_beq_eq_true hi
          subst hj; subst this
          simp only [Exit.inBlock, if_true]
          exact ⟨ι', t, trivial, har'⟩
        | _ => exact hc.elim
      | false =>
        rw [hi] at k2
        obtain ⟨e1, e2⟩ := M.pure_some k2
        refine key e1 e2 (fun ι' e a'' w'' t hc har' => ?_)
        cases e with
        | exit j =>
          have hj : j = i := hc
          subst hj
          have hne : ¬ j = id := by
            rintro rfl
            rw [Nat.beq_refl] at hi; cases hi
          simp only [Exit.inBlock, hne, if_false]
          exact ⟨ι', t, rfl, har'⟩
        | _ => exact hc.elim
    | ret =>
      obtain ⟨e1, e2⟩ := M.pure_some k2
      refine key e1 e2 (fun ι' e a'' w'' t hc har' => ?_)
      cases e with
      | ret => exact ⟨ι', t, hc, har'⟩
      | _ => exact hc.elim
    | panic ch =>
      obtain ⟨e1, e2⟩ := M.pure_some k2
      refine key e1 e2 (fun ι' e a'' w'' t hc har' => ?_)
      cases e with
      | panic ch' => exact ⟨ι', t, hc, har'⟩
      | _ => exact hc.elim
  | loop b =>
    simp only at h
    obtain ⟨y, s1, _, _, _, _, k1, k2⟩ := M.bind_some h; clear h
    obtain ⟨c, b1⟩ := y
    have hle : s1.n ≤ s'.n := by
      cases c with
      | normal => exact (hloc.codeN _ _).le k2
      | _ => obtain ⟨_, rfl⟩ := M.pure_some k2; exact Nat.le_refl _
    refine NIn.loop (n + 1) (NIn.mono (ih.codeN b a _ s s1 _ _ ι w a' k1 hs (hf.left hle) har) (fun e a1 w1 hp => ?_))
    obtain ⟨ι1, t1, hc, har1⟩ := hp
    cases c with
    | normal =>
      cases e with
      | normal => exact NRounds.mono' (fun e a2 w2 hp => CodePost.trans t1 hp) n a1 w1 (ih.loopN b b1 x s1 s' _ _ ι1 w1 a1 k2 t1.sim (t1.free hf) har1)
      | _ => exact hc.elim
    | exit i =>
      obtain ⟨rfl, rfl⟩ := M.pure_some k2
      cases e with
      | exit j => exact ⟨ι1, t1, hc, har1⟩
      | _ => exact hc.elim
    | ret =>
      obtain ⟨rfl, rfl⟩ := M.pure_some k2
      cases e with
      | ret => exact ⟨ι1, t1, hc, har1⟩
      | _ => exact hc.elim
    | panic ch =>
      obtain ⟨rfl, rfl⟩ := M.pure_some k2
      cases e with
      | panic ch' => exact ⟨ι1, t1, hc, har1⟩
      | _ => exact hc.elim
  | _ => exact NIn.of_wp (ih.code none _ a x s s' r k ι w a' (.inl rfl) h hs hf har)

theorem sound_loopN (ho : OrcOK P orc) {n : Nat} (ih : Sound P S orc n) :
    ∀ c a x s s' r k ι w a', evCodeN P S orc (n + 1) (.loop c) a s = some (x, s', r, k) → Sim P.cellsOf ι s.h w → Free ι s.n s'.n → AR ι a a' → NRounds P c (CodePost P ι s w s' x.1 x.2) (n + 1) a' w := by
  intro b a x s s' r k ι w a' h hs hf har
  have hloc := locals (P := P) (S := S) ho.loc n
  unfold evCodeN at h
  simp only at h
  obtain ⟨y, s1, _, _, _, _, k1, k2⟩ := M.bind_some h; clear h
  obtain ⟨c, b1⟩ := y
  have hle : s1.n ≤ s'.n := by
    cases c with
    | normal => exact (hloc.codeN _ _).le k2
    | _ => obtain ⟨_, rfl⟩ := M.pure_some k2; exact Nat.le_refl _
  refine (NIn.mono (ih.codeN b a _ s s1 _ _ ι w a' k1 hs (hf.left hle) har) (fun e a1 w1 hp => ?_))
  obtain ⟨ι1, t1, hc, har1⟩ := hp
  cases c with
  | normal =>
    cases e with
    | normal => exact NRounds.mono' (fun e a2 w2 hp => CodePost.trans t1 hp) n a1 w1 (ih.loopN b b1 x s1 s' _ _ ι1 w1 a1 k2 t1.sim (t1.free hf) har1)
    | _ => exact hc.elim
  | exit i =>
    obtain ⟨rfl, rfl⟩ := M.pure_some k2
    cases e with
    | exit j => exact ⟨ι1, t1, hc, har1⟩
    | _ => exact hc.elim
  | ret =>
    obtain ⟨rfl, rfl⟩ := M.pure_some k2
    cases e with
    | ret => exact ⟨ι1, t1, hc, har1⟩
    | _ => exact hc.elim
  | panic ch =>
    obtain ⟨rfl, rfl⟩ := M.pure_some k2
    cases e with
    | panic ch' => exact ⟨ι1, t1, hc, har1⟩
    | _ => exact hc.elim

theorem sound_round (ho : OrcOK P orc) {n : Nat} (ih : Sound P S orc n) : ∀ y args s v s' r k ι w (L : Loc) (q : Loop) (args' : Array Value), evRound P S orc (n + 1) y args s = some (v, s', r, k) →
    Sim P.cellsOf ι s.h w → Free ι s.n s'.n → ι y = some L → w.heap[L.b]? = some (.loop q) → args'.size = q.params.size → LR ι args args'.toList →
    RoundIn Fence.wide 0 P L.b q.fn ((q.params.zip args').foldl (fun tmps (t, a) => tmps.setIfInBounds t a) q.tmps) q.assign q.body w (RoundPost P ι s w s' v) := by
  intro y args s v s' r k ι w L q args' h hs hf hL hq hsz ha
  have hloc := locals (P := P) (S := S) ho.loc n
  unfold evRound at h
  obtain ⟨o, _, _, e1, _, h1⟩ := bind_getO h; clear h
  split at h1
  · rename_i t sz ps asg body st0 pd0
    obtain ⟨_, _, e2, h2⟩ := bind_guard h1; clear h1
    simp only [Bool.and_eq_true] at e2
    obtain ⟨⟨⟨g1, g2⟩, g3⟩, g4⟩ := e2
    obtain ⟨_, q0, b1, b2, b3, b4, b5, _⟩ := hs.loop e1 hL
    rw [hq] at b1; cases b1
    subst b3; subst b4; subst b5
    obtain ⟨⟨c1, a1⟩, s1, _, _, _, _, k1, k2⟩ := M.bind_some h2; clear h2
    refine roundIn_of_wpIn trivial ?_
    have htm : (q.params.zip args').foldl (fun tmps (x : Nat × Value) => tmps.setIfInBounds x.1 x.2) q.tmps = (q.params.toList.zip args'.toList).foldl (fun tmps (x : Nat × Value) => tmps.setIfInBounds x.1 x.2) q.tmps := by
      rw [← Array.toList_zip, Array.foldl_toList]
    have hT := setArgs_ok b2 g2 ha
    rw [← htm] at hT
    have har0 : AR ι ⟨setArgs q.params.toList args t, sz, []⟩ { tmps := (q.params.zip args').foldl (fun tmps (x : Nat × Value) => tmps.setIfInBounds x.1 x.2) q.tmps, defers := [] } :=
      ⟨hT.1, hT.2, rfl, fun i d d' hd => by simp at hd⟩
    cases c1 with
    | normal =>
      simp only at k2
      obtain ⟨o2, _, _, e3, _, h3⟩ := bind_getO k2; clear k2
      split at h3
      · rename_i t2 sz2 ps2 asg2 body2 st2 pd2
        obtain ⟨_, _, e4, h4⟩ := bind_guard h3; clear h3
        obtain ⟨_, _, _, _, e5, h5⟩ := bind_setO h4; clear h4
        obtain ⟨⟨c2, a2⟩, s3, _, _, _, _, k3, k4⟩ := M.bind_some h5; clear h5
        have hst2 : st2 = 0 := Nat.eq_of_beq_eq_true e4
        subst hst2
        have hle3 : s3.n ≤ s'.n := by
          cases c2 with
          | normal => exact roundEnd_local.le k4
          | ret => exact roundEnd_local.le k4
          | exit i => exact roundEnd_local.le k4
          | panic ch => simp [M.fail] at k4
        have hle1 : s1.n ≤ s3.n := by
          have := (hloc.code q.body a1).le k3
          exact this
        refine wpIn_mono (ih.code (some L.b) q.assign _ _ s s1 _ _ ι w _ (.inr g3) k1 hs (hf.left (Nat.le_trans hle1 hle3)) har0) (fun e a'' w1 hp => ?_)
        obtain ⟨ι1, t1, hc1, har1⟩ := hp
        cases e with
        | normal =>
          have hL1 := t1.ext _ _ hL
          obtain ⟨_, q1, d1, d2, d3, d4, d5, d6, d7⟩ := t1.sim.loop e3 hL1
          have hbr := run_beginRound (P := P) d1 d6
          have t2 := t1.sim.setLoop e3 e5 hL1 d1 1 pd2 (q' := { q1 with state := .busy }) (by rw [← d7]; rfl)
          have t12 := t1.trans t2
          refine ⟨_, hbr, wpIn_mono (ih.code (some L.b) q.body a1 _ _ s3 _ _ ι1 _ a'' (.inr g4) k3 t12.sim ((t12.free hf).left hle3) har1) (fun e a3 w3 hp => ?_)⟩
          obtain ⟨ι3, t3, hc3, har3⟩ := hp
          have t123 := t12.trans t3
          have hL3 := t3.ext _ _ hL1
          have fin : ∀ {st : Nat} {pd : Option Code} {b : Bool} {r k : Nat}, roundEnd y st pd b s3 = some (v, s', r, k) → st = (if pd.isNone then 0 else 2) → b = pd.isNone → ∃ u w', (Instr.endRound L.b pd).run P w3 = .ok u w' ∧ RoundPost P ι s w s' v (.returned u) w' := by
            intro st pd b r k hr h1 h2
            obtain ⟨w', f1, f2, f3⟩ := roundEnd_ok hr t123.sim hL3 h1 h2
            exact ⟨_, w', f1, _, ι3, rfl, t123.trans f3, by rw [f2]; exact .bool b⟩
          cases c2 with
          | normal =>
            cases e with
            | normal => exact fin k4 rfl rfl
            | _ => exact hc3.elim
          | ret =>
            cases e with
            | ret => exact fin k4 rfl rfl
            | _ => exact hc3.elim
          | exit i =>
            cases e with
            | exit j =>
              have hj : j = i := hc3
              subst hj
              exact fin k4 rfl rfl
            | _ => exact hc3.elim
          | panic ch => simp [M.fail] at k4
        | _ => exact hc1.elim
      · simp [M.fail] at h3
    | _ => simp [M.fail] at k2
  · simp [M.fail] at h1

theorem sound_codeD (hS : SigOK S P) (ho : OrcOK P orc) {n : Nat} (ih : Sound P S orc n) :
    ∀ c a u x s s' r k ι w a' (c₀ : Frame) cs u', evCodeD P S orc (n + 1) c a u s = some (x, s', r, k) → Sim P.cellsOf ι s.h w → Free ι s.n s'.n → AR ι a a' → ModeR ι u u' →
    c.wpSIn Fence.wide 0 P (fun e a'' cs' w'' => ∃ ι' u'', cs' = { c₀ with mode := u'' } :: cs ∧ Tran P.cellsOf ι s w ι' s' w'' ∧ CtlR ι' x.1 e ∧ AR ι' x.2.1 a'' ∧ ModeR ι' x.2.2 u'') a' ({ c₀ with mode := u' } :: cs) w := by
  intro c a u x s s' r k ι w a' c₀ cs u' h hs hf har hu
  have hloc := locals (P := P) (S := S) ho.loc n
  have plain : ∀ {c : Code}, (M.bind (evCode P S orc n c a) fun r => M.pure (r.1, r.2, u)) s = some (x, s', r, k) →
      c.wpSIn Fence.wide 0 P (fun e a'' cs' w'' => ∃ ι' u'', cs' = { c₀ with mode := u'' } :: cs ∧ Tran P.cellsOf ι s w ι' s' w'' ∧ CtlR ι' x.1 e ∧ AR ι' x.2.1 a'' ∧ ModeR ι' x.2.2 u'') a' ({ c₀ with mode := u' } :: cs) w := by
    intro c h
    obtain ⟨y, s1, _, _, _, _, k1, k2⟩ := M.bind_some h
    obtain ⟨rfl, rfl⟩ := M.pure_some k2
    refine wpSIn_of_wpIn rfl (wpIn_mono (ih.code none c a y s s' _ _ ι w a' (.inl rfl) k1 hs hf har) (fun e a1 w1 hp => ?_))
    obtain ⟨ι1, t1, hc, har1⟩ := hp
    exact ⟨ι1, u', rfl, t1, hc, har1, hu.mono t1.ext⟩
  unfold evCodeD at h
  cases c with
  | seq p q =>
    simp only at h
    obtain ⟨y, s1, _, _, _, _, k1, k2⟩ := M.bind_some h; clear h
    obtain ⟨c, b, u1⟩ := y
    have hle : s1.n ≤ s'.n := by
      cases c with
      | normal => exact (hloc.codeD _ _ _).le k2
      | _ => obtain ⟨_, rfl⟩ := M.pure_some k2; exact Nat.le_refl _
    refine wpSIn_seq (wpSIn_mono' (ih.codeD p a u _ s s1 _ _ ι w a' c₀ cs u' k1 hs (hf.left hle) har hu) (fun e a1 cs1 w1 hp => ?_))
    obtain ⟨ι1, u2, rfl, t1, hc, har1, hu1⟩ := hp
    cases c with
    | normal =>
      cases e with
      | normal =>
        refine wpSIn_mono' (ih.codeD q b u1 x s1 s' _ _ ι1 w1 a1 c₀ cs u2 k2 t1.sim (t1.free hf) har1 hu1) (fun e a2 cs2 w2 hp => ?_)
        obtain ⟨ι2, u3, h1, t2, h3, h4, h5⟩ := hp
        exact ⟨ι2, u3, h1, t1.trans t2, h3, h4, h5⟩
      | _ => exact hc.elim
    | exit i =>
      obtain ⟨rfl, rfl⟩ := M.pure_some k2
      cases e with
      | exit j => exact ⟨ι1, u2, rfl, t1, hc, har1, hu1⟩
      | _ => exact hc.elim
    | ret =>
      obtain ⟨rfl, rfl⟩ := M.pure_some k2
      cases e with
      | ret => exact ⟨ι1, u2, rfl, t1, hc, har1, hu1⟩
      | _ => exact hc.elim
    | panic ch =>
      obtain ⟨rfl, rfl⟩ := M.pure_some k2
      cases e with
      | panic ch' => exact ⟨ι1, u2, rfl, t1, hc, har1, hu1⟩
      | _ => exact hc.elim
  | cond v p q =>
    simp only at h
    obtain ⟨y, s1, _, _, _, _, k1, k2⟩ := M.bind_some h; clear h
    obtain ⟨rfl, hv⟩ := aeval_ok har k1 hs
    split at k2
    · rename_i t
      generalize hev : a'.eval v = v' at hv
      cases hv
      refine wpSIn_cond hev ?_
      cases t with
      | true => exact ih.codeD p a u x s1 s' _ _ ι w a' c₀ cs u' k2 hs hf har hu
      | false => exact ih.codeD q a u x s1 s' _ _ ι w a' c₀ cs u' k2 hs hf har hu
    · simp [M.fail] at k2
  | region id ops d =>
    simp only at h
    cases hb : (!d && hasRecover ops.toList) with
    | false => rw [hb] at h; exact plain h
    | true =>
      rw [hb] at h; simp only [cond_true] at h
      simp only [Bool.and_eq_true, Bool.not_eq_true'] at hb
      obtain ⟨rfl, _⟩ := hb
      refine LSIn.region ?_
      rw [List.range_eq_range', ← Array.length_toList]
      exact evListD_ok hS ⟨hloc.call, hloc.round⟩ ih.call h (fun j => by simp) (Tran.refl hs) hf har hu
  | _ => exact plain h

theorem sound_call (hS : SigOK S P) (ho : OrcOK P orc) {n : Nat} (ih : Sound P S orc n) : ∀ f args s e s' r k ι w (args' : Array Value), evCall P S orc (n + 1) f args s = some (e, s', r, k) →
    Sim P.cellsOf ι s.h w → Free ι s.n s'.n → LR ι args args'.toList → CallsIn Fence.wide 0 P f args' w (CallPost P ι s w s' e) := by
  intro f args s e s' r k ι w args' h hs hf ha
  have hloc := locals (P := P) (S := S) ho.loc n
  unfold evCall at h
  cases hor : orc f args with
  | some m =>
    rw [hor] at h
    exact ho.ok f args m hor s e s' r k ι w args' h hs hf ha
  | none =>
    rw [hor] at h
    simp only at h
    obtain ⟨fn, _, _, e1, h1⟩ := bind_lift h; clear h
    obtain ⟨body, _, _, e2, h2⟩ := bind_lift h1; clear h1
    obtain ⟨y, s1, _, _, _, _, k1, k2⟩ := M.bind_some h2; clear h2
    obtain ⟨c, b⟩ := y
    have hfn := hS.fns _ _ e1
    have hle : s1.n ≤ s'.n := by
      cases c with
      | normal => exact (hloc.leave _ _ _ _).le k2
      | ret => exact (hloc.leave _ _ _ _).le k2
      | panic ch => exact (hloc.leave _ _ _ _).le k2
      | exit id => simp [M.fail] at k2
    have hN : NIn P body (CodePost P ι s w s1 c b) { tmps := args' ++ Array.replicate (fn.ntmps - args'.size) undef, defers := [] } w := by
      generalize hsl : S.sel.get f = sl at k1
      cases sl with
      | some _ => exact ih.codeN body _ _ s s1 _ _ ι w _ k1 hs (hf.left hle) (initAct_ok ha)
      | none => exact NIn.of_wp (ih.code none body _ _ s s1 _ _ ι w _ (.inl rfl) k1 hs (hf.left hle) (initAct_ok ha))
    refine callsIn_of_NIn hfn e2 (NIn.mono hN (fun ex a1 w1 hp => ?_))
    obtain ⟨ι1, t1, hc, har1⟩ := hp
    cases c with
    | normal =>
      cases ex with
      | normal => exact ih.leave fn b b.d .returning e s1 s' _ _ ι1 w1 a1 a1.defers .returning ι s w k2 t1 (t1.free hf) har1 har1.defs trivial
      | _ => exact hc.elim
    | ret =>
      cases ex with
      | ret => exact ih.leave fn b b.d .returning e s1 s' _ _ ι1 w1 a1 a1.defers .returning ι s w k2 t1 (t1.free hf) har1 har1.defs trivial
      | _ => exact hc.elim
    | panic ch =>
      cases ex with
      | panic ch' => exact ih.leave fn b b.d (.panicking ch) e s1 s' _ _ ι1 w1 a1 a1.defers (.panicking ch') ι s w k2 t1 (t1.free hf) har1 har1.defs hc
      | _ => exact hc.elim
    | exit id => simp [M.fail] at k2

theorem modeR_run {ι : Inj} {u : AMode} {u' : FrameMode} (h : ModeR ι u u') : u' ≠ .run := by
  rintro rfl
  cases u <;> exact h.elim

theorem sound_leave (hS : SigOK S P) (ho : OrcOK P orc) {n : Nat} (ih : Sound P S orc n) :
    ∀ fn a ds u e s s' r k ι w a' ds' u' ι0 s0 w0, evLeave P S orc (n + 1) fn a ds u s = some (e, s', r, k) → Tran P.cellsOf ι0 s0 w0 ι s w → Free ι s.n s'.n → AR ι a a' → DefsR ι ds ds' → ModeR ι u u' →
    LeavesInM Fence.wide 0 P fn a'.tmps (CallPost P ι0 s0 w0 s' e) ds' u' w := by
  intro fn a ds u e s s' r k ι w a' ds' u' ι0 s0 w0 h t0 hf har hd hu
  have hloc := locals (P := P) (S := S) ho.loc n
  unfold evLeave at h
  cases ds with
  | nil =>
    have : ds' = [] := by have := hd.1; simpa using this
    subst this
    cases u with
    | returning =>
      cases u' with
      | returning =>
        simp only at h
        obtain ⟨v, s1, _, _, _, _, k1, k2⟩ := M.bind_some h; clear h
        obtain ⟨rfl, v', h1, h2⟩ := aresults_ok hS har k1 t0.sim
        obtain ⟨rfl, rfl⟩ := M.pure_some k2
        exact ⟨v', h1, ι, t0, h2⟩
      | _ => exact hu.elim
    | panicking ch =>
      cases u' with
      | panicking ch' =>
        obtain ⟨rfl, rfl⟩ := M.pure_some h
        exact ⟨ι, t0, hu⟩
      | _ => exact hu.elim
  | cons d ds =>
    obtain ⟨d', ds'', rfl⟩ : ∃ d' ds'', ds' = d' :: ds'' := by
      cases ds' with
      | nil => have := hd.1; simp at this
      | cons d' ds'' => exact ⟨d', ds'', rfl⟩
    have hd0 : DefR ι d d' := hd.2 0 d d' rfl rfl
    have hds : DefsR ι ds ds'' := ⟨by have := hd.1; simpa using this, fun i x x' a b => hd.2 (i + 1) x x' (by simpa using a) (by simpa using b)⟩
    refine ⟨modeR_run hu, ?_⟩
    cases d with
    | mark r =>
      simp only at h
      obtain ⟨L, hL, rfl⟩ := hd0
      obtain ⟨o, s1, _, _, _, _, k1, k2⟩ := M.bind_some h; clear h
      obtain ⟨g1, rfl, g2⟩ := M.getO_some k1
      cases o with
      | dfr =>
        simp only at k2
        obtain ⟨_, s2, _, _, _, _, k3, k4⟩ := M.bind_some k2; clear k2
        obtain ⟨rfl, hr⟩ := M.delO_some k3
        obtain ⟨L', o', b1, b2, b3, rfl⟩ := t0.sim.obj _ _ g1
        rw [hL] at b1; cases b1
        have td := t0.sim.drop r hr
        have tp := td.poke (b := L.b) (.deferred none) (.inr ⟨r, L, by rw [g1]; rfl, hL, rfl⟩) (fun x Lx hx hLx e => by
          have hne : x ≠ r := by
            rintro rfl
            simp only at hx
            rw [Tr.get_set_same _ _ _ _ hr] at hx; cases hx
          simp only at hx
          rw [Tr.get_set_other _ _ _ _ _ hne] at hx
          exact hne (t0.sim.inj x r Lx L hx (by rw [g1]; rfl) hLx hL e)) (keepNot b2 (fun _ _ _ h => by cases h))
        have ht0 := t0.trans tp
        refine .inl ⟨L.b, wput w L.b (.deferred none), rfl, ?_, ih.leave fn a ds u e _ s' _ _ ι _ a' ds'' u' ι0 s0 w0 k4 ht0 hf har hds hu⟩
        have hg : (getObj L.b).run P w = .ok _ w := run_getObj rfl b2
        have hst : ∀ o2, (setObj L.b o2).run P w = .ok () (wput w L.b o2) := fun o2 => run_setObj rfl b2
        simp only [Instr.takeDeferred, Sem.run_bind, hg, Result.andThen_ok]
        simp [hst]
      | _ => simp [M.fail] at k2
    | call d =>
      simp only at h
      obtain ⟨cap', args', h1, h2, h3, h4, h5⟩ := hd0
      obtain ⟨nx, s1, _, _, _, _, k1, k2⟩ := M.bind_some h; clear h
      obtain ⟨tgt, dargs⟩ := d'
      simp only at h1 h2
      subst h1; subst h2
      obtain ⟨rfl, f, as, as', rfl, hinv, has⟩ := ainvoke_at hS k1 (w := w) h4 h5
      simp only at k2
      obtain ⟨y, s2, _, _, _, _, k3, k4⟩ := M.bind_some k2; clear k2
      obtain ⟨en, u1⟩ := y
      have hle : s2.n ≤ s'.n := by
        cases en with
        | ret v => exact (hloc.leave _ _ _ _).le k4
        | panic ch => exact (hloc.leave _ _ _ _).le k4
      refine .inr ⟨wide_depth, d.fn, cap', f, as', rfl, hinv, fun _ _ => trivial, ?_⟩
      refine callsDIn_mono' (ih.callD f as u _ s1 s2 _ _ ι w as' u' k3 t0.sim (hf.left hle) has hu) (fun en' u2 w2 hp => ?_)
      obtain ⟨ι1, t1, hen, hu1⟩ := hp
      have t01 := t0.trans t1
      cases en with
      | ret v =>
        cases en' with
        | returned v' => exact ih.leave fn a ds _ e s2 s' _ _ ι1 w2 a' ds'' _ ι0 s0 w0 k4 t01 (t1.free hf) (har.mono t1.ext) ⟨hds.1, fun i x x' p q => (hds.2 i x x' p q).mono t1.ext⟩ (settle_ok hu1)
        | _ => exact hen.elim
      | panic ch =>
        cases en' with
        | panicked ch' => exact ih.leave fn a ds _ e s2 s' _ _ ι1 w2 a' ds'' _ ι0 s0 w0 k4 t01 (t1.free hf) (har.mono t1.ext) ⟨hds.1, fun i x x' p q => (hds.2 i x x' p q).mono t1.ext⟩ (raised_ok hu1 hen)
        | _ => exact hen.elim

theorem sound_callD (hS : SigOK S P) {n : Nat} (ih : Sound P S orc n) :
    ∀ f args u x s s' r k ι w (args' : Array Value) u', evCallD P S orc (n + 1) f args u s = some (x, s', r, k) → Sim P.cellsOf ι s.h w → Free ι s.n s'.n → LR ι args args'.toList → ModeR ι u u' →
    CallsDIn Fence.wide 0 P f args' u' w (CallDPost P ι s w s' x) := by
  intro f args u x s s' r k ι w args' u' h hs hf ha hu
  unfold evCallD at h
  obtain ⟨fn, _, _, e1, h1⟩ := bind_lift h; clear h
  obtain ⟨body, _, _, e2, h2⟩ := bind_lift h1; clear h1
  obtain ⟨y, s1, _, _, _, _, k1, k2⟩ := M.bind_some h2; clear h2
  obtain ⟨_, _, e3, k3⟩ := bind_guard k2; clear k2
  obtain ⟨c, b, u1⟩ := y
  simp only at e3 k3
  have hb : b.d = [] := by simpa using e3
  have hfn := hS.fns _ _ e1
  refine callsDIn_of_wpSIn hfn e2 trivial (fun c₀ cs hc => ?_)
  have hc0 : ({ c₀ with mode := u' } : Frame) = c₀ := by cases c₀; simp only at hc; subst hc; rfl
  have hle : s1.n ≤ s'.n := by
    cases c with
    | normal => obtain ⟨v, s2, _, _, _, _, k4, k5⟩ := M.bind_some k3; obtain ⟨_, rfl⟩ := M.pure_some k5; exact aresults_local.le k4
    | ret => obtain ⟨v, s2, _, _, _, _, k4, k5⟩ := M.bind_some k3; obtain ⟨_, rfl⟩ := M.pure_some k5; exact aresults_local.le k4
    | panic ch => obtain ⟨_, rfl⟩ := M.pure_some k3; exact Nat.le_refl _
    | exit id => simp [M.fail] at k3
  have hw := ih.codeD body _ u _ s s1 _ _ ι w _ c₀ cs u' k1 hs (hf.left hle) (initAct_ok (fn := fn) ha) hu
  rw [hc0] at hw
  refine wpSIn_mono' hw (fun ex a1 cs1 w1 hp => ?_)
  obtain ⟨ι1, u2, hcs, t1, hct, har1, hu1⟩ := hp
  have hdef : a1.defers = [] := by have := har1.defs.1; simp only at this; rw [hb] at this; simpa using this
  have fin : ∀ {v : Value} {s2 : St} {r2 k2 : Nat}, aresults S fn b s1 = some (v, s2, r2, k2) → x = (.ret v, u1) → s' = s2 →
      ∃ v', (results fn a1.tmps).run P w1 = .ok v' w1 ∧ CallDPost P ι s w s' x (.returned v') u2 w1 := by
    intro v s2 r2 k2 hres hx hs2
    obtain ⟨rfl, v', q1, q2⟩ := aresults_ok hS har1 hres t1.sim
    subst hx; subst hs2
    exact ⟨v', q1, ι1, t1, q2, hu1⟩
  cases c with
  | normal =>
    cases ex with
    | normal =>
      obtain ⟨v, s2, _, _, _, _, k4, k5⟩ := M.bind_some k3
      obtain ⟨e4, e5⟩ := M.pure_some k5
      obtain ⟨v', q1, q2⟩ := fin k4 e4 e5
      exact ⟨hdef, u2, hcs, v', q1, q2⟩
    | _ => exact hct.elim
  | ret =>
    cases ex with
    | ret =>
      obtain ⟨v, s2, _, _, _, _, k4, k5⟩ := M.bind_some k3
      obtain ⟨e4, e5⟩ := M.pure_some k5
      obtain ⟨v', q1, q2⟩ := fin k4 e4 e5
      exact ⟨hdef, u2, hcs, v', q1, q2⟩
    | _ => exact hct.elim
  | panic ch =>
    cases ex with
    | panic ch' =>
      obtain ⟨rfl, rfl⟩ := M.pure_some k3
      exact ⟨hdef, u2, hcs, ι1, t1, hct, hu1⟩
    | _ => exact hct.elim
  | exit id => simp [M.fail] at k3

theorem sound (hS : SigOK S P) (hm : P.follows .mixedOrders = true) (ho : OrcOK P orc) : ∀ n, Sound P S orc n
  | 0 => {
      code := fun _ _ _ _ _ _ _ _ _ _ _ _ h => by unfold evCode at h; simp [M.fail] at h
      loop := fun _ _ _ _ _ _ _ _ _ _ _ _ h => by unfold evCode at h; simp [M.fail] at h
      codeN := fun _ _ _ _ _ _ _ _ _ _ h => by unfold evCodeN at h; simp [M.fail] at h
      loopN := fun _ _ _ _ _ _ _ _ _ _ h => by unfold evCodeN at h; simp [M.fail] at h
      codeD := fun _ _ _ _ _ _ _ _ _ _ _ _ _ _ h => by unfold evCodeD at h; simp [M.fail] at h
      call := ⟨fun _ _ _ _ _ _ _ _ _ _ h => by simp only at h; unfold evCall at h; simp [M.fail] at h, fun _ _ _ _ _ _ _ _ _ _ _ _ h => by simp only at h; unfold evRound at h; simp [M.fail] at h⟩
      leave := fun _ _ _ _ _ _ _ _ _ _ _ _ _ _ _ _ _ h => by unfold evLeave at h; simp [M.fail] at h
      callD := fun _ _ _ _ _ _ _ _ _ _ _ _ h => by unfold evCallD at h; simp [M.fail] at h }
  | n + 1 =>
    have ih := sound hS hm ho n
    ⟨sound_code hS hm ho ih, sound_loop ho ih, sound_codeN hS ho ih, sound_loopN ho ih, sound_codeD hS ho ih, ⟨sound_call hS ho ih, sound_round ho ih⟩, sound_leave hS ho ih, sound_callD hS ih⟩

end Go.Ai
/- The abstract evaluator, part 27: calls that were worked out once. -/
namespace Go.Ai

variable {P : Program} {S : Sig}

def eqFlat (a b : Value) : Bool :=
  match a, b with
  | .int k (.ofNat m), .int k' (.ofNat n) => Nat.beq (knum k) (knum k') && Nat.beq m n
  | .bool x, .bool y => bif x then y else not y
  | _, _ => false
theorem eqFlat_ok {a b : Value} (h : eqFlat a b = true) : a = b ∧ flat a = true := by
  unfold eqFlat at h
  split at h
  · simp only [Bool.and_eq_true] at h
    rw [knum_inj h.1, Nat.eq_of_beq_eq_true h.2]
    exact ⟨rfl, rfl⟩
  · rename_i x y
    cases x <;> cases y <;> first | exact ⟨rfl, rfl⟩ | cases h
  · cases h

def eqFlats : List Value → List Value → Bool
  | [], [] => true
  | a :: l, b :: m => eqFlat a b && eqFlats l m
  | _, _ => false
theorem eqFlats_ok : ∀ {l m : List Value}, eqFlats l m = true → l = m ∧ l.all flat = true
  | [], [], _ => ⟨rfl, rfl⟩
  | a :: l, b :: m, h => by
    simp only [eqFlats, Bool.and_eq_true] at h
    obtain ⟨h1, h2⟩ := eqFlat_ok h.1
    obtain ⟨h3, h4⟩ := eqFlats_ok h.2
    rw [h1, h3]
    exact ⟨rfl, by rw [List.all_cons, ← h1, ← h3, h2, h4]; rfl⟩
  | [], _ :: _, h => by simp [eqFlats] at h
  | _ :: _, [], h => by simp [eqFlats] at h

def eqVal (a b : Value) : Bool :=
  match a, b with
  | .agg x, .agg y => eqFlats x.toList y.toList
  | a, b => eqFlat a b
theorem eqVal_ok {a b : Value} (h : eqVal a b = true) : a = b ∧ plain a = true := by
  unfold eqVal at h
  split at h
  · rename_i x y
    obtain ⟨h1, h2⟩ := eqFlats_ok h
    rw [Array.toList_inj.1 h1] at h2 ⊢
    exact ⟨rfl, h2⟩
  · obtain ⟨h1, h2⟩ := eqFlat_ok h
    refine ⟨h1, ?_⟩
    cases a <;> first | exact h2 | (simp [flat] at h2)

def eqObj (a b : AObj) : Bool :=
  match a, b with
  | .cells l e true, .cells l' e' true => eqFlats l l' && Nat.beq e e'
  | _, _ => false
theorem eqObj_ok {a b : AObj} (h : eqObj a b = true) : a = b ∧ ∃ l e, a = .cells l e true ∧ l.all flat = true := by
  unfold eqObj at h
  split at h
  · rename_i l e l' e'
    simp only [Bool.and_eq_true] at h
    obtain ⟨h1, h2⟩ := eqFlats_ok h.1
    have h3 := Nat.eq_of_beq_eq_true h.2
    subst h1; subst h3
    exact ⟨rfl, l, e, rfl, h2⟩
  · cases h

noncomputable def memoM : List (Nat × AObj) → Value → M AEnd
  | [], v => M.pure (.ret v)
  | p :: l, v => M.bind (M.getO p.1) fun o => M.bind (M.guard (eqObj o p.2)) fun _ => memoM l v

theorem memoM_local : ∀ {l : List (Nat × AObj)} {v : Value}, M.Local (memoM l v)
  | [], _ => M.Local.pure _
  | _ :: _, _ => M.Local.bind (M.Local.getO _) fun _ => M.Local.bind (M.Local.guard _) fun _ => memoM_local

theorem memoM_some : ∀ {l : List (Nat × AObj)} {v : Value} {e : AEnd} {s s' : St} {r k : Nat}, memoM l v s = some (e, s', r, k) → s' = s ∧ e = .ret v ∧ ∀ p ∈ l, s.h.get p.1 = some p.2 ∧ ∃ c t, p.2 = .cells c t true ∧ c.all flat = true
  | [], v, e, s, s', r, k, h => by
    obtain ⟨rfl, rfl⟩ := M.pure_some h
    exact ⟨rfl, rfl, fun p hp => by cases hp⟩
  | p :: l, v, e, s, s', r, k, h => by
    unfold memoM at h
    obtain ⟨o, _, _, e1, _, h1⟩ := bind_getO h; clear h
    obtain ⟨_, _, e2, h2⟩ := bind_guard h1; clear h1
    obtain ⟨rfl, rfl, h3⟩ := memoM_some h2
    obtain ⟨e3, c, t, e4, e5⟩ := eqObj_ok e2
    refine ⟨rfl, rfl, fun q hq => ?_⟩
    rcases List.mem_cons.1 hq with rfl | hq
    · rw [← e3]; exact ⟨e1, c, t, e4, e5⟩
    · exact h3 q hq

noncomputable def preTr : List (Nat × AObj) → Tr AObj
  | [] => .leaf
  | p :: l => (preTr l).set 64 p.1 (some p.2)

theorem preTr_get : ∀ {l : List (Nat × AObj)}, (∀ p ∈ l, p.1 < 64) → ∀ {x : Nat} {o : AObj}, (preTr l).get x = some o → (x, o) ∈ l
  | [], _, x, o, h => by simp [preTr, Tr.get_leaf] at h
  | p :: l, hl, x, o, h => by
    unfold preTr at h
    by_cases e : x = p.1
    · subst e
      have : p.1 < 64 := hl p (by simp)
      rw [Tr.get_set_same _ _ _ _ (by omega)] at h
      cases h
      simp
    · rw [Tr.get_set_other _ _ _ _ _ e] at h
      exact List.mem_cons_of_mem _ (preTr_get (fun q hq => hl q (List.mem_cons_of_mem _ hq)) h)

/-- the look at what was worked out -/
noncomputable def memoChk (pre : List (Nat × AObj)) (v : Value) (res : Option (AEnd × St × Nat × Nat)) : Bool :=
  match res with
  | some (.ret u, st, _, _) => eqVal u v && pre.all fun p => match st.h.get p.1 with | some o => eqObj o p.2 | none => false
  | _ => false

theorem OR.flat {sz : TypeId → Nat} {ι ι' : Inj} {L : Loc} {l : List Value} {e : TypeId} {o : Obj} (hf : l.all Ai.flat = true) (h : OR sz ι L (.cells l e true) o) : OR sz ι' L (.cells l e true) o := by
  obtain ⟨c, fr, h1, h2, h3, h4⟩ := h
  refine ⟨c, fr, h1, h2, fun i v hv => ?_, h4⟩
  obtain ⟨v', a, b⟩ := h3 i v hv
  have hfl := List.all_eq_true.1 hf v (List.mem_of_getElem? hv)
  rw [b.flat_eq hfl] at a
  exact ⟨v, a, VR.flat_refl hfl⟩

/-- A call that was worked out on the given variables alone answers so wherever these stand as they stood. -/
theorem memo_ok (hS : SigOK S P) (hm : P.follows .mixedOrders = true) {orc : FuncId → List Value → Option (M AEnd)} (ho : OrcOK P orc) {N : Nat} {pre : List (Nat × AObj)} (hpre : ∀ p ∈ pre, p.1 < 64) {f : FuncId} {args : List Value} (hargs : args.all flat = true) {v : Value}
    (h : memoChk pre v (evCall P S orc N f args ⟨preTr pre, 64⟩) = true) {e : AEnd} {s s' : St} {r k : Nat} {ι : Inj} {w : World} {args' : Array Value}
    (hmm : memoM pre v s = some (e, s', r, k)) (hs : Sim P.cellsOf ι s.h w) (ha : LR ι args args'.toList) : CallsIn Fence.wide 0 P f args' w (CallPost P ι s w s' e) := by
  obtain ⟨rfl, rfl, hp⟩ := memoM_some hmm
  unfold memoChk at h
  split at h
  · rename_i u st r1 w1 hev
    simp only [Bool.and_eq_true] at h
    obtain ⟨rfl, hpl⟩ := eqVal_ok h.1
    have hall := List.all_eq_true.1 h.2
    -- the given variables alone
    let ι' : Inj := fun x => if x < 64 then ι x else none
    have hlt : ∀ {x : Nat} {o : AObj}, (preTr pre).get x = some o → x < 64 ∧ s'.h.get x = some o ∧ st.h.get x = some o ∧ ∃ l e, o = .cells l e true ∧ l.all flat = true := by
      intro x o hx
      have hmem := preTr_get hpre hx
      have h1 := hall _ hmem
      simp only at h1
      obtain ⟨g1, c, t, g2, g3⟩ := hp _ hmem
      simp only at g1 g2
      refine ⟨hpre _ hmem, g1, ?_, c, t, g2, g3⟩
      cases hst : st.h.get x with
      | none => rw [hst] at h1; cases h1
      | some o2 => rw [hst] at h1; rw [(eqObj_ok h1).1]
    have hs0 : Sim P.cellsOf ι' (preTr pre) w := by
      refine ⟨fun x o hx => ?_, fun x y Lx Ly hx hy hLx hLy => ?_, fun x L hx hL => ?_⟩
      · obtain ⟨q1, q2, _, l, t, rfl, q4⟩ := hlt hx
        obtain ⟨L, o', b1, b2, b3⟩ := hs.obj _ _ q2
        exact ⟨L, o', by simp [ι', q1, b1], b2, b3.flat q4⟩
      · obtain ⟨ox, hox⟩ := Option.isSome_iff_exists.1 hx
        obtain ⟨oy, hoy⟩ := Option.isSome_iff_exists.1 hy
        obtain ⟨q1, q2, _⟩ := hlt hox
        obtain ⟨p1, p2, _⟩ := hlt hoy
        simp only [ι', q1, p1, if_true] at hLx hLy
        exact hs.inj x y Lx Ly (by rw [q2]; rfl) (by rw [p2]; rfl) hLx hLy
      · simp only [ι', hx, if_true] at hL
        exact hs.glob x L hx hL
    have hf0 : Free ι' 64 st.n := fun x h1 _ => by simp [ι']; omega
    have ha0 : LR ι' args args'.toList := by
      rw [ha.flat_eq hargs]; exact LR.flat_refl hargs
    have hc := (sound hS hm ho N).call.c f args ⟨preTr pre, 64⟩ _ st r1 w1 ι' w args' hev hs0 hf0 ha0
    refine CallsIn.mono hc (fun en w1 hpost => ?_)
    obtain ⟨ι2, t, hend⟩ := hpost
    cases en with
    | returned v' =>
      have hv' : v' = u := VR.plain_eq hend hpl
      subst hv'
      -- what stood there stands there
      have hkeep : ∀ x o, s'.h.get x = some o → ∃ L o', ι x = some L ∧ w1.heap[L.b]? = some o' ∧ OR P.cellsOf ι L o o' := by
        intro x o hx
        obtain ⟨L, o', b1, b2, b3⟩ := hs.obj _ _ hx
        by_cases hin : ((preTr pre).get x).isSome
        · obtain ⟨o2, ho2⟩ := Option.isSome_iff_exists.1 hin
          obtain ⟨q1, q2, q3, l, tt, rfl, q4⟩ := hlt ho2
          rw [q2] at hx; cases hx
          obtain ⟨L2, o3, c1, c2, c3⟩ := t.sim.obj x _ q3
          have hL2 : ι2 x = some L := t.ext x L (by simp [ι', q1, b1])
          rw [hL2] at c1; cases c1
          exact ⟨L, o3, b1, c2, c3.flat q4⟩
        · refine ⟨L, o', b1, ?_, b3⟩
          rw [t.frame L.b (Array.getElem?_eq_some_iff.1 b2).1 (fun y Ly hy hLy e => hin ?_)]
          · exact b2
          · obtain ⟨oy, hoy⟩ := Option.isSome_iff_exists.1 hy
            obtain ⟨q1, q2, _⟩ := hlt hoy
            simp only [ι', q1, if_true] at hLy
            have := hs.inj y x Ly L (by rw [q2]; rfl) (by rw [hx]; rfl) hLy b1 e
            rw [← this]; exact hy
      refine ⟨ι, ⟨fun _ _ h => h, fun _ _ => rfl, Nat.le_refl _, ⟨hkeep, hs.inj, hs.glob⟩, fun b hb hx => ?_, fun x L hx hL _ => ⟨x, L, hx, hL, rfl⟩, t.size, t.keep, t.tape, t.os, t.output⟩, VR.plain_refl hpl⟩
      refine t.frame b hb (fun y Ly hy hLy e => ?_)
      obtain ⟨oy, hoy⟩ := Option.isSome_iff_exists.1 hy
      obtain ⟨q1, q2, _⟩ := hlt hoy
      simp only [ι', q1, if_true] at hLy
      exact hx y Ly (by rw [q2]; rfl) hLy e
    | panicked ch => exact hend.elim
    | outgrown => exact hend.elim
  · cases h

/-! ### A table of calls on one text -/
structure Memo where
  f : FuncId
  s : ByteArray
  v : Value

def natsOf (s : ByteArray) : List Nat := s.data.toList.map UInt8.toNat
def natsEq : List Nat → List Nat → Bool
  | [], [] => true
  | a :: l, b :: m => Nat.beq a b && natsEq l m
  | _, _ => false
theorem natsEq_ok : ∀ {l m : List Nat}, natsEq l m = true → l = m
  | [], [], _ => rfl
  | a :: l, b :: m, h => by
    simp only [natsEq, Bool.and_eq_true] at h
    rw [Nat.eq_of_beq_eq_true h.1, natsEq_ok h.2]
  | [], _ :: _, h => by simp [natsEq] at h
  | _ :: _, [], h => by simp [natsEq] at h
theorem natsOf_inj {a b : ByteArray} (h : natsOf a = natsOf b) : a = b := by
  obtain ⟨x⟩ := a
  obtain ⟨y⟩ := b
  unfold natsOf at h
  congr 1
  rw [← Array.toList_inj]
  exact (List.map_inj_right (fun _ _ e => UInt8.toNat_inj.1 e)).1 h

def memoFind : List Memo → FuncId → ByteArray → Option Value
  | [], _, _ => none
  | e :: l, f, s => bif Nat.beq e.f f && natsEq (natsOf e.s) (natsOf s) then some e.v else memoFind l f s
theorem memoFind_some : ∀ {l : List Memo} {f : FuncId} {s : ByteArray} {v : Value}, memoFind l f s = some v → (⟨f, s, v⟩ : Memo) ∈ l
  | [], _, _, _, h => by cases h
  | e :: l, f, s, v, h => by
    unfold memoFind at h
    cases hb : (Nat.beq e.f f && natsEq (natsOf e.s) (natsOf s)) with
    | true =>
      rw [hb] at h
      simp only [cond_true, Option.some.injEq] at h
      simp only [Bool.and_eq_true] at hb
      have h1 := Nat.eq_of_beq_eq_true hb.1
      have h2 := natsOf_inj (natsEq_ok hb.2)
      obtain ⟨a, b, c⟩ := e
      simp only at h h1 h2
      subst h; subst h1; subst h2
      simp
    | false =>
      rw [hb] at h
      exact List.mem_cons_of_mem _ (memoFind_some h)

noncomputable def memoOrc (pre : List (Nat × AObj)) (tbl : List Memo) (f : FuncId) (args : List Value) : Option (M AEnd) :=
  bif tbl.any (fun e => Nat.beq e.f f) then
    match args with
    | [.string s] => match memoFind tbl f s with
      | some v => some (memoM pre v)
      | none => none
    | _ => none
  else none

def noOrc : FuncId → List Value → Option (M AEnd) := fun _ _ => none
theorem noOrc_ok : OrcOK P noOrc where
  loc := fun _ _ _ h => by simp [noOrc] at h
  ok := fun _ _ _ h => by simp [noOrc] at h

theorem memoOrc_ok (hS : SigOK S P) (hm : P.follows .mixedOrders = true) {N : Nat} {pre : List (Nat × AObj)} (hpre : ∀ p ∈ pre, p.1 < 64) {tbl : List Memo}
    (h : ∀ e ∈ tbl, memoChk pre e.v (evCall P S noOrc N e.f [.string e.s] ⟨preTr pre, 64⟩) = true) : OrcOK P (memoOrc pre tbl) := by
  have look : ∀ {f : FuncId} {args : List Value} {m : M AEnd}, memoOrc pre tbl f args = some m → ∃ s v, args = [.string s] ∧ m = memoM pre v ∧ (⟨f, s, v⟩ : Memo) ∈ tbl := by
    intro f args m hm
    unfold memoOrc at hm
    generalize (tbl.any fun e => Nat.beq e.f f) = b at hm
    cases b with
    | false => cases hm
    | true =>
      simp only [cond_true] at hm
      split at hm
      · rename_i s
        cases hfd : memoFind tbl f s with
        | none => rw [hfd] at hm; cases hm
        | some v =>
          rw [hfd] at hm
          simp only [Option.some.injEq] at hm
          exact ⟨s, v, rfl, hm.symm, memoFind_some hfd⟩
      · cases hm
  refine ⟨fun f args m hm' => ?_, fun f args m hm' s e s' r k ι w args' hms hs _ ha => ?_⟩
  · obtain ⟨s, v, _, rfl, _⟩ := look hm'
    exact memoM_local
  · obtain ⟨st, v, rfl, rfl, hmem⟩ := look hm'
    exact memo_ok hS hm noOrc_ok hpre rfl (h _ hmem) hms hs ha

end Go.Ai
/- The abstract evaluator, part 28: tables of a program. -/
namespace Go.Ai

noncomputable def mkTr {α : Type} : List (Nat × α) → Tr α
  | [] => .leaf
  | p :: l => (mkTr l).set 24 p.1 (some p.2)

theorem mkTr_get {α : Type} : ∀ {l : List (Nat × α)} {x : Nat} {v : α}, (mkTr l).get x = some v → (x, v) ∈ l
  | [], x, v, h => by simp [mkTr, Tr.get_leaf] at h
  | p :: l, x, v, h => by
    unfold mkTr at h
    by_cases e : x = p.1
    · subst e
      rcases get_set_or 24 (mkTr l) p.1 (some p.2) with c | c
      · rw [c] at h; cases h; simp
      · rw [c] at h; exact List.mem_cons_of_mem _ (mkTr_get h)
    · rw [Tr.get_set_other _ _ _ _ _ e] at h
      exact List.mem_cons_of_mem _ (mkTr_get h)

theorem info_of {P : Program} {t : TypeId} {i : TypeInfo} (h : P.types[t]? = some i) : P.info? t = some i := by
  have hlt : t < P.types.size := (Array.getElem?_eq_some_iff.1 h).1
  unfold Tables.info?
  rw [if_pos hlt]
  exact h

end Go.Ai
/- The abstract evaluator, part 29: what was there stays. -/
namespace Go.Ai

/-- Where all that is known ahead are flat tables, known whole, that stand as they stood: all that was there stays. -/
theorem kept_of_tran {sz : TypeId → Nat} {ι ι' : Inj} {s s' : St} {w w' : World} (t : Tran sz ι s w ι' s' w') (hs : Sim sz ι s.h w) (may : MemPlace → Prop)
    (h : ∀ x o, s.h.get x = some o → s'.h.get x = some o ∧ ((∃ l e, o = .cells l e true ∧ l.all flat = true ∧ ∀ L, ι x = some L → L.sh = 0 ∧ ∃ c fr, w.heap[L.b]? = some (.cells c e fr) ∧ c.size = l.length) ∨ ∃ c e, o = .fix c e)) :
    w.keptBut w' may := by
  refine ⟨t.os, t.output, fun i hi => ?_⟩
  by_cases hx : ∃ x L, (s.h.get x).isSome ∧ ι x = some L ∧ L.b = i
  · obtain ⟨x, L, hx, hL, rfl⟩ := hx
    obtain ⟨o, ho⟩ := Option.isSome_iff_exists.1 hx
    rcases h x o ho with ⟨ho', ⟨l, e, rfl, hf, hLc⟩ | ⟨c, e, rfl⟩⟩
    case inr =>
      obtain ⟨L0, o0, a1, a2, a3⟩ := hs.obj x _ ho
      rw [hL] at a1; cases a1
      obtain ⟨L1, o1, d1, d2, d3⟩ := t.sim.obj x _ ho'
      rw [t.ext x L hL] at d1; cases d1
      obtain ⟨_, rfl⟩ := a3
      obtain ⟨_, rfl⟩ := d3
      rw [a2, d2]
      exact ⟨rfl, rfl, rfl, fun _ _ => rfl⟩
    obtain ⟨hsh, c, fr, hc, hcl⟩ := hLc L hL
    obtain ⟨c', hc', hsz⟩ := t.keep _ _ _ _ hc
    rw [hc, hc']
    refine ⟨rfl, rfl, hsz, fun j _ => ?_⟩
    obtain ⟨L0, o0, a1, a2, a3⟩ := hs.obj x _ ho
    rw [hL] at a1; cases a1
    rw [hc] at a2; cases a2
    obtain ⟨c1, fr1, b1, _, b3, _⟩ := a3
    cases b1
    obtain ⟨L1, o1, d1, d2, d3⟩ := t.sim.obj x _ ho'
    rw [t.ext x L hL] at d1; cases d1
    rw [hc'] at d2; cases d2
    obtain ⟨c2, fr2, f1, _, f3, _⟩ := d3
    cases f1
    by_cases hj : j < l.length
    · have hv : l[j]? = some l[j] := List.getElem?_eq_getElem hj
      have hfl := List.all_eq_true.1 hf _ (List.getElem_mem hj)
      obtain ⟨u, p1, p2⟩ := b3 j _ hv
      obtain ⟨u', q1, q2⟩ := f3 j _ hv
      rw [hsh, Nat.zero_add] at p1 q1
      rw [p1, q1, p2.flat_eq hfl, q2.flat_eq hfl]
    · rw [Array.getElem?_eq_none (by omega), Array.getElem?_eq_none (by omega)]
  · have := t.frame i hi (fun x L hx' hL e => hx ⟨x, L, hx', hL, e⟩)
    rw [this]
    generalize w.heap[i]? = o
    cases o with
    | none => rfl
    | some x => cases x <;> first | exact ⟨rfl, rfl, rfl, fun _ _ => rfl⟩ | exact .inr ⟨rfl, rfl⟩ | rfl

end Go.Ai
/- The abstract evaluator, part 30: a region whose order is open, worked out up to a place. -/
namespace Go.Ai
noncomputable section

variable {P : Program} {S : Sig} {call : Env} {ops : Array Oper}

/-- as evDraw, but that it ends behind the list, and tells the footprints -/
def evDrawP (P : Program) (S : Sig) (call : Env) (ops : Array Oper) : List Oper → Nat → List Foot → AAct → M (AAct × List Foot)
  | [], _, fs, a => M.pure (a, fs)
  | o :: os, j, fs, a =>
    M.bind (M.lift (beforeMask fs j o.after.toList)) fun b =>
    M.bind (M.foot (evOp P S call ops a o)) fun x => match x.1.1 with
      | .normal =>
        M.bind (M.guard (Nat.beq x.1.2.d.length a.d.length && apartAll ⟨lookMask ops o, dstMask o, x.2.1, x.2.2, b⟩ fs j)) fun _ =>
        evDrawP P S call ops os (j + 1) (⟨lookMask ops o, dstMask o, x.2.1, x.2.2, b⟩ :: fs) x.1.2
      | _ => M.fail

theorem evDraw_append : ∀ {l m : List Oper} {j : Nat} {fs : List Foot} {a : AAct} {x : AAct × List Foot} {s s1 : St} {r w : Nat}, evDrawP P S call ops l j fs a s = some (x, s1, r, w) →
    ∀ {b : AAct} {s2 : St} {r2 w2 : Nat}, evDraw P S call ops m (j + l.length) x.2 x.1 s1 = some (b, s2, r2, w2) → ∃ r3 w3, evDraw P S call ops (l ++ m) j fs a s = some (b, s2, r3, w3)
  | [], m, j, fs, a, x, s, s1, r, w, h, b, s2, r2, w2, k => by
    obtain ⟨h1, h2⟩ := M.pure_some h
    subst h1; subst h2
    exact ⟨_, _, k⟩
  | o :: l, m, j, fs, a, x, s, s1, r, w, h, b, s2, r2, w2, k => by
    unfold evDrawP at h
    obtain ⟨bm, t0, _, _, _, _, e0, h0, _, _⟩ := bind_inv h
    obtain ⟨y, t1, _, _, _, _, e1, h1, _, _⟩ := bind_inv h0
    obtain ⟨⟨c, a1⟩, fr, fw⟩ := y
    cases c with
    | normal =>
      simp only at h1
      obtain ⟨u, t2, _, _, _, _, e2, h2, _, _⟩ := bind_inv h1
      obtain ⟨r5, w5, e3⟩ := evDraw_append (m := m) h2 (b := b) (s2 := s2) (r2 := r2) (w2 := w2) (by
        have : j + 1 + l.length = j + (o :: l).length := by simp only [List.length_cons]; omega
        rw [this]; exact k)
      have q1 := bind_mk (f := fun _ : Unit => evDraw P S call ops (l ++ m) (j + 1) (⟨lookMask ops o, dstMask o, fr, fw, bm⟩ :: fs) a1) e2 e3
      have q2 := bind_mk (f := fun x : (ACtl × AAct) × Nat × Nat => match x.1.1 with
        | .normal =>
          M.bind (M.guard (Nat.beq x.1.2.d.length a.d.length && apartAll ⟨lookMask ops o, dstMask o, x.2.1, x.2.2, bm⟩ fs j)) fun _ =>
          evDraw P S call ops (l ++ m) (j + 1) (⟨lookMask ops o, dstMask o, x.2.1, x.2.2, bm⟩ :: fs) x.1.2
        | _ => M.fail) e1 q1
      have q3 := bind_mk (f := fun b : Nat => M.bind (M.foot (evOp P S call ops a o)) fun x => match x.1.1 with
        | .normal =>
          M.bind (M.guard (Nat.beq x.1.2.d.length a.d.length && apartAll ⟨lookMask ops o, dstMask o, x.2.1, x.2.2, b⟩ fs j)) fun _ =>
          evDraw P S call ops (l ++ m) (j + 1) (⟨lookMask ops o, dstMask o, x.2.1, x.2.2, b⟩ :: fs) x.1.2
        | _ => M.fail) e0 q2
      exact ⟨_, _, q3⟩
    | exit id => simp [M.fail] at h1
    | ret => simp [M.fail] at h1
    | panic ch => simp [M.fail] at h1

end
end Go.Ai
/- The abstract evaluator, part 31: what a law's row asks behind the call, where all that was there stays. -/
namespace Go.Ai
open Go.ChangeShapes Go.RowKit

section
variable {H : Type} {enc : TypeId × Value → H} {P : Program}

theorem sameAt_kept {W W' : World} (hk : W.keptBut W' (fun _ => False)) {base : Nat} {spare : Nat → Bool} {held : Bool} {t : TypeId} {v : Value} {d : DataW H} {p : List MemPlace} (h : DataW.Trod enc P W base spare held t v d p) :
    ∀ q ∈ p, W.sameAt W' q := by
  obtain ⟨n, hn⟩ := h
  intro q hq
  have hs := DataW.trod_sound n _ _ _ hn q hq
  have hl := DataW.trod_lt n _ _ _ hn q hq
  exact hk.sameAt hl (fun h => h) hs

theorem trodAll_kept (hl : laidOutB P = true) {W W' : World} (hk : W.keptBut W' (fun _ => False)) : ∀ {ts : List TypeId} {vs : List Value} {ds : List (DataW H)} {p : List MemPlace}, DataW.TrodAll enc P W 0 (fun _ => true) true ts vs ds p →
    (∀ t ∈ ts, P.readableRec t = true ∧ t < P.types.size) → DataW.TrodAll enc P W' 0 (fun b => decide (b < W.heap.size)) true ts vs ds p
  | [], vs, ds, p, h, _ => by
    obtain ⟨rfl, rfl, rfl⟩ := trodAll_nil h
    rfl
  | t :: ts, vs, ds, p, h, ht => by
    obtain ⟨v, vs1, d, ds1, a, b, rfl, rfl, rfl, h1, h2⟩ := trodAll_cons h
    obtain ⟨r1, r2⟩ := ht t (by simp)
    refine ⟨a, b, WideElems.Trod_stays hl r1 r2 h1 (sameAt_kept hk h1) (fun q hq => ?_), trodAll_kept hl hk h2 (fun u hu => ht u (List.mem_cons_of_mem _ hu)), rfl⟩
    obtain ⟨n, hn⟩ := h1
    have := DataW.trod_lt n _ _ _ hn q hq
    simpa using this

/-- A law's row: true, and each argument reads as it did. -/
theorem post_true {f : Func} {s : ChangeSpec} {apart fresh handsOn : Bool} {W W' : World} {args : Array Value} {ds : List (DataW H)} {before : List MemPlace} {tb : TypeId}
    (hW : DataW.Whole enc P f.params.toList s.vars apart W args.toList ds [] before) (hv : s.vars = []) (hl : laidOutB P = true) (ht : ∀ t ∈ f.params.toList, P.readableRec t = true ∧ t < P.types.size)
    (hr : f.resultTypes = #[tb]) (hb : P.underlying tb = some .bool) (hres : (s.fn H ds).results = [.lit (.bool true)]) (harg : (s.fn H ds).args = ds) (hvar : (s.fn H ds).vars = [])
    (hk : W.keptBut W' (fun _ => False)) : s.post enc P f apart fresh handsOn false W args (.bool true) W' := by
  obtain ⟨p, q, h1, h2, rfl, h3, h4⟩ := id hW
  rw [hv] at h2
  obtain rfl : q = [] := h2
  refine ⟨ds, [], p ++ [], [], p, [], hW, ?_, ?_, ?_, World.keptBut_mono (fun _ h => h.elim) hk, fun h => by cases h⟩
  · rw [List.append_nil, hres, hr]
    exact trodAll_mk1 (shut_bool hb true)
  · rw [List.append_nil, harg]
    exact trodAll_kept hl hk h1 ht
  · rw [List.append_nil, hvar, hv]
    rfl

end
end Go.Ai
/- The abstract evaluator, part 32: a law's call, from the given variables and the arguments. -/
namespace Go.Ai

section
variable {P : Program}

def litOf {H : Type} : Value → DataW H
  | .int k z => .lit (.int k z)
  | _ => .nil
def isInt (k : IntKind) : Value → Bool
  | .int k' _ => decide (k' = k)
  | _ => false

/-- A table of whole numbers, read. -/
theorem cells_of_trod {H : Type} {enc : TypeId × Value → H} {w : World} {base : Nat} {spare : Nat → Bool} {held : Bool} {fuel : Nat} {t e : TypeId} {n : Nat} {k : IntKind} {cs : List Value} {gl : List Value} {p : List MemPlace}
    (ht : P.underlying t = some (.array n e)) (he : P.underlying e = some (.int k)) (hc : P.cellsOf e = 1) (hct : P.cellsOf t = n) (hg : gl.all (isInt k) = true)
    (h : DataW.trod enc P w base spare held fuel t cs = some (.agg (gl.map litOf), p)) : cs = gl := by
  obtain ⟨xs, m, rfl, hx, hlen, hxs, hel⟩ := DataW.trod_array ht h
  simp only [Prod.mk.injEq, DataW.agg.injEq] at hx
  have hgl : gl.length = n := by
    have := congrArg List.length hx.1
    simpa [hxs] using this
  apply List.ext_getElem?
  intro i
  by_cases hi : i < n
  · have h1 := hel i hi
    rw [hc, Nat.mul_one] at h1
    have hxi : xs[i]? = some xs[i] := List.getElem?_eq_getElem (by omega)
    rw [hxi] at h1
    obtain ⟨z, e1, e2, _⟩ := DataW.trod_int he h1
    have hci : i < cs.length := by omega
    have e3 : cs[i]? = some (.int k z) := by
      rw [List.getElem?_eq_getElem hci]
      rw [List.drop_eq_getElem_cons hci, List.take_succ_cons] at e1
      simp only [List.take_zero, List.cons.injEq, and_true] at e1
      rw [e1]
    have hgi : i < gl.length := by omega
    have h2 := congrArg (fun l : List (DataW H) => l[i]?) hx.1
    simp only [List.getElem?_map, hxi, List.getElem?_eq_getElem hgi, Option.map_some, Option.some.injEq] at h2
    have h3 := List.all_eq_true.1 hg gl[i] (List.getElem_mem hgi)
    rw [e3, List.getElem?_eq_getElem hgi]
    rw [e2] at h2
    cases hv : gl[i] <;> rw [hv] at h2 h3 <;> simp [litOf, isInt] at h2 h3
    rw [h2.1, h2.2]
  · rw [List.getElem?_eq_none (by omega), List.getElem?_eq_none (by omega)]

/-- how the given variables stand -/
def Stands (W : World) (glob : List (Nat × AObj)) : Prop :=
  ∀ p ∈ glob, p.1 < 64 ∧ ((∃ l e c, p.2 = .cells l e true ∧ l.all flat = true ∧ W.heap[p.1]? = some (.cells c e (0, 0)) ∧ c.toList = l) ∨ ∃ c e, p.2 = .fix c e ∧ W.heap[p.1]? = some (.cells c e (0, 0)))

/-- where the names lie when the call begins: the given variables, and those of the arguments -/
def entry (glob : List (Nat × AObj)) (ex : Inj) : Inj := fun x => if x < 64 then (if glob.any (fun p => Nat.beq p.1 x) then some ⟨x, 0, 0⟩ else none) else ex x

theorem entry_sim {W : World} {glob : List (Nat × AObj)} (hg : Stands W glob) (ex : Inj) : Sim P.cellsOf (entry glob ex) (preTr glob) W := by
  have hlt : ∀ p ∈ glob, p.1 < 64 := fun p hp => (hg p hp).1
  have at_ : ∀ {x : Nat} {o : AObj}, (preTr glob).get x = some o → (x, o) ∈ glob ∧ entry glob ex x = some ⟨x, 0, 0⟩ := by
    intro x o h
    have hm := preTr_get hlt h
    have h1 := hlt _ hm
    refine ⟨hm, ?_⟩
    unfold entry
    rw [if_pos h1, if_pos]
    exact List.any_eq_true.2 ⟨_, hm, Nat.beq_refl _⟩
  refine ⟨fun x o hx => ?_, fun x y Lx Ly hx hy hLx hLy => ?_, fun x L hx hL => ?_⟩
  · obtain ⟨hm, he⟩ := at_ hx
    rcases hg _ hm with ⟨_, ⟨l, e, c, h1, h2, h3, h4⟩ | ⟨c, e, h1, h3⟩⟩
    case inr =>
      simp only at h1 h3
      subst h1
      exact ⟨_, _, he, h3, rfl, rfl⟩
    simp only at h1 h3
    subst h1
    refine ⟨_, _, he, h3, c, (0, 0), rfl, fun i _ h => by omega, fun i v hv => ⟨v, ?_, VR.flat_refl (List.all_eq_true.1 h2 v (List.mem_of_getElem? hv))⟩, ?_⟩
    · rw [← h4] at hv
      simpa using hv
    · simp
  · obtain ⟨ox, hox⟩ := Option.isSome_iff_exists.1 hx
    obtain ⟨oy, hoy⟩ := Option.isSome_iff_exists.1 hy
    rw [(at_ hox).2] at hLx
    rw [(at_ hoy).2] at hLy
    cases hLx; cases hLy
    exact fun h => h
  · unfold entry at hL
    rw [if_pos hx] at hL
    split at hL
    · cases hL; exact ⟨rfl, rfl⟩
    · cases hL

/-- A law that was worked out: it returns true, and all that was there stays. -/
theorem law_calls {S : Sig} (hS : SigOK S P) (hm : P.follows .mixedOrders = true) {orc : FuncId → List Value → Option (M AEnd)} (ho : OrcOK P orc) {glob : List (Nat × AObj)} {n0 N : Nat} {f : FuncId} {args : List Value} {st : St} {r k : Nat}
    (hn0 : 64 ≤ n0) (h : evCall P S orc N f args ⟨preTr glob, n0⟩ = some (.ret (.bool true), st, r, k)) (hk : ∀ p ∈ glob, st.h.get p.1 = some p.2) {W : World} (hg : Stands W glob) {ex : Inj} (hex : ∀ x, n0 ≤ x → ex x = none)
    {args' : Array Value} (ha : LR (entry glob ex) args args'.toList) : Calls P f args' W fun e W' => e = .returned (.bool true) ∧ W.keptBut W' (fun _ => False) := by
  have hlt : ∀ p ∈ glob, p.1 < 64 := fun p hp => (hg p hp).1
  have hs := entry_sim (P := P) hg ex
  have hf : Free (entry glob ex) n0 st.n := fun x h1 _ => by
    unfold entry
    rw [if_neg (by omega)]
    exact hex x h1
  refine callsIn_wide.1 (CallsIn.mono ((sound hS hm ho N).call.c f args ⟨preTr glob, n0⟩ _ st r k _ W args' h hs hf ha) (fun en W' hp => ?_))
  obtain ⟨ι', t, he⟩ := hp
  cases en with
  | returned v' =>
    have hv : v' = .bool true := VR.flat_eq he rfl
    subst hv
    refine ⟨rfl, kept_of_tran t hs _ (fun x o hx => ?_)⟩
    have hm' := preTr_get hlt hx
    refine ⟨hk _ hm', ?_⟩
    rcases hg _ hm' with ⟨h1, ⟨l, e, c, h2, h3, h4, h5⟩ | ⟨c, e, h2, h4⟩⟩
    case inr => exact .inr ⟨c, e, h2⟩
    simp only at h1 h2 h4
    refine .inl ⟨l, e, h2, h3, fun L hL => ?_⟩
    · unfold entry at hL
      rw [if_pos h1] at hL
      split at hL
      · cases hL
        exact ⟨rfl, c, (0, 0), h4, by rw [← h5]; simp⟩
      · cases hL
  | panicked ch => exact he.elim
  | outgrown => exact he.elim

end
end Go.Ai
/- The abstract evaluator, part 33: a law's row, from its call. -/
namespace Go.Ai

theorem law_lifted {H : Type} {enc : TypeId × Value → H} {a : Assume} {C : Checked} {os : Os} {f : FuncId} {fn : Func} {s : ChangeSpec} {conds : List PathCond} {apart fresh handsOn : Bool} {X : World → Array Value → Prop} {tb : TypeId}
    (hX : ∀ (w w' : World) (args : Array Value), w.heap = w'.heap → X w args → X w' args)
    (own : ownKnob C.prog.godebug = none) (started : os.Started) (noInit : C.prog.inits.idxOf? f = none) (hfn : C.prog.funcs[f]? = some fn)
    (witness : ∃ (w : World) (tape : Tape) (i : Input), w.os = os ∧ (w.forCall tape i).Shaped C.prog ∧ i.vars = [] ∧ Input.okWide C.prog (w.forCall tape i) .any w.heap.size f i ∧
      ((s.pre enc C.prog fn conds apart (w.forCall tape i).memory i.args ∧ X (w.forCall tape i).memory i.args) ∧ sizedMet enc C.prog fn (OpenSpec.ofChange s) apart (w.forCall tape i).memory i.args) ∧ a.holds C.prog (lone (Frame.enter C.prog f i.args .normal) [] (w.forCall tape i)))
    (hv : s.vars = []) (hl : laidOutB C.prog = true) (ht : ∀ t ∈ fn.params.toList, C.prog.readableRec t = true ∧ t < C.prog.types.size) (hr : fn.resultTypes = #[tb]) (hb : C.prog.underlying tb = some .bool)
    (hspec : ∀ ds : List (DataW H), ds.length = fn.params.size → (s.fn H ds).results = [.lit (.bool true)] ∧ (s.fn H ds).args = ds ∧ (s.fn H ds).vars = [])
    (contract : ∀ (W : World) (base : Nat) (args : Array Value) (ds : List (DataW H)) (before : List MemPlace), args.size = fn.params.size →
      (∀ (j : Nat) t v, fn.params[j]? = some t → args[j]? = some v → Value.okWide C.prog W .any base t v) →
      DataW.Whole enc C.prog fn.params.toList s.vars apart W args.toList ds [] before →
      (DataW.weightsEach C.prog (fn.params.toList ++ s.plain.varTypes C.prog) (ds ++ [])).all (· ≤ reachBytes) = true → X W args → W.ShapedOpen C.prog →
      Calls C.prog f args W fun e W' => e = .returned (.bool true) ∧ W.keptBut W' (fun _ => False)) :
    ReturnsInHanded a C os f .any (fun w args => (s.pre enc C.prog fn conds apart w args ∧ X w args) ∧ sizedMet enc C.prog fn (OpenSpec.ofChange s) apart w args) (s.post enc C.prog fn apart fresh handsOn false) := by
  refine returnsInHanded_of_calls own started noInit witness ?_
  intro w tape i _ hsh _ hok hpre _
  obtain ⟨_, _, _, fn', hfn', _, _, _, hsz, hval⟩ := hok
  have e : fn' = fn := Option.some.inj (hfn'.symm.trans hfn)
  subst e
  obtain ⟨⟨⟨ds, gs, before, hw, hc⟩, hx⟩, hz⟩ := hpre
  have hgs : gs = [] := by
    obtain ⟨p, q, _, h2, _⟩ := hw
    rw [hv] at h2
    cases gs with
    | nil => rfl
    | cons g gs => exact (h2 : False).elim
  subst hgs
  have hw' := DataW.Whole.of_heap (w' := w.forCall tape i) (by rfl) hw
  have hds : ds.length = fn'.params.size := by
    obtain ⟨p, q, h1, _⟩ := hw
    have := (trodAll_length h1).2
    simpa using this
  obtain ⟨s1, s2, s3⟩ := hspec ds hds
  refine (contract (w.forCall tape i) w.heap.size i.args ds before hsz hval hw' (hz.weights hw) (hX _ _ _ (by rfl) hx) hsh).mono fun e W' ⟨he, hp⟩ => ?_
  subst he
  exact ChangeSpec.post_blind (post_true hw' hv hl ht hr hb s1 s2 s3 hp)

end Go.Ai
/- The abstract evaluator, part 34: how the cells of arguments look. -/
namespace Go.Ai
variable {P : Program} {W : World} {r : Reach} {b : Nat} {u : TypeId} {v : Value}

theorem cell_int {k : IntKind} (hu : P.underlying u = some (.int k)) (h : Cell.okWide P W r b u v) : ∃ n, v = .int k n := by
  cases v <;> simp [Cell.okWide, Cell.ok, hu] at h
  rename_i k' n
  obtain ⟨rfl, _⟩ := h
  exact ⟨n, rfl⟩
theorem cell_bool (hu : P.underlying u = some .bool) (h : Cell.okWide P W r b u v) : ∃ n, v = .bool n := by
  cases v <;> simp [Cell.okWide, Cell.ok, hu] at h
  exact ⟨_, rfl⟩
theorem cell_string (hu : P.underlying u = some .string) (h : Cell.okWide P W r b u v) : ∃ s, v = .string s := by
  cases v <;> simp [Cell.okWide, Cell.ok, hu] at h
  exact ⟨_, rfl⟩
theorem cell_slice {e : TypeId} (hu : P.underlying u = some (.slice e)) (h : Cell.okWide P W r b u v) : v = .slice none 0 0 ∨ ∃ (bl off l c : Nat), v = .slice (some ⟨bl, off, none⟩) l c ∧ l ≤ c ∧ c < HALF := by
  cases v <;> simp only [Cell.okWide, Cell.ok, hu] at h
  rename_i a l c
  cases a with
  | none =>
    cases l <;> cases c <;> simp at h
    exact .inl rfl
  | some a =>
    simp only at h
    obtain ⟨h1, h2, h3, h4, _⟩ := h
    obtain ⟨bl, off, spot⟩ := a
    simp only at h4
    subst h4
    refine .inr ⟨bl, off, l, c, rfl, h1, ?_⟩
    have : IntKind.i64.max = 9223372036854775807 := by decide
    rw [this] at h2
    unfold HALF
    omega

theorem cell_flat (hu : P.underlying u = some .string ∨ P.underlying u = some .bool ∨ ∃ k, P.underlying u = some (.int k)) (h : Cell.okWide P W r b u v) : flat v = true := by
  rcases hu with hu | hu | ⟨k, hu⟩
  · obtain ⟨s, rfl⟩ := cell_string hu h; rfl
  · obtain ⟨s, rfl⟩ := cell_bool hu h; rfl
  · obtain ⟨s, rfl⟩ := cell_int hu h; rfl

/-- n values of a function from a place on -/
def vals (V : Nat → Value) : Nat → Nat → List Value
  | 0, _ => []
  | n + 1, i => V i :: vals V n (i + 1)

theorem vals_eq {V : Nat → Value} : ∀ {n i : Nat} {l : List Value}, l.length = n → (∀ (j : Nat) (v : Value), l[j]? = some v → V (i + j) = v) → vals V n i = l
  | 0, i, l, h, _ => by rw [List.length_eq_zero_iff.1 h]; rfl
  | n + 1, i, [], h, _ => by simp at h
  | n + 1, i, a :: l, h, hv => by
    have h0 : V i = a := hv 0 a rfl
    unfold vals
    rw [h0, vals_eq (i := i + 1) (l := l) (by simpa using h) (fun j v hj => by
      have := hv (j + 1) v (by simpa using hj)
      rw [← this]; congr 1; omega)]

/-- the cells of a struct or an array -/
theorem row_cells {t : TypeId} {ts : List TypeId} (hs : (match P.underlying t with | some (.struct _) | some (.array _ _) => true | _ => false) = true) (hc : P.cellTypes P.depth t = some ts) (hn : P.cellsOf t = ts.length)
    (h : Value.okWide P W r b t v) : ∃ l : List Value, v = .agg l.toArray ∧ l.length = ts.length ∧ ∀ (i : Nat) (u : TypeId) (x : Value), ts[i]? = some u → l[i]? = some x → Cell.okWide P W r b u x := by
  unfold Value.okWide at h
  have h' : ∃ cs : Array Value, v = .agg cs ∧ cs.size = P.cellsOf t ∧ Row.okWide P W r b t cs := by
    split at hs
    · rename_i hu; rw [hu] at h; exact h
    · rename_i hu; rw [hu] at h; exact h
    · cases hs
  obtain ⟨cs, rfl, hsz, ts', ht', _, hcell⟩ := h'
  rw [hc] at ht'
  cases ht'
  refine ⟨cs.toList, by simp, by simp [hsz, hn], fun i u x hu hx => ?_⟩
  have hi : i < ts.length := (List.getElem?_eq_some_iff.1 hu).1
  obtain ⟨u', h1, h2⟩ := hcell i x (by simpa using hx)
  rw [Nat.mod_eq_of_lt hi, hu] at h1
  cases h1
  exact h2

end Go.Ai
/- The abstract evaluator, part 35: a listed table of whole numbers, where it lies. -/
namespace Go.Ai

theorem table_at {P : Program} {W : World} (hsh : W.ShapedOpen P) {name : String} {g : Nat} {t e : TypeId} {n : Nat} {k : IntKind} {gl : List Value} (hg : P.globalNamed name = some g) (hlt : g < P.globals.size)
    (htg : (P.globals[g]?).map (·.type) = some t) (hrow : (((begin P (fun _ _ => 0) default).world.heap[g]?).bind Obj.row?).map (·.2) = some t) (hu : P.underlying t = some (.array n e)) (he : P.underlying e = some (.int k))
    (hc : P.cellsOf e = 1) (hct : P.cellsOf t = n) (hgl : gl.all (isInt k) = true) {d : DataW Unit} (hd : d = .agg (gl.map litOf))
    (h : ∃ g t cs fuel p, P.globalNamed name = some g ∧ (P.globals[g]?).map (·.type) = some t ∧ W.var? P name = some cs ∧ DataW.trod (fun _ => ()) P W 0 (fun _ => true) false fuel t cs.toList = some (d, p)) :
    ∃ c, W.heap[g]? = some (.cells c t (0, 0)) ∧ c.toList = gl := by
  obtain ⟨g', t', cs, fuel, p, h1, h2, h3, h4⟩ := h
  rw [hg] at h1; cases h1
  rw [htg] at h2; cases h2
  subst hd
  have hcs := cells_of_trod hu he hc hct hgl h4
  simp only [Option.map_eq_some_iff] at hrow
  obtain ⟨⟨zero, t''⟩, hr, rfl⟩ := hrow
  obtain ⟨cs', hh, _⟩ := hsh.1 g zero _ hlt hr
  refine ⟨cs', hh, ?_⟩
  simp only [World.var?, hg, Option.bind_some, hh, Option.some.injEq] at h3
  rw [h3]
  exact hcs

theorem laid_head {P : Program} {w : World} {n : String} {d : DataW Unit} {r : List (String × DataW Unit)} {ps : List MemPlace} (h : DataW.LaidVars P w ((n, d) :: r) ps) :
    (∃ g t cs fuel p, P.globalNamed n = some g ∧ (P.globals[g]?).map (·.type) = some t ∧ w.var? P n = some cs ∧ DataW.trod (fun _ => ()) P w 0 (fun _ => true) false fuel t cs.toList = some (d, p)) ∧ ∃ q, DataW.LaidVars P w r q := by
  obtain ⟨g, t, cs, fuel, p, q, h1, h2, h3, h4, h5, _⟩ := h
  exact ⟨⟨g, t, cs, fuel, p, h1, h2, h3, h4⟩, q, h5⟩

end Go.Ai
/- The abstract evaluator, part 36: calls on any plain arguments that were worked out once. -/
namespace Go.Ai

variable {P : Program} {S : Sig}

def eqP1 (a b : Value) : Bool :=
  match a, b with
  | .int k (.ofNat m), .int k' (.ofNat n) => Nat.beq (knum k) (knum k') && Nat.beq m n
  | .int k (.negSucc m), .int k' (.negSucc n) => Nat.beq (knum k) (knum k') && Nat.beq m n
  | .bool x, .bool y => bif x then y else not y
  | .string x, .string y => natsEq (natsOf x) (natsOf y)
  | .slice none l c, .slice none l' c' => Nat.beq l l' && Nat.beq c c'
  | _, _ => false
theorem eqP1_ok {a b : Value} (h : eqP1 a b = true) : a = b ∧ flat a = true := by
  unfold eqP1 at h
  split at h
  · simp only [Bool.and_eq_true] at h
    rw [knum_inj h.1, Nat.eq_of_beq_eq_true h.2]
    exact ⟨rfl, rfl⟩
  · simp only [Bool.and_eq_true] at h
    rw [knum_inj h.1, Nat.eq_of_beq_eq_true h.2]
    exact ⟨rfl, rfl⟩
  · rename_i x y
    cases x <;> cases y <;> first | exact ⟨rfl, rfl⟩ | cases h
  · rw [natsOf_inj (natsEq_ok h)]
    exact ⟨rfl, rfl⟩
  · simp only [Bool.and_eq_true] at h
    rw [Nat.eq_of_beq_eq_true h.1, Nat.eq_of_beq_eq_true h.2]
    exact ⟨rfl, rfl⟩
  · cases h

def eqPs : List Value → List Value → Bool
  | [], [] => true
  | a :: l, b :: m => eqP1 a b && eqPs l m
  | _, _ => false
theorem eqPs_ok : ∀ {l m : List Value}, eqPs l m = true → l = m ∧ l.all flat = true
  | [], [], _ => ⟨rfl, rfl⟩
  | a :: l, b :: m, h => by
    simp only [eqPs, Bool.and_eq_true] at h
    obtain ⟨h1, h2⟩ := eqP1_ok h.1
    obtain ⟨h3, h4⟩ := eqPs_ok h.2
    rw [h1, h3]
    exact ⟨rfl, by rw [List.all_cons, ← h1, ← h3, h2, h4]; rfl⟩
  | [], _ :: _, h => by simp [eqPs] at h
  | _ :: _, [], h => by simp [eqPs] at h

def eqV (a b : Value) : Bool :=
  match a, b with
  | .agg x, .agg y => eqPs x.toList y.toList
  | .tuple x, .tuple y => eqPs x.toList y.toList
  | a, b => eqP1 a b
theorem eqV_ok {a b : Value} (h : eqV a b = true) : a = b ∧ plain a = true := by
  unfold eqV at h
  split at h
  · obtain ⟨h1, h2⟩ := eqPs_ok h
    rw [Array.toList_inj.1 h1] at h2 ⊢
    exact ⟨rfl, h2⟩
  · obtain ⟨h1, h2⟩ := eqPs_ok h
    rw [Array.toList_inj.1 h1] at h2 ⊢
    exact ⟨rfl, h2⟩
  · obtain ⟨h1, h2⟩ := eqP1_ok h
    refine ⟨h1, ?_⟩
    cases a <;> first | exact h2 | (simp [flat] at h2)

def eqVs : List Value → List Value → Bool
  | [], [] => true
  | a :: l, b :: m => eqV a b && eqVs l m
  | _, _ => false
theorem eqVs_ok : ∀ {l m : List Value}, eqVs l m = true → l = m ∧ l.all plain = true
  | [], [], _ => ⟨rfl, rfl⟩
  | a :: l, b :: m, h => by
    simp only [eqVs, Bool.and_eq_true] at h
    obtain ⟨h1, h2⟩ := eqV_ok h.1
    obtain ⟨h3, h4⟩ := eqVs_ok h.2
    rw [h1, h3]
    exact ⟨rfl, by rw [List.all_cons, ← h1, ← h3, h2, h4]; rfl⟩
  | [], _ :: _, h => by simp [eqVs] at h
  | _ :: _, [], h => by simp [eqVs] at h

theorem LR.plain_eq {ι : Inj} {l l' : List Value} (h : LR ι l l') (hf : l.all plain = true) : l' = l := by
  apply List.ext_getElem?
  intro i
  cases hv : l[i]? with
  | none => rw [List.getElem?_eq_none_iff] at hv ⊢; rw [h.1]; exact hv
  | some v =>
    obtain ⟨v', e, r⟩ := h.get hv
    rw [e, r.plain_eq (List.all_eq_true.1 hf v (List.mem_of_getElem? hv))]
theorem LR.plain_refl {ι : Inj} {l : List Value} (hf : l.all plain = true) : LR ι l l :=
  ⟨rfl, fun i v v' a b => by rw [a] at b; cases b; exact VR.plain_refl (List.all_eq_true.1 hf v (List.mem_of_getElem? a))⟩

/-- the look at what was worked out -/
noncomputable def memoChk2 (pre : List (Nat × AObj)) (v : Value) (res : Option (AEnd × St × Nat × Nat)) : Bool :=
  match res with
  | some (.ret u, st, _, _) => eqV u v && pre.all fun p => match st.h.get p.1 with | some o => eqObj o p.2 | none => false
  | _ => false

/-- A call that was worked out on the given variables alone answers so wherever these stand as they stood. -/
theorem memo_ok2 (hS : SigOK S P) (hm : P.follows .mixedOrders = true) {orc : FuncId → List Value → Option (M AEnd)} (ho : OrcOK P orc) {N : Nat} {pre : List (Nat × AObj)} (hpre : ∀ p ∈ pre, p.1 < 64) {f : FuncId} {args : List Value} (hargs : args.all plain = true) {v : Value}
    (h : memoChk2 pre v (evCall P S orc N f args ⟨preTr pre, 64⟩) = true) {e : AEnd} {s s' : St} {r k : Nat} {ι : Inj} {w : World} {args' : Array Value}
    (hmm : memoM pre v s = some (e, s', r, k)) (hs : Sim P.cellsOf ι s.h w) (ha : LR ι args args'.toList) : CallsIn Fence.wide 0 P f args' w (CallPost P ι s w s' e) := by
  obtain ⟨rfl, rfl, hp⟩ := memoM_some hmm
  unfold memoChk2 at h
  split at h
  · rename_i u st r1 w1 hev
    simp only [Bool.and_eq_true] at h
    obtain ⟨rfl, hpl⟩ := eqV_ok h.1
    have hall := List.all_eq_true.1 h.2
    -- the given variables alone
    let ι' : Inj := fun x => if x < 64 then ι x else none
    have hlt : ∀ {x : Nat} {o : AObj}, (preTr pre).get x = some o → x < 64 ∧ s'.h.get x = some o ∧ st.h.get x = some o ∧ ∃ l e, o = .cells l e true ∧ l.all flat = true := by
      intro x o hx
      have hmem := preTr_get hpre hx
      have h1 := hall _ hmem
      simp only at h1
      obtain ⟨g1, c, t, g2, g3⟩ := hp _ hmem
      simp only at g1 g2
      refine ⟨hpre _ hmem, g1, ?_, c, t, g2, g3⟩
      cases hst : st.h.get x with
      | none => rw [hst] at h1; cases h1
      | some o2 => rw [hst] at h1; rw [(eqObj_ok h1).1]
    have hs0 : Sim P.cellsOf ι' (preTr pre) w := by
      refine ⟨fun x o hx => ?_, fun x y Lx Ly hx hy hLx hLy => ?_, fun x L hx hL => ?_⟩
      · obtain ⟨q1, q2, _, l, t, rfl, q4⟩ := hlt hx
        obtain ⟨L, o', b1, b2, b3⟩ := hs.obj _ _ q2
        exact ⟨L, o', by simp [ι', q1, b1], b2, b3.flat q4⟩
      · obtain ⟨ox, hox⟩ := Option.isSome_iff_exists.1 hx
        obtain ⟨oy, hoy⟩ := Option.isSome_iff_exists.1 hy
        obtain ⟨q1, q2, _⟩ := hlt hox
        obtain ⟨p1, p2, _⟩ := hlt hoy
        simp only [ι', q1, p1, if_true] at hLx hLy
        exact hs.inj x y Lx Ly (by rw [q2]; rfl) (by rw [p2]; rfl) hLx hLy
      · simp only [ι', hx, if_true] at hL
        exact hs.glob x L hx hL
    have hf0 : Free ι' 64 st.n := fun x h1 _ => by simp [ι']; omega
    have ha0 : LR ι' args args'.toList := by
      rw [ha.plain_eq hargs]; exact LR.plain_refl hargs
    have hc := (sound hS hm ho N).call.c f args ⟨preTr pre, 64⟩ _ st r1 w1 ι' w args' hev hs0 hf0 ha0
    refine CallsIn.mono hc (fun en w1 hpost => ?_)
    obtain ⟨ι2, t, hend⟩ := hpost
    cases en with
    | returned v' =>
      have hv' : v' = u := VR.plain_eq hend hpl
      subst hv'
      -- what stood there stands there
      have hkeep : ∀ x o, s'.h.get x = some o → ∃ L o', ι x = some L ∧ w1.heap[L.b]? = some o' ∧ OR P.cellsOf ι L o o' := by
        intro x o hx
        obtain ⟨L, o', b1, b2, b3⟩ := hs.obj _ _ hx
        by_cases hin : ((preTr pre).get x).isSome
        · obtain ⟨o2, ho2⟩ := Option.isSome_iff_exists.1 hin
          obtain ⟨q1, q2, q3, l, tt, rfl, q4⟩ := hlt ho2
          rw [q2] at hx; cases hx
          obtain ⟨L2, o3, c1, c2, c3⟩ := t.sim.obj x _ q3
          have hL2 : ι2 x = some L := t.ext x L (by simp [ι', q1, b1])
          rw [hL2] at c1; cases c1
          exact ⟨L, o3, b1, c2, c3.flat q4⟩
        · refine ⟨L, o', b1, ?_, b3⟩
          rw [t.frame L.b (Array.getElem?_eq_some_iff.1 b2).1 (fun y Ly hy hLy e => hin ?_)]
          · exact b2
          · obtain ⟨oy, hoy⟩ := Option.isSome_iff_exists.1 hy
            obtain ⟨q1, q2, _⟩ := hlt hoy
            simp only [ι', q1, if_true] at hLy
            have := hs.inj y x Ly L (by rw [q2]; rfl) (by rw [hx]; rfl) hLy b1 e
            rw [← this]; exact hy
      refine ⟨ι, ⟨fun _ _ h => h, fun _ _ => rfl, Nat.le_refl _, ⟨hkeep, hs.inj, hs.glob⟩, fun b hb hx => ?_, fun x L hx hL _ => ⟨x, L, hx, hL, rfl⟩, t.size, t.keep, t.tape, t.os, t.output⟩, VR.plain_refl hpl⟩
      refine t.frame b hb (fun y Ly hy hLy e => ?_)
      obtain ⟨oy, hoy⟩ := Option.isSome_iff_exists.1 hy
      obtain ⟨q1, q2, _⟩ := hlt hoy
      simp only [ι', q1, if_true] at hLy
      exact hx y Ly (by rw [q2]; rfl) hLy e
    | panicked ch => exact hend.elim
    | outgrown => exact hend.elim
  · cases h

structure Memo2 where
  f : FuncId
  a : List Value
  v : Value

def memoFind2 : List Memo2 → FuncId → List Value → Option Memo2
  | [], _, _ => none
  | e :: l, f, a => bif Nat.beq e.f f then (bif eqVs e.a a then some e else memoFind2 l f a) else memoFind2 l f a
theorem memoFind2_some : ∀ {l : List Memo2} {f : FuncId} {a : List Value} {e : Memo2}, memoFind2 l f a = some e → e ∈ l ∧ e.f = f ∧ e.a = a ∧ a.all plain = true
  | [], _, _, _, h => by cases h
  | e :: l, f, a, e', h => by
    unfold memoFind2 at h
    cases hb : Nat.beq e.f f with
    | true =>
      rw [hb] at h
      simp only [cond_true] at h
      cases hc : eqVs e.a a with
      | true =>
        rw [hc] at h
        simp only [cond_true, Option.some.injEq] at h
        subst h
        obtain ⟨h1, h2⟩ := eqVs_ok hc
        exact ⟨by simp, Nat.eq_of_beq_eq_true hb, h1, h1 ▸ h2⟩
      | false =>
        rw [hc] at h
        obtain ⟨h1, h2⟩ := memoFind2_some h
        exact ⟨List.mem_cons_of_mem _ h1, h2⟩
    | false =>
      rw [hb] at h
      obtain ⟨h1, h2⟩ := memoFind2_some h
      exact ⟨List.mem_cons_of_mem _ h1, h2⟩

/-- a table of calls ahead of other summaries -/
noncomputable def memoOrc2 (pre : List (Nat × AObj)) (tbl : List Memo2) (orc : FuncId → List Value → Option (M AEnd)) (f : FuncId) (args : List Value) : Option (M AEnd) :=
  match memoFind2 tbl f args with
  | some e => some (memoM pre e.v)
  | none => orc f args

theorem memoOrc2_ok (hS : SigOK S P) (hm : P.follows .mixedOrders = true) {N : Nat} {pre : List (Nat × AObj)} (hpre : ∀ p ∈ pre, p.1 < 64) {tbl : List Memo2} {orc0 orc : FuncId → List Value → Option (M AEnd)} (ho0 : OrcOK P orc0) (ho : OrcOK P orc)
    (h : ∀ e ∈ tbl, memoChk2 pre e.v (evCall P S orc0 N e.f e.a ⟨preTr pre, 64⟩) = true) : OrcOK P (memoOrc2 pre tbl orc) := by
  have look : ∀ {f : FuncId} {args : List Value} {m : M AEnd}, memoOrc2 pre tbl orc f args = some m → (∃ e, e ∈ tbl ∧ e.f = f ∧ e.a = args ∧ args.all plain = true ∧ m = memoM pre e.v) ∨ orc f args = some m := by
    intro f args m hm
    unfold memoOrc2 at hm
    cases hfd : memoFind2 tbl f args with
    | some e =>
      rw [hfd] at hm
      simp only [Option.some.injEq] at hm
      obtain ⟨h1, h2, h3, h4⟩ := memoFind2_some hfd
      exact .inl ⟨e, h1, h2, h3, h4, hm.symm⟩
    | none =>
      rw [hfd] at hm
      exact .inr hm
  refine ⟨fun f args m hm' => ?_, fun f args m hm' s e s' r k ι w args' hms hs hf ha => ?_⟩
  · rcases look hm' with ⟨e, _, _, _, _, rfl⟩ | h'
    · exact memoM_local
    · exact ho.loc _ _ _ h'
  · rcases look hm' with ⟨e, h1, rfl, rfl, h4, rfl⟩ | h'
    · exact memo_ok2 hS hm ho0 hpre h4 (h _ h1) hms hs ha
    · exact ho.ok _ _ _ h' s _ s' r k ι w args' hms hs hf ha

end Go.Ai
