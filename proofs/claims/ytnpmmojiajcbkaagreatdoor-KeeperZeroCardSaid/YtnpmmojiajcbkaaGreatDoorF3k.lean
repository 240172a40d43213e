import Derived.Test.YtnpmmojiajcbkaaGreatDoorF3s
namespace Go.Ai
open Go.Proofs
theorem dropF_some {α : Type} {o : Option (α × St × Nat × Nat)} {a : α} {s : St} (h : dropF o = some (a, s)) : ∃ r w, o = some (a, s, r, w) := by
  cases o with
  | none => cases h
  | some x =>
    obtain ⟨b, t, r, w⟩ := x
    simp only [dropF, Option.some.injEq, Prod.mk.injEq] at h
    obtain ⟨rfl, rfl⟩ := h
    exact ⟨r, w, rfl⟩
theorem ret6_some {o : Option ((ACtl × AAct) × St × Nat × Nat)} (h : ret6 o = true) : ∃ a st r w, o = some ((.ret, a), st, r, w) ∧ a.t.get 6 = some (.bool true) ∧ a.d = [] ∧ ∀ p ∈ glob, st.h.get p.1 = some p.2 := by
  unfold ret6 at h
  split at h
  · rename_i a st r w
    split at h
    · rename_i hb
      simp only [Bool.and_eq_true] at h
      refine ⟨a, st, r, w, rfl, hb, by simpa using h.1, fun p hp => ?_⟩
      have := List.all_eq_true.1 h.2 p hp
      cases hg : st.h.get p.1 with
      | none => rw [hg] at this; cases this
      | some o2 => rw [hg] at this; rw [(eqObj_ok this).1]
    · cases h
  · cases h
def idOf : Code → Nat | .region i _ _ => i | _ => 0
theorem f3_body : Tryz.f3.body = some (.seq (seqL body3) (.seq (.seq (.region (idOf (seqL (seqL (seqR body3)))) ops1 false) cond1) rest3)) := by kernel_rfl
theorem f3_get : sig.fns.get 3 = some Tryz.f3 := by kernel_rfl
theorem f3_res : Tryz.f3.results.toList = [.tmp 6] := by kernel_rfl
theorem ops_split (n : Nat) : ops1.toList.take n ++ ops1.toList.drop n = ops1.toList := List.take_append_drop n _
theorem ops_split2 : (ops1.toList.drop 4).take 5 ++ ops1.toList.drop 9 = ops1.toList.drop 4 := by
  have := List.take_append_drop 5 (ops1.toList.drop 4)
  rwa [List.drop_drop] at this
theorem evList_append {P : Program} {S : Sig} {call : FuncId → List Value → M AEnd} {ops : Array Oper} : ∀ {l m : List Oper} {a b : AAct} {s s1 : St} {r w : Nat}, evList P S call ops l a s = some ((.normal, b), s1, r, w) →
    ∀ {x : ACtl × AAct} {s2 : St} {r2 w2 : Nat}, evList P S call ops m b s1 = some (x, s2, r2, w2) → ∃ r3 w3, evList P S call ops (l ++ m) a s = some (x, s2, r3, w3)
  | [], m, a, b, s, s1, r, w, h, x, s2, r2, w2, k => by
    obtain ⟨h1, h2⟩ := M.pure_some h
    simp only [Prod.mk.injEq, true_and] at h1
    subst h1; subst h2
    exact ⟨_, _, k⟩
  | o :: l, m, a, b, s, s1, r, w, h, x, s2, r2, w2, k => by
    unfold evList at h
    obtain ⟨y, t, r3, w3, r4, w4, e1, e2, _, _⟩ := bind_inv h
    obtain ⟨c, a1⟩ := y
    cases c with
    | normal =>
      obtain ⟨r5, w5, e3⟩ := evList_append e2 k
      have := bind_mk (f := fun r : ACtl × AAct => match r.1 with | .normal => evList P S call ops (l ++ m) r.2 | c => M.pure (c, r.2)) e1 e3
      exact ⟨_, _, this⟩
    | exit id => obtain ⟨e3, _⟩ := M.pure_some e2; cases e3
    | ret => obtain ⟨e3, _⟩ := M.pure_some e2; cases e3
    | panic ch => obtain ⟨e3, _⟩ := M.pure_some e2; cases e3

section
variable (V : Nat → Value) (T : Nat → ByteArray) (ra : Option Addr) (rl rc : Nat)

/-- what the whole region gives, and what follows, from any place in the region -/
theorem fin_join {l m : List Oper} {a b : AAct} {s s1 : St} {r w : Nat} (h : li l a s = some ((.normal, b), s1, r, w)) {y : ACtl × AAct} {s2 : St} {r2 w2 : Nat}
    (k : fin m b s1 = some (y, s2, r2, w2)) : ∃ r3 w3, fin (l ++ m) a s = some (y, s2, r3, w3) := by
  obtain ⟨b, t, _, _, _, _, e1, e2, _, _⟩ := bind_inv k
  obtain ⟨b2, t2, _, _, _, _, e4, e5, _, _⟩ := bind_inv e1
  obtain ⟨r4, w4, e3⟩ := evList_append h e4
  exact ⟨_, _, bind_mk (bind_mk e3 e5) e2⟩

theorem fin_all : ∃ a st r w, fin ops1.toList (A0 V T ra rl rc) (S0 V T ra rl rc) = some ((.ret, a), st, r, w) ∧ a.t.get 6 = some (.bool true) ∧ a.d = [] ∧ ∀ p ∈ glob, st.h.get p.1 = some p.2 := by
  obtain ⟨r1, w1, h1⟩ := dropF_some (step1 V T ra rl rc)
  have key : ∃ a st r w, fin (ops1.toList.drop 4) (B1 V T ra rl rc (Nat.blt 20 rl)) (S0 V T ra rl rc) = some ((.ret, a), st, r, w) ∧ a.t.get 6 = some (.bool true) ∧ a.d = [] ∧ ∀ p ∈ glob, st.h.get p.1 = some p.2 := by
    cases Nat.blt 20 rl with
    | true => exact ret6_some (fin1 V T ra rl rc)
    | false =>
      obtain ⟨r2, w2, h2⟩ := dropF_some (step2 V T ra rl rc)
      have key2 : ∃ a st r w, fin (ops1.toList.drop 9) (B2 V T ra rl rc (Nat.blt 3000 (T 1).size)) (S0 V T ra rl rc) = some ((.ret, a), st, r, w) ∧ a.t.get 6 = some (.bool true) ∧ a.d = [] ∧ ∀ p ∈ glob, st.h.get p.1 = some p.2 := by
        cases Nat.blt 3000 (T 1).size with
        | true => exact ret6_some (fin2 V T ra rl rc)
        | false => exact ret6_some (fin3 V T ra rl rc)
      obtain ⟨a, st, r, w, h3, h4⟩ := key2
      have := fin_join h2 (m := ops1.toList.drop 9) h3
      rw [ops_split2] at this
      obtain ⟨r5, w5, h5⟩ := this
      exact ⟨a, st, r5, w5, h5, h4⟩
  obtain ⟨a, st, r, w, h3, h4⟩ := key
  have := fin_join h1 (m := ops1.toList.drop 4) h3
  rw [ops_split] at this
  obtain ⟨r5, w5, h5⟩ := this
  exact ⟨a, st, r5, w5, h5, h4⟩
end

theorem f3_run (V : Nat → Value) (T : Nat → ByteArray) (ra : Option Addr) (rl rc : Nat) :
    ∃ st r w, evCall Tryz.prog sig orc3 103 3 (args3 V T ra rl rc) s00 = some (.ret (.bool true), st, r, w) ∧ ∀ p ∈ glob, st.h.get p.1 = some p.2 := by
  obtain ⟨a, st, r, w, h1, h2, h3, h4⟩ := fin_all V T ra rl rc
  obtain ⟨r0, w0, h0⟩ := dropF_some (step0 V T ra rl rc)
  have c2 : evCode Tryz.prog sig orc3 101 (.seq (.seq (.region (idOf (seqL (seqL (seqR body3)))) ops1 false) cond1) rest3) (A0 V T ra rl rc) (S0 V T ra rl rc) = some ((.ret, a), st, r, w) := by
    rw [evCode, evCode, evCode]
    exact h1
  have c3 : ∃ r w, evCode Tryz.prog sig orc3 102 (.seq (seqL body3) (.seq (.seq (.region (idOf (seqL (seqL (seqR body3)))) ops1 false) cond1) rest3)) (initAct Tryz.f3 (args3 V T ra rl rc)) s00 = some ((.ret, a), st, r, w) := by
    rw [evCode]
    exact ⟨_, _, bind_mk (a := ((ACtl.normal, A0 V T ra rl rc) : ACtl × AAct)) h0 c2⟩
  obtain ⟨r3, w3, c3⟩ := c3
  have c4 : ∃ r w, evLeave Tryz.prog sig orc3 102 Tryz.f3 a a.d .returning st = some (.ret (.bool true), st, r, w) := by
    rw [h3, evLeave]
    have : ∃ r w, aresults sig Tryz.f3 a st = some (.bool true, st, r, w) := by
      unfold aresults
      rw [f3_res]
      have : aresultL sig a [.tmp 6] = M.bind (M.lift (a.t.get 6)) fun v => M.bind (M.pure []) fun vs => M.pure (v :: vs) := rfl
      rw [this, h2]
      exact ⟨_, _, bind_mk (bind_mk (m := M.lift (some _)) rfl (bind_mk (m := M.pure _) rfl rfl)) rfl⟩
    obtain ⟨r, w, this⟩ := this
    exact ⟨_, _, bind_mk this rfl⟩
  obtain ⟨r4, w4, c4⟩ := c4
  have c5 : evCall Tryz.prog sig orc3 103 3 (args3 V T ra rl rc) = (M.bind (M.lift (sig.fns.get 3)) fun fn =>
      M.bind (M.lift fn.body) fun body =>
      M.bind (evCode Tryz.prog sig orc3 102 body (initAct fn (args3 V T ra rl rc))) fun r =>
      match r.1 with
      | .normal => evLeave Tryz.prog sig orc3 102 fn r.2 r.2.d .returning
      | .ret => evLeave Tryz.prog sig orc3 102 fn r.2 r.2.d .returning
      | .panic ch => evLeave Tryz.prog sig orc3 102 fn r.2 r.2.d (.panicking ch)
      | .exit _ => M.fail) := by rw [evCall]; rfl
  have c6 : ∃ r w, (M.bind (M.lift Tryz.f3.body) fun body =>
      M.bind (evCode Tryz.prog sig orc3 102 body (initAct Tryz.f3 (args3 V T ra rl rc))) fun r =>
      match r.1 with
      | .normal => evLeave Tryz.prog sig orc3 102 Tryz.f3 r.2 r.2.d .returning
      | .ret => evLeave Tryz.prog sig orc3 102 Tryz.f3 r.2 r.2.d .returning
      | .panic ch => evLeave Tryz.prog sig orc3 102 Tryz.f3 r.2 r.2.d (.panicking ch)
      | .exit _ => M.fail) s00 = some (.ret (.bool true), st, r, w) := by
    rw [f3_body]
    exact ⟨_, _, bind_mk (m := M.lift (some _)) rfl (bind_mk c3 c4)⟩
  obtain ⟨r6, w6, c6⟩ := c6
  rw [c5, f3_get]
  exact ⟨st, _, _, bind_mk (m := M.lift (some _)) rfl c6, h4⟩
end Go.Ai
