/- The abstract evaluator, file 2: an evaluator of the model's code over an abstract heap, and the proof that it is sound. It states nothing of the claim itself. -/
import Derived.Test.YtdkpcdicfeenmaaGreatDoorE1
import Derived.Laws.BytesString
import Derived.Laws.IdiomStrings
import Derived.RangeFuncRecord
import Derived.RangeFuncLeaves
import Derived.OrdersIn
import Derived.RecoverIn
import Derived.Scope
/- The abstract evaluator, part 9: append is sound. -/
namespace Go.Ai
noncomputable section

variable {P : Program}

theorem splA_get_lt : ∀ (vs : List Value) (c : Array Value) (o j : Nat), j < o → (splA c o vs)[j]? = c[j]?
  | [], _, _, _, _ => rfl
  | v :: vs, c, o, j, h => by
    rw [splA, splA_get_lt vs _ _ _ (by omega), Array.getElem?_setIfInBounds_ne (by omega)]

theorem splA_get_in : ∀ (vs : List Value) (c : Array Value) (o j : Nat) (v : Value), vs[j]? = some v → o + j < c.size → (splA c o vs)[o + j]? = some v
  | [], _, _, _, _, h, _ => by simp at h
  | u :: vs, c, o, 0, v, h, hlt => by
    simp at h; subst h
    rw [splA, Nat.add_zero, splA_get_lt vs _ _ _ (by omega)]
    simp at hlt; simp [hlt]
  | u :: vs, c, o, j + 1, v, h, hlt => by
    simp at h
    rw [splA, show o + (j + 1) = (o + 1) + j by omega]
    exact splA_get_in vs _ _ j v h (by simp; omega)

theorem aappend_ok {S : Sig} (hS : SigOK S P) {ts : Array TypeId} {ty : TypeId} {sv x r : Value} {s s' : St} {m k : Nat} {ι : Inj} {w : World} (h : aappend S ts sv x s = some (r, s', m, k)) (hs : Sim P.cellsOf ι s.h w) (hf : Free ι s.n s'.n)
    (hts : ts.size = 2) {sv' x' : Value} (hsv : VR ι sv sv') (hx : VR ι x x') : Out P ι s w s' r (Builtin.append_ ts ty #[sv', x']) := by
  unfold aappend at h
  obtain ⟨t, _, _, e1, h1⟩ := bind_lift h; clear h
  obtain ⟨u, _, _, e2, h2⟩ := bind_lift h1; clear h1
  have htu : ts = #[t, u] := by
    rw [← Array.toList_inj]
    apply List.ext_getElem?
    intro i
    match i with
    | 0 => rw [e1]; rfl
    | 1 => rw [e2]; rfl
    | i + 2 => rw [List.getElem?_eq_none (by simp; omega), List.getElem?_eq_none (by simp)]
  subst htu
  cases e0 : S.und.get t with
  | none => rw [e0] at h2; simp [M.fail] at h2
  | some d =>
  rw [e0] at h2
  cases d with
  | slice e =>
    simp only at h2
    have ht := hS.und _ _ e0
    obtain ⟨⟨size, bytes, zv⟩, _, _, e3, h3⟩ := bind_lift h2; clear h2
    simp only at h3
    obtain ⟨_, _, e4, h4⟩ := bind_guard h3; clear h3
    obtain ⟨⟨num, nw⟩, s1, _, _, _, _, e5, h5⟩ := M.bind_some h4; clear h4
    simp only at h5
    obtain ⟨ti, f1, f2, f3, f4⟩ := hS.inf _ _ _ _ e3
    simp only [Bool.and_eq_true] at e4
    obtain ⟨⟨g1, g2⟩, g3⟩ := e4
    have g1 := Nat.eq_of_beq_eq_true g1
    have g3 := Nat.le_of_ble_eq_true g3
    obtain ⟨rfl, news, n1, n2, n3⟩ := appSrc_ok hS e5 hs hx f2 f3 (zv := zv) rfl g2 g1 (by omega)
    obtain ⟨_, _, e6, h6⟩ := bind_guard h5; clear h5
    have hzs : zv.cells.size = ti.size := by rw [← Array.length_toList, g1, f2]
    have hnl : nw.length = news.length := n1.1.symm
    have hone := n1.all_one1 e6
    split at h6
    · -- nil
      cases hsv
      cases hb : Nat.beq num 0 with
      | true =>
        rw [hb] at h6; simp only [cond_true] at h6
        obtain ⟨rfl, rfl⟩ := M.pure_some h6
        have hn0 := Nat.eq_of_beq_eq_true hb
        have hr := run_app_fit (ty := ty) ht f1 f4 n3 none 0 0 (by omega)
        refine ⟨ι, w, _, ?_, Tran.refl hs, VR.slnil 0 0⟩
        rw [hr, hn0]; rfl
      | false =>
        rw [hb] at h6; simp only [cond_false] at h6
        obtain ⟨_, _, e7, h7⟩ := bind_guard h6; clear h6
        obtain ⟨_, _, e8, h8⟩ := bind_newO h7; clear h7
        obtain ⟨rfl, rfl⟩ := M.pure_some h8; clear h8
        simp only [Bool.and_eq_true] at e7
        have b1 := Nat.le_of_ble_eq_true e7.1
        have b2 := Nat.le_of_ble_eq_true e7.2
        have hpos : 0 < num := by
          rcases Nat.eq_zero_or_pos num with c | c
          · rw [c] at hb; cases hb
          · exact c
        have hr := run_app_grow (ty := ty) ht f1 f4 n3 none 0 0 (by omega) (by omega) (by rw [f3]; simp only [Nat.zero_add]; omega) #[] rfl
        have hf0 : ι s1.n = none := hf _ (Nat.le_refl _) (Nat.lt_succ_self _)
        have hd := Sim.drew (s := s1) hs
        obtain ⟨ι', t1, t2⟩ := growNew_ok (P := P) (s := s1) (w := w.drew) hd.sim e8 hf0 f1 hzs n1 (need := num) (g := grownCap w (0 + num) 0 e) (by rw [n2, f2]) (by have := grownCap_ge w (0 + num) 0 e; omega)
        refine ⟨ι', _, _, hr, ?_, ?_⟩
        · simp only [Nat.zero_add, Array.empty_append] at t1 ⊢
          exact hd.trans t1
        · simp only [Nat.zero_add] at t2 ⊢; exact t2
    · rename_i a o len cap
      obtain ⟨p', cap', rfl, L, hL, hcase⟩ := hsv.row
      cases hb : (Nat.blt cap HALF && Nat.ble (len + num) cap) with
      | true =>
        rw [hb] at h6; simp only [cond_true] at h6
        simp only [Bool.and_eq_true] at hb
        have hc : cap < HALF := by simpa [Nat.blt_eq] using hb.1
        have hle := Nat.le_of_ble_eq_true hb.2
        obtain ⟨_, hcc, hp⟩ := hcase.resolve_right (fun c => by omega)
        subst hcc
        cases hb2 : Nat.beq num 0 with
        | true =>
          rw [hb2] at h6; simp only [cond_true] at h6
          obtain ⟨rfl, rfl⟩ := M.pure_some h6
          have hn0 := Nat.eq_of_beq_eq_true hb2
          have hnews : news = [] := List.eq_nil_of_length_eq_zero (by rw [n2, hn0]; omega)
          have hr := run_app_fit (ty := ty) ht f1 f4 n3 (some p') len cap' hle
          refine ⟨ι, w, _, ?_, Tran.refl hs, hsv⟩
          rw [hr, hn0, hnews]; simp [storeCells]
        | false =>
          rw [hb2] at h6; simp only [cond_false] at h6
          have hpos : 0 < num := by
            rcases Nat.eq_zero_or_pos num with c | c
            · rw [c] at hb2; cases hb2
            · exact c
          have hp : p' = ⟨L.b, L.sh + o, none⟩ := hp.resolve_right (by omega)
          subst hp
          obtain ⟨ob, _, _, e7, _, h7⟩ := bind_getO h6; clear h6
          obtain ⟨c, _, _, e8, h8⟩ := bind_lift h7; clear h7
          obtain ⟨_, _, e9, h9⟩ := bind_guard h8; clear h8
          obtain ⟨_, _, _, hlt, hsz, h10⟩ := bind_setO h9; clear h9
          obtain ⟨rfl, rfl⟩ := M.pure_some h10; clear h10
          have ho := cellsOfO_some e8; subst ho
          obtain ⟨L', oc, a1, a2, a3⟩ := hs.obj _ _ e7
          rw [hL] at a1; cases a1
          obtain ⟨cs, fr, rfl, b2, b3, b4⟩ := a3
          have hle2 := Nat.le_of_ble_eq_true e9
          have hnpos : 0 < nw.length := by rw [hnl, n2]; exact Nat.mul_pos hpos (by omega)
          have hcsz : L.sh + (o + len * size) + nw.length ≤ cs.size := by
            obtain ⟨u', q, _⟩ := b3 (o + len * size + nw.length - 1) _ (List.getElem?_eq_getElem (by omega))
            have := (Array.getElem?_eq_some_iff.1 q).1
            omega
          have hst := run_storeCells_splA (P := P) L.b c.2.1 fr news cs (L.sh + (o + len * size)) 0 w a2 b2 (by rw [← hnl]; omega) hone
          have hr := run_app_fit (ty := ty) ht f1 f4 n3 (some ⟨L.b, L.sh + o, none⟩) len cap' hle
          refine ⟨ι, _, _, ?_, hs.put (by rw [e7]; rfl) hsz hL ⟨_, fr, rfl, by rw [splA_size]; exact b2, CR.spl b3 n1 hcsz, by rw [splA_size]; exact b4⟩ (keepCells a2 (splA_size _ _ _)), VR.sl a o (len + num) cap' L _ hL hc (.inl rfl)⟩
          rw [hr]
          simp only [addr_add, f2]
          rw [Nat.add_zero, ← Nat.add_assoc] at hst
          rw [hst]; simp [Nat.add_assoc]
      | false =>
        rw [hb] at h6; simp only [cond_false] at h6
        cases hb2 : Nat.beq num 0 with
        | true =>
          rw [hb2] at h6; simp only [cond_true] at h6
          obtain ⟨_, _, e7, h7⟩ := bind_guard h6; clear h6
          obtain ⟨rfl, rfl⟩ := M.pure_some h7; clear h7
          have hh := Nat.le_of_ble_eq_true e7
          have hn0 := Nat.eq_of_beq_eq_true hb2
          have hnews : news = [] := List.eq_nil_of_length_eq_zero (by rw [n2, hn0]; omega)
          obtain ⟨_, _, q3, _⟩ := hcase.resolve_left (fun c => by omega)
          have hr := run_app_fit (ty := ty) ht f1 f4 n3 (some p') len cap' (by omega)
          refine ⟨ι, w, _, ?_, Tran.refl hs, hsv⟩
          rw [hr, hn0, hnews]; simp [storeCells]
        | false =>
          rw [hb2] at h6; simp only [cond_false] at h6
          have hpos : 0 < num := by
            rcases Nat.eq_zero_or_pos num with c | c
            · rw [c] at hb2; cases hb2
            · exact c
          obtain ⟨_, _, e7, h7⟩ := bind_guard h6; clear h6
          simp only [Bool.and_eq_true] at e7
          have b1 := Nat.le_of_ble_eq_true e7.1
          have b2 := Nat.le_of_ble_eq_true e7.2
          obtain ⟨old, s2, _, _, _, _, k1, k2⟩ := M.bind_some h7; clear h7
          obtain ⟨rfl, old', q1, q2, q3⟩ := srcCells_ok k1 hs rfl hsv (by omega) (Nat.le_refl _)
          have hold : ∀ w1, w1.heap = w.heap → (Builtin.firstCells ti.size len (.slice (some p') len cap')).run P w1 = .ok old'.toArray w1 := by rw [f2]; exact q3
          have hon : LR ι (old ++ nw) (old' ++ news) := q1.append n1
          have honl : (old' ++ news).length = (len + num) * ti.size := by rw [List.length_append, q2, n2, f2, Nat.add_mul]
          have grow : cap' < len + num → (Builtin.append_ #[t, u] ty #[.slice (some p') len cap', x']).run P w = .ok (.slice (some ⟨w.heap.size, 0, none⟩) (len + num) (grownCap w (len + num) cap' e)) (w.drew.alloc (.cells ((old' ++ news).toArray ++ Builtin.zeroCells zv.cells (grownCap w (len + num) cap' e - (len + num))) e)) := by
            intro hg
            have := run_app_grow (ty := ty) ht f1 f4 n3 (some p') len cap' hg (by omega) (by rw [f3]; omega) old'.toArray (hold w.drew rfl)
            rw [this]; simp
          cases hc : Nat.blt cap HALF with
          | true =>
            rw [hc] at k2; simp only [cond_true] at k2
            have hc' : cap < HALF := by simpa [Nat.blt_eq] using hc
            obtain ⟨_, hcc, _⟩ := hcase.resolve_right (fun c => by omega)
            subst hcc
            have hg : cap' < len + num := by
              rcases Nat.lt_or_ge cap' (len + num) with c | c
              · exact c
              · rw [hc, Nat.ble_eq_true_of_le c] at hb; cases hb
            obtain ⟨_, _, e8, h8⟩ := bind_newO k2; clear k2
            obtain ⟨rfl, rfl⟩ := M.pure_some h8; clear h8
            have hf0 : ι s2.n = none := hf _ (Nat.le_refl _) (Nat.lt_succ_self _)
            have hd := Sim.drew (s := s2) hs
            obtain ⟨ι', t1, t2⟩ := growNew_ok (P := P) (s := s2) (w := w.drew) hd.sim e8 hf0 f1 hzs hon (need := len + num) (g := grownCap w (len + num) cap' e) honl (grownCap_ge w (len + num) cap' e)
            exact ⟨ι', _, _, grow hg, hd.trans t1, t2⟩
          | false =>
            rw [hc] at k2; simp only [cond_false] at k2
            have hc' : HALF ≤ cap := by
              rcases Nat.lt_or_ge cap HALF with c | c
              · rw [show Nat.blt cap HALF = true by simpa [Nat.blt_eq] using c] at hc; cases hc
              · exact c
            obtain ⟨_, ht', hle, hp⟩ := hcase.resolve_left (fun c => by omega)
            obtain ⟨ob, _, _, e8, _, h8⟩ := bind_getO k2; clear k2
            obtain ⟨c, _, _, e9, h9⟩ := bind_lift h8; clear h8
            obtain ⟨_, _, e10, h10⟩ := bind_guard h9; clear h9
            obtain ⟨_, _, _, hlt, hsz, h11⟩ := bind_moveO h10; clear h10
            obtain ⟨rfl, rfl⟩ := M.pure_some h11; clear h11
            have ho := cellsOfO_some e9; subst ho
            simp only [Bool.and_eq_true] at e10
            obtain ⟨⟨⟨x1, x2⟩, x3⟩, x4⟩ := e10
            have x2 := Nat.eq_of_beq_eq_true x2
            have x3 := Nat.le_of_ble_eq_true x3
            have x4 := Nat.eq_of_beq_eq_true x4
            obtain ⟨L', oc, a1, a2, a3⟩ := hs.obj _ _ e8
            rw [hL] at a1; cases a1
            obtain ⟨cs, fr, rfl, y2, y3, y4⟩ := a3
            have hf0 : ι s2.n = none := hf _ (Nat.le_refl _) (Nat.lt_succ_self _)
            rw [x1] at y4
            simp only [if_true] at y4
            have hce : P.cellsOf c.2.1 = size := by simp [Program.cellsOf, x2, f1, f2]
            rw [hce] at y4
            have hLt : L.t * size = cap' * size + o := by
              have : L.t = cap' + (TOP - cap) := by omega
              rw [this, Nat.add_mul, x4]
            by_cases hg : cap' < len + num
            · have hd := Sim.drew (s := s2) hs
              have hdrop := Sim.drop (s := s2) (w := w.drew) hd.sim a (by have := hsz.1; omega)
              obtain ⟨ι', t1, t2⟩ := growNew_ok (P := P) (s := ⟨s2.h.set 64 a none, s2.n⟩) (w := w.drew) hdrop.sim hsz hf0 f1 hzs hon (need := len + num) (g := grownCap w (len + num) cap' e) honl (grownCap_ge w (len + num) cap' e)
              exact ⟨ι', _, _, grow hg, (hd.trans hdrop).trans t1, t2⟩
            · have hp : p' = ⟨L.b, L.sh + o, none⟩ := hp.resolve_right (by omega)
              subst hp
              have hfit : (len + num) * size ≤ cap' * size := Nat.mul_le_mul_right _ (by omega)
              have hnl' : news.length = num * size := n2
              rw [Nat.add_mul] at hfit
              have hst := run_storeCells_splA (P := P) L.b c.2.1 fr news cs (L.sh + o + len * size) 0 w a2 y2 (by rw [hnl']; omega) hone
              have hr := run_app_fit (ty := ty) ht f1 f4 n3 (some ⟨L.b, L.sh + o, none⟩) len cap' (by omega)
              have hle' := Inj.add_le ⟨L.b, L.sh + o, cap'⟩ hf0
              refine ⟨ι.add s2.n ⟨L.b, L.sh + o, cap'⟩, _, _, ?_, hs.move (by rw [e8]; rfl) hlt hsz hf0 hL (L.sh + o) cap' (o := .cells (old ++ nw) e true) ⟨splA cs (L.sh + o + len * size) news, fr, rfl, by rw [splA_size]; exact y2, ?_, ?_⟩ (keepCells (by rw [← x2]; exact a2) (splA_size _ _ _)), VR.slo s2.n 0 (len + num) TOP cap' ⟨L.b, L.sh + o, cap'⟩ ⟨L.b, L.sh + o, none⟩ (Inj.add_same _ _ _) (by unfold HALF TOP; omega) rfl (by omega) (.inl rfl)⟩
              · rw [hr]
                simp only [addr_add, f2]
                rw [Nat.add_zero] at hst
                rw [hst, ← x2]; rfl
              · intro i v hv
                show ∃ v', (splA cs (L.sh + o + len * size) news)[L.sh + o + i]? = some v' ∧ _
                have holdl : old.length = len * size := by rw [← q1.1, q2]
                by_cases hi : i < old.length
                · rw [List.getElem?_append_left hi] at hv
                  rw [splA_get_lt _ _ _ _ (by omega)]
                  -- the old cells
                  unfold srcCells at k1
                  obtain ⟨ob, _, _, z1, _, k3⟩ := bind_getO k1
                  rw [e8] at z1; cases z1
                  obtain ⟨c2, _, _, z2, k4⟩ := bind_lift k3
                  cases z2
                  obtain ⟨_, _, _, k5⟩ := bind_guard k4
                  obtain ⟨z3, _⟩ := M.pure_some k5
                  rw [z3, List.getElem?_take] at hv
                  split at hv
                  · rw [List.getElem?_drop] at hv
                    obtain ⟨v', aa, bb⟩ := y3 _ _ hv
                    exact ⟨v', by rw [Nat.add_assoc]; exact aa, bb.mono hle'⟩
                  · cases hv
                · rw [List.getElem?_append_right (by omega)] at hv
                  obtain ⟨v', aa, bb⟩ := n1.get hv
                  have hj : i - old.length < news.length := (List.getElem?_eq_some_iff.1 aa).1
                  refine ⟨v', ?_, bb.mono hle'⟩
                  have := splA_get_in news cs (L.sh + o + len * size) (i - old.length) v' aa (by omega)
                  rw [← this]; congr 1; omega
              · simp only [if_true]
                show L.sh + o + cap' * P.cellsOf e ≤ _
                rw [splA_size]
                have : P.cellsOf e = size := by rw [← x2]; exact hce
                rw [this]; omega
    · simp [M.fail] at h6
  | _ => simp [M.fail] at h2

end
end Go.Ai
/- The abstract evaluator, part 10: copy, clear, len and their like; bytes and strings; maps. -/
namespace Go.Ai
noncomputable section

variable {P : Program}

section
variable (S : Sig)

def acopy (ts : Array TypeId) (d x : Value) : M Value :=
  M.bind (M.lift ts.toList[0]?) fun t =>
  match S.und.get t with
  | some (.slice e) =>
    M.bind (M.lift (S.inf.get e)) fun i =>
    M.bind (M.guard (Nat.ble 1 i.1)) fun _ =>
    M.bind (M.lift (srcOf x)) fun c =>
    M.bind (M.lift (srcLen c)) fun n =>
    match d with
    | .slice none dl _ => bif Nat.beq (Nat.min n dl) 0 then M.pure (.int .i64 0) else M.fail
    | .slice (some ⟨a, o, none⟩) dl _ =>
      let k := Nat.min n dl
      bif Nat.beq k 0 then M.pure (.int .i64 0)
      else
        M.bind (srcCells i.1 k c) fun cells =>
        M.bind (M.getO a) fun ob =>
        M.bind (M.lift (cellsOfO ob)) fun cc =>
        M.bind (M.guard (Nat.ble (o + cells.length) cc.1.length && cells.all one1)) fun _ =>
        M.bind (M.setO a (.cells (splL cc.1 o cells) cc.2.1 cc.2.2)) fun _ => M.pure (.int .i64 k)
    | _ => M.fail
  | _ => M.fail

def alen (ts : Array TypeId) (v : Value) : M Value :=
  M.bind (M.lift ts.toList[0]?) fun t =>
  match S.und.get t, v with
  | some .string, .string s => M.pure (.int .i64 s.size)
  | some (.slice _), .slice _ n _ => M.pure (.int .i64 n)
  | some (.array n _), _ => M.pure (.int .i64 n)
  | some (.map _ _), .map none => M.pure (.int .i64 0)
  | some (.map _ _), .map (some x) =>
    M.bind (M.getO x) fun o => match o with
      | .map es _ => M.pure (.int .i64 es.length)
      | _ => M.fail
  | _, _ => M.fail

def acap (ts : Array TypeId) (v : Value) : M Value :=
  M.bind (M.lift ts.toList[0]?) fun t =>
  match S.und.get t, v with
  | some (.slice _), .slice _ _ c => bif Nat.blt c HALF then M.pure (.int .i64 c) else M.fail
  | _, _ => M.fail

def aclear (ts : Array TypeId) (v : Value) : M Value :=
  M.bind (M.lift ts.toList[0]?) fun t =>
  match S.und.get t, v with
  | some _, .map none => M.pure (.tuple #[])
  | some _, .slice none _ _ => M.pure (.tuple #[])
  | some (.map _ _), .map (some x) =>
    M.bind (M.getO x) fun o => match o with
      | .map _ clock => M.bind (M.setO x (.map [] clock)) fun _ => M.pure (.tuple #[])
      | _ => M.fail
  | some (.slice e), .slice (some ⟨a, o, none⟩) n _ =>
    bif Nat.beq n 0 then M.pure (.tuple #[])
    else
      M.bind (M.lift (S.inf.get e)) fun i =>
      let z := i.2.2.cells.toList
      M.bind (M.getO a) fun ob =>
      M.bind (M.lift (cellsOfO ob)) fun cc =>
      M.bind (M.guard (Nat.ble 1 z.length && Nat.ble (o + n * z.length) cc.1.length && z.all flat)) fun _ =>
      M.bind (M.setO a (.cells (splL cc.1 o (repL n z)) cc.2.1 cc.2.2)) fun _ => M.pure (.tuple #[])
  | _, _ => M.fail

/-- string(b) -/
def abytesStr (src dst : TypeId) (v : Value) : M Value :=
  match S.und.get src, S.und.get dst with
  | some (.slice e), some .string =>
    match S.und.get e, v with
    | some (.int .u8), .slice none _ _ => M.pure (.string ByteArray.empty)
    | some (.int .u8), .slice (some ⟨x, o, none⟩) n _ =>
      bif Nat.beq n 0 then M.pure (.string ByteArray.empty)
      else
        M.bind (M.getO x) fun ob =>
        M.bind (M.lift (cellsOfO ob)) fun c =>
        let l := (c.1.drop o).take n
        M.bind (M.guard (Nat.beq l.length n)) fun _ =>
        M.bind (M.lift (bytesOf l)) fun bs => M.pure (.string ⟨(bs.map fun b : Int => UInt8.ofNat b.toNat).toArray⟩)
    | _, _ => M.fail
  | _, _ => M.fail
where bytesOf : List Value → Option (List Int)
  | [] => some []
  | .int .u8 n :: l => match bytesOf l with | some r => some (n :: r) | none => none
  | _ => none

/-- []byte(s) -/
def astrBytes (src dst : TypeId) (s : ByteArray) : M Value :=
  match S.und.get src, S.und.get dst with
  | some .string, some (.slice e) =>
    match S.und.get e, S.inf.get e with
    | some (.int .u8), some i =>
      M.bind (M.guard (Nat.beq i.1 1)) fun _ =>
      M.bind (M.newO (.cells (strCells s) e true)) fun x => M.pure (.slice (some ⟨x, 0, none⟩) s.size TOP)
    | _, _ => M.fail
  | _, _ => M.fail

end

theorem arr2 {ts : Array TypeId} {t : TypeId} (h : ts.toList[0]? = some t) : ts[0]? = some t := by simpa using h

theorem strCells_flat (s : ByteArray) : (strCells s).all flat = true := by
  rw [List.all_eq_true]; intro v hv
  simp only [strCells, List.mem_map] at hv
  obtain ⟨b, _, rfl⟩ := hv; rfl

theorem srcLen_ge {c : Src} {n k : Nat} (hn : srcLen c = some n) (hk : k ≤ n) : srcLe c k := by
  cases c with
  | row x o m => simp only [srcLen, Option.some.injEq] at hn; simp only [srcLe]; omega
  | none => trivial
  | str s => simp only [srcLen, Option.some.injEq] at hn; simp only [srcLe]; omega

theorem acopy_ok {S : Sig} (hS : SigOK S P) {ts : Array TypeId} {ty : TypeId} {d x r : Value} {s s' : St} {m k : Nat} {ι : Inj} {w : World} (h : acopy S ts d x s = some (r, s', m, k)) (hs : Sim P.cellsOf ι s.h w)
    {d' x' : Value} (hd : VR ι d d') (hx : VR ι x x') : Out P ι s w s' r (Builtin.copy_ ts ty #[d', x']) := by
  unfold acopy at h
  obtain ⟨t, _, _, e1, h1⟩ := bind_lift h; clear h
  cases e0 : S.und.get t with
  | none => rw [e0] at h1; simp [M.fail] at h1
  | some dd =>
  rw [e0] at h1
  cases dd with
  | slice e =>
    simp only at h1
    have ht := run_underlying (hS.und _ _ e0)
    obtain ⟨⟨size, bytes, zv⟩, _, _, e3, h3⟩ := bind_lift h1; clear h1
    simp only at h3
    obtain ⟨_, _, e4, h4⟩ := bind_guard h3; clear h3
    obtain ⟨c, _, _, e5, h5⟩ := bind_lift h4; clear h4
    obtain ⟨n, _, _, e6, h6⟩ := bind_lift h5; clear h5
    obtain ⟨ti, f1, f2, f3, f4⟩ := hS.inf _ _ _ _ e3
    have hpos := Nat.le_of_ble_eq_true e4
    have hlen := fun w1 => (srcOf_len (P := P) e5 hx e6 w1).1
    have hsz := run_sizeOf f1 w
    rw [f2] at hsz
    split at h6
    · rename_i dl cp
      cases hd
      cases hb : Nat.beq (Nat.min n dl) 0 with
      | false => rw [hb] at h6; simp [M.fail] at h6
      | true =>
        rw [hb] at h6; simp only [cond_true] at h6
        obtain ⟨rfl, rfl⟩ := M.pure_some h6
        have hk := Nat.eq_of_beq_eq_true hb
        have hf0 : ∃ a, (Builtin.firstCells size 0 x').run P w = .ok a w := by
          unfold srcOf at e5
          split at e5
          · cases hx; exact ⟨_, rfl⟩
          · obtain ⟨p', cap', rfl, _⟩ := hx.row
            exact ⟨#[], by simp [Builtin.firstCells, loadCells, loadCellsFrom]⟩
          · cases hx; exact ⟨_, rfl⟩
          · cases e5
        obtain ⟨a, ha⟩ := hf0
        refine ⟨ι, w, _, ?_, Tran.refl hs, VR.int _ _⟩
        simp [Builtin.copy_, arr2 e1, ht, hlen, hk, hsz, ha, goInt]
    · rename_i a o dl cp
      obtain ⟨p', cap', rfl, L, hL, hcase⟩ := hd.row
      cases hb : Nat.beq (Nat.min n dl) 0 with
      | true =>
        simp only [hb, cond_true] at h6
        obtain ⟨rfl, rfl⟩ := M.pure_some h6
        have hk := Nat.eq_of_beq_eq_true hb
        have hf0 : (Builtin.firstCells size 0 x').run P w = .ok #[] w := by
          unfold srcOf at e5
          split at e5
          · cases hx; rfl
          · obtain ⟨p', cap', rfl, _⟩ := hx.row
            simp [Builtin.firstCells, loadCells, loadCellsFrom]
          · cases hx; simp [Builtin.firstCells]
          · cases e5
        refine ⟨ι, w, _, ?_, Tran.refl hs, VR.int _ _⟩
        simp [Builtin.copy_, arr2 e1, ht, hlen, hk, hsz, hf0, goInt, storeCells]
      | false =>
        simp only [hb, cond_false] at h6
        have hkpos : 0 < Nat.min n dl := by
          rcases Nat.eq_zero_or_pos (Nat.min n dl) with c | c
          · rw [c] at hb; cases hb
          · exact c
        have hdl : Nat.min n dl ≤ dl := Nat.min_le_right _ _
        have hp : p' = ⟨L.b, L.sh + o, none⟩ := by
          rcases hcase with ⟨_, _, x2⟩ | ⟨_, _, x3, x2⟩ <;> exact x2.resolve_right (by omega)
        subst hp
        obtain ⟨cells, s1, _, _, _, _, k1, k2⟩ := M.bind_some h6; clear h6
        obtain ⟨rfl, news, q1, q2, q3⟩ := srcCells_ok k1 hs e5 hx (by omega) (srcLen_ge e6 (Nat.min_le_left _ _))
        obtain ⟨ob, _, _, e7, _, h7⟩ := bind_getO k2; clear k2
        obtain ⟨cc, _, _, e8, h8⟩ := bind_lift h7; clear h7
        obtain ⟨_, _, e9, h9⟩ := bind_guard h8; clear h8
        obtain ⟨_, _, _, hlt, hszz, h10⟩ := bind_setO h9; clear h9
        obtain ⟨rfl, rfl⟩ := M.pure_some h10; clear h10
        have ho := cellsOfO_some e8; subst ho
        obtain ⟨L', oc, a1, a2, a3⟩ := hs.obj _ _ e7
        rw [hL] at a1; cases a1
        obtain ⟨cs, fr, rfl, b2, b3, b4⟩ := a3
        simp only [Bool.and_eq_true] at e9
        have hle2 := Nat.le_of_ble_eq_true e9.1
        have hl2 : cells.length = news.length := q1.1.symm
        have hnpos : 0 < cells.length := by rw [hl2, q2]; exact Nat.mul_pos hkpos hpos
        have hcsz : L.sh + o + cells.length ≤ cs.size := by
          obtain ⟨u', q, _⟩ := b3 (o + cells.length - 1) _ (List.getElem?_eq_getElem (by omega))
          have := (Array.getElem?_eq_some_iff.1 q).1
          omega
        have hst := run_storeCells_splA (P := P) L.b cc.2.1 fr news cs (L.sh + o) 0 w a2 b2 (by rw [← hl2]; omega) (q1.all_one1 e9.2)
        refine ⟨ι, _, _, ?_, hs.put (by rw [e7]; rfl) hszz hL ⟨_, fr, rfl, by rw [splA_size]; exact b2, CR.spl b3 q1 hcsz, by rw [splA_size]; exact b4⟩ (keepCells a2 (splA_size _ _ _)), VR.int _ _⟩
        have q3 := q3 w rfl
        simp only [Builtin.copy_, Sem.run_bind, Sem.run_pure, List.getElem?_toArray, List.getElem?_cons_zero, List.getElem?_cons_succ, arr2 e1, ht, Result.andThen_ok, hlen, hsz, q3]
        rw [Nat.add_zero] at hst
        simp only [hst, Result.andThen_ok, goInt]
    · simp [M.fail] at h6
  | _ => simp [M.fail] at h1

def isCellsO : Obj → Bool
  | .cells .. => true
  | _ => false

theorem run_getObj {w : World} {b : Nat} {o : Obj} (hc : isCellsO o = false) (h : w.heap[b]? = some o) : (getObj b).run P w = .ok o w := by
  simp only [getObj, Sem.run, h]
  cases o <;> first | rfl | (simp [isCellsO] at hc)

theorem run_setObj {w : World} {b : Nat} {o o2 : Obj} (hc : isCellsO o = false) (h : w.heap[b]? = some o) : (setObj b o2).run P w = .ok () (wput w b o2) := by
  simp only [setObj, Sem.run, h]
  cases o <;> first | rfl | (simp [isCellsO] at hc)

theorem alen_ok {S : Sig} (hS : SigOK S P) {ts : Array TypeId} {ty : TypeId} {v r : Value} {s s' : St} {m k : Nat} {ι : Inj} {w : World} (h : alen S ts v s = some (r, s', m, k)) (hs : Sim P.cellsOf ι s.h w)
    {v' : Value} (hv : VR ι v v') : Out P ι s w s' r (Builtin.len_ ts ty #[v']) := by
  unfold alen at h
  obtain ⟨t, _, _, e1, h1⟩ := bind_lift h; clear h
  generalize e0 : S.und.get t = dd at h1
  split at h1
  · obtain ⟨rfl, rfl⟩ := M.pure_some h1; cases hv
    exact ⟨ι, w, _, by simp [Builtin.len_, arr2 e1, run_underlying (hS.und _ _ e0), goInt], Tran.refl hs, VR.int _ _⟩
  · rename_i a n c
    obtain ⟨rfl, rfl⟩ := M.pure_some h1
    have : ∃ a' c', v' = .slice a' n c' := by cases hv <;> exact ⟨_, _, rfl⟩
    obtain ⟨a', c', rfl⟩ := this
    exact ⟨ι, w, _, by simp [Builtin.len_, arr2 e1, run_underlying (hS.und _ _ e0), goInt], Tran.refl hs, VR.int _ _⟩
  · rename_i n e _
    obtain ⟨rfl, rfl⟩ := M.pure_some h1
    exact ⟨ι, w, _, by simp [Builtin.len_, arr2 e1, run_underlying (hS.und _ _ e0), goInt], Tran.refl hs, VR.int _ _⟩
  · obtain ⟨rfl, rfl⟩ := M.pure_some h1; cases hv
    exact ⟨ι, w, _, by simp [Builtin.len_, arr2 e1, run_underlying (hS.und _ _ e0), goInt], Tran.refl hs, VR.int _ _⟩
  · rename_i x
    obtain ⟨o, _, _, e2, _, h2⟩ := bind_getO h1; clear h1
    split at h2
    · rename_i es clock
      obtain ⟨rfl, rfl⟩ := M.pure_some h2
      cases hv with | map a L hL =>
      obtain ⟨L', oc, a1, a2, a3⟩ := hs.obj _ _ e2
      rw [hL] at a1; cases a1
      obtain ⟨es', rfl, b2, b3⟩ := a3
      refine ⟨ι, w, _, ?_, Tran.refl hs, VR.int _ _⟩
      have hg : (getObj L.b).run P w = .ok (.map es' clock) w := run_getObj rfl a2
      simp [Builtin.len_, arr2 e1, run_underlying (hS.und _ _ e0), goInt, hg, b2]
    · simp [M.fail] at h2
  · simp [M.fail] at h1

theorem acap_ok {S : Sig} (hS : SigOK S P) {ts : Array TypeId} {ty : TypeId} {v r : Value} {s s' : St} {m k : Nat} {ι : Inj} {w : World} (h : acap S ts v s = some (r, s', m, k)) (hs : Sim P.cellsOf ι s.h w)
    {v' : Value} (hv : VR ι v v') : Out P ι s w s' r (Builtin.cap_ ts ty #[v']) := by
  unfold acap at h
  obtain ⟨t, _, _, e1, h1⟩ := bind_lift h; clear h
  generalize e0 : S.und.get t = dd at h1
  split at h1
  · rename_i a n c
    cases hb : Nat.blt c HALF with
    | false => rw [hb] at h1; simp [M.fail] at h1
    | true =>
      rw [hb] at h1; simp only [cond_true] at h1
      have hc : c < HALF := by simpa [Nat.blt_eq] using hb
      obtain ⟨rfl, rfl⟩ := M.pure_some h1
      have : ∃ a', v' = .slice a' n c := by
        cases hv with
        | slnil => exact ⟨_, rfl⟩
        | sl => exact ⟨_, rfl⟩
        | slo _ _ _ _ _ _ _ _ hh => omega
      obtain ⟨a', rfl⟩ := this
      exact ⟨ι, w, _, by simp [Builtin.cap_, arr2 e1, run_underlying (hS.und _ _ e0), goInt], Tran.refl hs, VR.int _ _⟩
  · simp [M.fail] at h1

theorem aclear_ok {S : Sig} (hS : SigOK S P) {ts : Array TypeId} {ty : TypeId} {v r : Value} {s s' : St} {m k : Nat} {ι : Inj} {w : World} (h : aclear S ts v s = some (r, s', m, k)) (hs : Sim P.cellsOf ι s.h w)
    {v' : Value} (hv : VR ι v v') : Out P ι s w s' r (Builtin.clear_ ts ty #[v']) := by
  unfold aclear at h
  obtain ⟨t, _, _, e1, h1⟩ := bind_lift h; clear h
  have ht2 : VR ι (.tuple #[]) (.tuple #[]) := VR.tuple _ _ rfl (fun i v v' a => by simp at a)
  generalize e0 : S.und.get t = dd at h1
  split at h1
  · obtain ⟨rfl, rfl⟩ := M.pure_some h1; cases hv
    exact ⟨ι, w, _, by simp [Builtin.clear_, arr2 e1, run_underlying (hS.und _ _ e0)], Tran.refl hs, ht2.mono (fun _ _ h => h)⟩
  · obtain ⟨rfl, rfl⟩ := M.pure_some h1; cases hv
    exact ⟨ι, w, _, by simp [Builtin.clear_, arr2 e1, run_underlying (hS.und _ _ e0)], Tran.refl hs, ht2.mono (fun _ _ h => h)⟩
  · rename_i x
    obtain ⟨o, _, _, e2, _, h2⟩ := bind_getO h1; clear h1
    split at h2
    · rename_i es clock
      obtain ⟨_, _, _, hlt, hsz, h3⟩ := bind_setO h2; clear h2
      obtain ⟨rfl, rfl⟩ := M.pure_some h3
      cases hv with | map a L hL =>
      obtain ⟨L', oc, a1, a2, a3⟩ := hs.obj _ _ e2
      rw [hL] at a1; cases a1
      obtain ⟨es', rfl, b2, b3⟩ := a3
      refine ⟨ι, _, _, ?_, hs.put (by rw [e2]; rfl) hsz hL (o := .map [] clock) ⟨#[], rfl, rfl, fun i k v b hh => by simp at hh⟩ (keepNot a2 (fun _ _ _ h => by cases h)), ht2⟩
      have hg : (getObj L.b).run P w = .ok (.map es' clock) w := run_getObj rfl a2
      have hst : (setObj L.b (.map #[] clock)).run P w = .ok () (wput w L.b (.map #[] clock)) := run_setObj rfl a2
      simp [Builtin.clear_, arr2 e1, run_underlying (hS.und _ _ e0), hg, hst]
    · simp [M.fail] at h2
  · rename_i e a o n c
    obtain ⟨p', cap', rfl, L, hL, hcase⟩ := hv.row
    cases hb : Nat.beq n 0 with
    | true =>
      rw [hb] at h1; simp only [cond_true] at h1
      obtain ⟨rfl, rfl⟩ := M.pure_some h1
      have hn := Nat.eq_of_beq_eq_true hb; subst hn
      exact ⟨ι, w, _, by simp [Builtin.clear_, arr2 e1, run_underlying (hS.und _ _ e0)], Tran.refl hs, ht2⟩
    | false =>
      rw [hb] at h1; simp only [cond_false] at h1
      have hpos : 0 < n := by
        rcases Nat.eq_zero_or_pos n with c | c
        · rw [c] at hb; cases hb
        · exact c
      obtain ⟨⟨size, bytes, zv⟩, _, _, e3, h3⟩ := bind_lift h1; clear h1
      simp only at h3
      obtain ⟨ob, _, _, e7, _, h7⟩ := bind_getO h3; clear h3
      obtain ⟨cc, _, _, e8, h8⟩ := bind_lift h7; clear h7
      obtain ⟨_, _, e9, h9⟩ := bind_guard h8; clear h8
      obtain ⟨_, _, _, hlt, hszz, h10⟩ := bind_setO h9; clear h9
      obtain ⟨rfl, rfl⟩ := M.pure_some h10; clear h10
      obtain ⟨ti, f1, f2, f3, f4⟩ := hS.inf _ _ _ _ e3
      have hp : p' = ⟨L.b, L.sh + o, none⟩ := by
        rcases hcase with ⟨_, _, x2⟩ | ⟨_, _, x3, x2⟩ <;> exact x2.resolve_right (by omega)
      subst hp
      have ho := cellsOfO_some e8; subst ho
      obtain ⟨L', oc, a1, a2, a3⟩ := hs.obj _ _ e7
      rw [hL] at a1; cases a1
      obtain ⟨cs, fr, rfl, b2, b3, b4⟩ := a3
      simp only [Bool.and_eq_true] at e9
      obtain ⟨⟨q1, q2⟩, q3⟩ := e9
      have q1 := Nat.le_of_ble_eq_true q1
      have q2 := Nat.le_of_ble_eq_true q2
      have hl2 := repL_length n zv.cells.toList
      have hnpos : 0 < n * zv.cells.toList.length := Nat.mul_pos hpos q1
      have hcsz : L.sh + o + (repL n zv.cells.toList).length ≤ cs.size := by
        obtain ⟨u', q, _⟩ := b3 (o + n * zv.cells.toList.length - 1) _ (List.getElem?_eq_getElem (by omega))
        have := (Array.getElem?_eq_some_iff.1 q).1
        omega
      have hfl := (LR.flat_refl (ι := ι) q3).repL n
      have hone : ∀ v ∈ repL n zv.cells.toList, v.oneCell' = true := by
        intro v hv
        obtain ⟨i, hi, rfl⟩ := List.mem_iff_getElem.1 hv
        have hlt : i < n * zv.cells.toList.length := by rw [← hl2]; exact hi
        have hg := repL_get n zv.cells.toList i hlt
        rw [List.getElem?_eq_getElem hi] at hg
        have hm := List.mem_of_getElem? hg.symm
        have := List.all_eq_true.1 q3 _ hm
        cases hx : (repL n zv.cells.toList)[i] <;> rw [hx] at this <;> first | rfl | (simp [flat] at this)
      have hst := run_storeCells_splA (P := P) L.b cc.2.1 fr (repL n zv.cells.toList) cs (L.sh + o) 0 w a2 b2 (by omega) hone
      have hzv : (zeroValue e).run P w = .ok zv w := by simp [zeroValue, typeInfo, f1, f4]
      have hrep := zeroCells_rep zv.cells n (by have := q1; simp only [Array.length_toList] at this; omega)
      refine ⟨ι, _, _, ?_, hs.put (by rw [e7]; rfl) hszz hL ⟨_, fr, rfl, by rw [splA_size]; exact b2, CR.spl b3 hfl hcsz, by rw [splA_size]; exact b4⟩ (keepCells a2 (splA_size _ _ _)), ht2⟩
      rw [Nat.add_zero] at hst
      have hn0 : n ≠ 0 := by omega
      cases n with
      | zero => exact absurd rfl hn0
      | succ n => simp [Builtin.clear_, arr2 e1, run_underlying (hS.und _ _ e0), hzv, hrep, hst]
  · simp [M.fail] at h1

theorem bytesOf_some : ∀ {l : List Value} {bs : List Int}, abytesStr.bytesOf l = some bs → l = bs.map (Value.int .u8)
  | [], bs, h => by simp only [abytesStr.bytesOf, Option.some.injEq] at h; subst h; rfl
  | v :: l, bs, h => by
    unfold abytesStr.bytesOf at h
    split at h
    · rename_i he; cases he
    · rename_i n l' he
      cases he
      split at h
      · rename_i r e
        cases h
        rw [bytesOf_some e]; rfl
      · cases h
    · cases h

theorem abytesStr_ok {S : Sig} (hS : SigOK S P) {src dst : TypeId} {v r : Value} {s s' : St} {m k : Nat} {ι : Inj} {w : World} (h : abytesStr S src dst v s = some (r, s', m, k)) (hs : Sim P.cellsOf ι s.h w)
    {v' : Value} (hv : VR ι v v') : Out P ι s w s' r (convert src dst v') := by
  unfold abytesStr at h
  generalize e0 : S.und.get src = d0 at h
  generalize e1 : S.und.get dst = d1 at h
  split at h
  · rename_i e
    generalize e2 : S.und.get e = d2 at h
    have h0 := run_underlying (hS.und _ _ e0)
    have h1 := run_underlying (hS.und _ _ e1)
    split at h
    · have h2 := run_underlying (hS.und _ _ e2)
      obtain ⟨rfl, rfl⟩ := M.pure_some h; cases hv
      exact ⟨ι, w, _, by simp [convert, h0, h1, h2, Conv.bytesToString], Tran.refl hs, VR.string _⟩
    · rename_i x o n c
      have h2 := run_underlying (hS.und _ _ e2)
      obtain ⟨p', cap', rfl, L, hL, hcase⟩ := hv.row
      cases hb : Nat.beq n 0 with
      | true =>
        simp only [hb, cond_true] at h
        obtain ⟨rfl, rfl⟩ := M.pure_some h
        have hn := Nat.eq_of_beq_eq_true hb; subst hn
        have := run_bytesToString (P := P) w p' 0 cap' [] (by simp [loadCells, loadCellsFrom])
        exact ⟨ι, w, _, by simp [convert, h0, h1, h2, this], Tran.refl hs, VR.string _⟩
      | false =>
        simp only [hb, cond_false] at h
        have hpos : 0 < n := by
          rcases Nat.eq_zero_or_pos n with c | c
          · rw [c] at hb; cases hb
          · exact c
        have hp : p' = ⟨L.b, L.sh + o, none⟩ := by
          rcases hcase with ⟨_, _, x2⟩ | ⟨_, _, x3, x2⟩ <;> exact x2.resolve_right (by omega)
        subst hp
        obtain ⟨ob, _, _, e7, _, h7⟩ := bind_getO h; clear h
        obtain ⟨cc, _, _, e8, h8⟩ := bind_lift h7; clear h7
        obtain ⟨_, _, e9, h9⟩ := bind_guard h8; clear h8
        obtain ⟨bs, _, _, e10, h10⟩ := bind_lift h9; clear h9
        obtain ⟨rfl, rfl⟩ := M.pure_some h10; clear h10
        have e9 := Nat.eq_of_beq_eq_true e9
        have ho := cellsOfO_some e8; subst ho
        obtain ⟨L', oc, a1, a2, a3⟩ := hs.obj _ _ e7
        rw [hL] at a1; cases a1
        obtain ⟨cs, fr, rfl, b2, b3, b4⟩ := a3
        have hbs := bytesOf_some e10
        obtain ⟨l', g1, g2⟩ := run_loadCells_CR (P := P) (ι := ι) a2 b3 o n e9
        have hl' : l' = bs.map (Value.int .u8) := by
          rw [← hbs]
          exact g2.flat_eq (by rw [hbs, List.all_eq_true]; intro v hv; simp only [List.mem_map] at hv; obtain ⟨b, _, rfl⟩ := hv; rfl)
        have := run_bytesToString (P := P) w ⟨L.b, L.sh + o, none⟩ n cap' bs (by rw [g1, hl'])
        refine ⟨ι, w, _, ?_, Tran.refl hs, VR.string _⟩
        have hfold : ∀ (l : List Int) (r : ByteArray), l.foldl (fun r n => r.push (UInt8.ofNat n.toNat)) r = ⟨r.data ++ (l.map fun b : Int => UInt8.ofNat b.toNat).toArray⟩ := by
          intro l
          induction l with
          | nil => intro r; simp
          | cons a l ih => intro r; simp only [List.foldl_cons, ih, List.map_cons]; simp [ByteArray.push]
        simp [convert, h0, h1, h2, this, hfold]
    · simp [M.fail] at h
  · simp [M.fail] at h

theorem astrBytes_ok {S : Sig} (hS : SigOK S P) {src dst : TypeId} {st : ByteArray} {r : Value} {s s' : St} {m k : Nat} {ι : Inj} {w : World} (h : astrBytes S src dst st s = some (r, s', m, k)) (hs : Sim P.cellsOf ι s.h w) (hf : Free ι s.n s'.n) :
    Out P ι s w s' r (convert src dst (.string st)) := by
  unfold astrBytes at h
  generalize e0 : S.und.get src = d0 at h
  generalize e1 : S.und.get dst = d1 at h
  split at h
  · rename_i e
    generalize e2 : S.und.get e = d2 at h
    generalize e3 : S.inf.get e = d3 at h
    split at h
    · rename_i i
      obtain ⟨_, _, e4, h4⟩ := bind_guard h; clear h
      obtain ⟨_, _, e5, h5⟩ := bind_newO h4; clear h4
      obtain ⟨rfl, rfl⟩ := M.pure_some h5; clear h5
      obtain ⟨ti, f1, f2, f3, f4⟩ := hS.inf _ _ _ _ e3
      have e4 := Nat.eq_of_beq_eq_true e4
      have hf0 : ι s.n = none := hf _ (Nat.le_refl _) (Nat.lt_succ_self _)
      have hr := run_bytes_of_string (P := P) w src dst e st (hS.und _ _ e0) (hS.und _ _ e1) (hS.und _ _ e2)
      have hd := Sim.drew (s := s) hs
      have hg := grownCap_ge w st.size 0 e
      have hsz : P.cellsOf e = 1 := by simp [Program.cellsOf, f1, f2, e4]
      have hbr : ∀ n, st.size ≤ n → (bytesRow st n).size = n := by
        intro n hn; simp [bytesRow]; have : st.data.size = st.size := rfl; omega
      have ha := Sim.alloc (s := s) (w := w.drew) hd.sim e5 hf0 0 (grownCap w st.size 0 e) (o := .cells (strCells st) e true)
        (o' := .cells (bytesRow st (grownCap w st.size 0 e)) e ((bytesRow st (grownCap w st.size 0 e)).size, (bytesRow st (grownCap w st.size 0 e)).size + 1))
        ⟨_, _, rfl, fun i hi hh => by simp only at hh; omega, fun i v hv => ⟨v, ?_, VR.flat_refl (List.all_eq_true.1 (strCells_flat st) v (List.mem_of_getElem? hv))⟩, by simp only [if_true, hsz, hbr _ hg]; omega⟩
      · refine ⟨_, _, _, hr, hd.trans ha, VR.slo s.n 0 st.size TOP _ _ _ (Inj.add_same _ _ _) (by unfold HALF TOP; omega) rfl hg (.inl rfl)⟩
      · simp only [strCells] at hv
        have hi : i < st.data.toList.length := by
          have := (List.getElem?_eq_some_iff.1 hv).1; simpa using this
        simp only [bytesRow, Nat.zero_add]
        rw [Array.getElem?_append_left (by simpa using hi)]
        simpa using hv
    · simp [M.fail] at h
  · simp [M.fail] at h

end
end Go.Ai
/- The abstract evaluator, part 11: maps, and going through them and through strings. -/
namespace Go.Ai
noncomputable section

variable {P : Program}

def wideD : TypeDesc → Bool
  | .array _ _ => true
  | .struct _ => true
  | _ => false

/-- are two keys the same? both plain -/
def keyEq (P : Program) (S : Sig) (kt : TypeId) (a b : Value) : Option Bool :=
  match S.und.get kt with
  | some d =>
    match Instr.sameNow d a b with
    | some r => some r
    | none => bif plain a && plain b && wideD d then still P (Op.equal kt a b) else none
  | none => none

/-- the place of a key -/
def findK (P : Program) (S : Sig) (kt : TypeId) (k : Value) : List (Value × Value × Nat) → Nat → Option (Option (Nat × Value × Value × Nat))
  | [], _ => some none
  | e :: es, i =>
    match keyEq P S kt k e.1 with
    | some true => some (some (i, e))
    | some false => findK P S kt k es (i + 1)
    | none => none

def mapOf : AObj → Option (List (Value × Value × Nat) × Nat)
  | .map es c => some (es, c)
  | _ => none
theorem mapOf_some {o : AObj} {x : List (Value × Value × Nat) × Nat} (h : mapOf o = some x) : o = .map x.1 x.2 := by
  cases o <;> simp [mapOf] at h
  subst h; rfl

section
variable (P : Program) (S : Sig)

def keyOk (kt : TypeId) (k : Value) : M Unit :=
  M.bind (M.guard (plain k)) fun _ => M.bind (M.lift (still P (Instr.checkKey false 10000 kt k))) fun _ => M.pure ()
def keyOkE (kt : TypeId) (k : Value) : M Unit :=
  M.bind (M.guard (plain k)) fun _ => M.bind (M.lift (still P (Instr.checkKey true 10000 kt k))) fun _ => M.pure ()

def alookup (t : TypeId) (m k : Value) (ok : Bool) : M Value :=
  match S.und.get t with
  | some (.map kt et) =>
    M.bind (M.lift (S.und.get kt)) fun _ =>
    M.bind (M.lift (S.inf.get et)) fun i =>
    M.bind (M.guard (plain k && plain i.2.2)) fun _ =>
    let fin (v : Value) (b : Bool) : M Value := M.pure (bif ok then .tuple #[v, .bool b] else v)
    match m with
    | .map none => M.bind (M.lift (still P (Instr.checkKey true 10000 kt k))) fun _ => fin i.2.2 false
    | .map (some x) =>
      M.bind (M.getO x) fun o =>
      M.bind (M.lift (mapOf o)) fun c =>
      M.bind (M.lift (still P (Instr.checkKey c.1.isEmpty 10000 kt k))) fun _ =>
      M.bind (M.lift (findK P S kt k c.1 0)) fun f =>
      match f with
      | some e => fin e.2.2.1 true
      | none => fin i.2.2 false
    | _ => M.fail
  | _ => M.fail

def amapUpdate (t : TypeId) (m k v : Value) : M Unit :=
  match S.und.get t, m with
  | some (.map kt _), .map (some x) =>
    M.bind (M.lift (S.und.get kt)) fun _ =>
    M.bind (M.guard (plain k)) fun _ =>
    M.bind (M.getO x) fun o =>
    M.bind (M.lift (mapOf o)) fun c =>
    M.bind (M.lift (still P (Instr.checkKey false 10000 kt k))) fun _ =>
    M.bind (M.lift (findK P S kt k c.1 0)) fun f =>
    match f with
    | some e => M.bind (M.guard (plain e.2.1 && Instr.sameBits 10000 e.2.1 k)) fun _ => M.setO x (.map (c.1.set e.1 (k, v, e.2.2.2)) c.2)
    | none => M.setO x (.map (c.1 ++ [(k, v, c.2)]) (c.2 + 1))
  | _, _ => M.fail

def adelete (ts : Array TypeId) (m k : Value) : M Value :=
  M.bind (M.lift ts.toList[0]?) fun t =>
  match S.und.get t with
  | some (.map kt _) =>
    M.bind (M.lift (S.und.get kt)) fun _ =>
    M.bind (M.guard (plain k)) fun _ =>
    match m with
    | .map none => M.bind (M.lift (still P (Instr.checkKey true 10000 kt k))) fun _ => M.pure (.tuple #[])
    | .map (some x) =>
      M.bind (M.getO x) fun o =>
      M.bind (M.lift (mapOf o)) fun c =>
      M.bind (M.lift (still P (Instr.checkKey c.1.isEmpty 10000 kt k))) fun _ =>
      M.bind (M.lift (findK P S kt k c.1 0)) fun f =>
      match f with
      | some e => M.bind (M.setO x (.map (c.1.eraseIdx e.1) c.2)) fun _ => M.pure (.tuple #[])
      | none => M.pure (.tuple #[])
    | _ => M.fail
  | _ => M.fail

end

/-- entries, abstract and the model's -/
def ER (ι : Inj) (es : List (Value × Value × Nat)) (es' : Array MapEntry) : Prop :=
  es'.size = es.length ∧ ∀ (i : Nat) (k v : Value) (b : Nat), es[i]? = some (k, v, b) → ∃ e', es'[i]? = some e' ∧ VR ι k e'.key ∧ VR ι v e'.val ∧ e'.born = b

theorem sameNow_flat {d : TypeDesc} {a b : Value} {r : Bool} (h : Instr.sameNow d a b = some r) : flat a = true ∧ flat b = true := by
  unfold Instr.sameNow at h
  split at h
  · exact ⟨rfl, rfl⟩
  · exact ⟨rfl, rfl⟩
  · exact ⟨rfl, rfl⟩
  · cases h

theorem keyEq_ok {S : Sig} (hS : SigOK S P) {kt : TypeId} {a b : Value} {r : Bool} (h : keyEq P S kt a b = some r) {ι : Inj} {a' b' : Value} (ha : VR ι a a') (hb : VR ι b b') :
    ∃ d, P.underlying kt = some d ∧ (Instr.sameNow d a' b' = some r ∨ (Instr.sameNow d a' b' = none ∧ (∀ w, (Op.equal kt a' b').run P w = .ok r w) ∧ wideD d = true)) := by
  unfold keyEq at h
  generalize e0 : S.und.get kt = dd at h
  cases dd with
  | none => cases h
  | some d =>
    simp only at h
    refine ⟨d, hS.und _ _ e0, ?_⟩
    split at h
    · rename_i r' e1
      cases h
      left
      obtain ⟨f1, f2⟩ := sameNow_flat e1
      rw [ha.flat_eq f1, hb.flat_eq f2]; exact e1
    · rename_i e1
      cases hp : (plain a && plain b && wideD d) with
      | false => rw [hp] at h; cases h
      | true =>
        rw [hp] at h; simp only [cond_true] at h
        simp only [Bool.and_eq_true] at hp
        have h1 := ha.plain_eq hp.1.1
        have h2 := hb.plain_eq hp.1.2
        subst h1; subst h2
        right
        exact ⟨e1, fun w => still_run h w, hp.2⟩

/-- the model's search, entry by entry -/
theorem findAsk_ok {S : Sig} (hS : SigOK S P) {kt : TypeId} {d : TypeDesc} (hd : P.underlying kt = some d) (hwide : wideD d = true) {k k' : Value} {ι : Inj} (hk : VR ι k k') : ∀ {es : List (Value × Value × Nat)} {es' : List MapEntry} {i : Nat} {f : Option (Nat × Value × Value × Nat)},
    findK P S kt k es i = some f → es'.length = es.length → (∀ (j : Nat) (a v : Value) (b : Nat), es[j]? = some (a, v, b) → ∃ e', es'[j]? = some e' ∧ VR ι a e'.key ∧ VR ι v e'.val ∧ e'.born = b) → ∀ w : World,
    match f with
    | none => (Instr.findAsking kt k' es' i).run P w = .ok none w
    | some x => ∃ e', es'[x.1 - i]? = some e' ∧ i ≤ x.1 ∧ es[x.1 - i]? = some x.2 ∧ VR ι x.2.1 e'.key ∧ VR ι x.2.2.1 e'.val ∧ (Instr.findAsking kt k' es' i).run P w = .ok (some (x.1, e'.val)) w
  | [], [], i, f, h, _, _, w => by
    simp only [findK, Option.some.injEq] at h; subst h; rfl
  | [], _ :: _, _, _, _, hl, _, _ => by simp at hl
  | _ :: _, [], _, _, _, hl, _, _ => by simp at hl
  | e :: es, e' :: es', i, f, h, hl, hr, w => by
    obtain ⟨e'', q1, q2, q3, q4⟩ := hr 0 e.1 e.2.1 e.2.2 rfl
    simp only [List.getElem?_cons_zero, Option.some.injEq] at q1; subst q1
    simp only [findK] at h
    have hnow : ∀ x y : Value, Instr.sameNow d x y = none := by
      intro x y; cases d <;> first | rfl | (simp [wideD] at hwide)
    have keyrun : ∀ r, keyEq P S kt k e.1 = some r → (Op.equal kt k' e'.key).run P w = .ok r w := by
      intro r hr2
      obtain ⟨d2, hd2, hc⟩ := keyEq_ok hS hr2 hk q2
      rw [hd] at hd2; cases hd2
      rcases hc with c | ⟨_, c, _⟩
      · rw [hnow] at c; cases c
      · exact c w
    split at h
    · rename_i e1
      cases h
      refine ⟨e', by simp, Nat.le_refl _, by simp, q2, q3, ?_⟩
      simp only [Instr.findAsking, Sem.run_bind, keyrun _ e1, Result.andThen_ok, if_true, Sem.run_pure]
    · rename_i e1
      have ih := findAsk_ok hS hd hwide hk (es := es) (es' := es') (i := i + 1) h (by simpa using hl) (fun j a v b hj => hr (j + 1) a v b (by simpa using hj)) w
      have step : (Instr.findAsking kt k' (e' :: es') i).run P w = (Instr.findAsking kt k' es' (i + 1)).run P w := by
        simp only [Instr.findAsking, Sem.run_bind, keyrun _ e1, Result.andThen_ok, Bool.false_eq_true, if_false]
      cases f with
      | none => simp only at ih ⊢; rw [step]; exact ih
      | some x =>
        simp only at ih ⊢
        obtain ⟨e3, r1, r2, r3, r4, r5, r6⟩ := ih
        refine ⟨e3, ?_, by omega, ?_, r4, r5, by rw [step]; exact r6⟩
        · rw [show x.1 - i = (x.1 - (i + 1)) + 1 by omega]; simpa using r1
        · rw [show x.1 - i = (x.1 - (i + 1)) + 1 by omega]; simpa using r3
    · cases h

theorem findNow_ok {S : Sig} (hS : SigOK S P) {kt : TypeId} {d : TypeDesc} (hd : P.underlying kt = some d) (hnar : ¬ wideD d = true) {k k' : Value} {ι : Inj} (hk : VR ι k k') : ∀ {es : List (Value × Value × Nat)} {es' : List MapEntry} {i : Nat} {f : Option (Nat × Value × Value × Nat)},
    findK P S kt k es i = some f → es'.length = es.length → (∀ (j : Nat) (a v : Value) (b : Nat), es[j]? = some (a, v, b) → ∃ e', es'[j]? = some e' ∧ VR ι a e'.key ∧ VR ι v e'.val ∧ e'.born = b) →
    match f with
    | none => Instr.findNow d k' es' i = some none
    | some x => ∃ e', es'[x.1 - i]? = some e' ∧ i ≤ x.1 ∧ es[x.1 - i]? = some x.2 ∧ VR ι x.2.1 e'.key ∧ VR ι x.2.2.1 e'.val ∧ Instr.findNow d k' es' i = some (some (x.1, e'.val))
  | [], [], i, f, h, _, _ => by
    simp only [findK, Option.some.injEq] at h; subst h; rfl
  | [], _ :: _, _, _, _, hl, _ => by simp at hl
  | _ :: _, [], _, _, _, hl, _ => by simp at hl
  | e :: es, e' :: es', i, f, h, hl, hr => by
    obtain ⟨e'', q1, q2, q3, q4⟩ := hr 0 e.1 e.2.1 e.2.2 rfl
    simp only [List.getElem?_cons_zero, Option.some.injEq] at q1; subst q1
    simp only [findK] at h
    have keyrun : ∀ r, keyEq P S kt k e.1 = some r → Instr.sameNow d k' e'.key = some r := by
      intro r hr2
      obtain ⟨d2, hd2, hc⟩ := keyEq_ok hS hr2 hk q2
      rw [hd] at hd2; cases hd2
      rcases hc with c | ⟨_, _, c⟩
      · exact c
      · exact (hnar c).elim
    split at h
    · rename_i e1
      cases h
      exact ⟨e', by simp, Nat.le_refl _, by simp, q2, q3, by simp only [Instr.findNow, keyrun _ e1]⟩
    · rename_i e1
      have ih := findNow_ok hS hd hnar hk (es := es) (es' := es') (i := i + 1) h (by simpa using hl) (fun j a v b hj => hr (j + 1) a v b (by simpa using hj))
      have step : Instr.findNow d k' (e' :: es') i = Instr.findNow d k' es' (i + 1) := by simp only [Instr.findNow, keyrun _ e1]
      cases f with
      | none => simp only at ih ⊢; rw [step]; exact ih
      | some x =>
        simp only at ih ⊢
        obtain ⟨e3, r1, r2, r3, r4, r5, r6⟩ := ih
        refine ⟨e3, ?_, by omega, ?_, r4, r5, by rw [step]; exact r6⟩
        · rw [show x.1 - i = (x.1 - (i + 1)) + 1 by omega]; simpa using r1
        · rw [show x.1 - i = (x.1 - (i + 1)) + 1 by omega]; simpa using r3
    · cases h

theorem findKey_ok {S : Sig} (hS : SigOK S P) {kt : TypeId} {dk : TypeDesc} (hd : P.underlying kt = some dk) {k k' : Value} {ι : Inj} (hk : VR ι k k') {es : List (Value × Value × Nat)} {es' : Array MapEntry} {f : Option (Nat × Value × Value × Nat)}
    (h : findK P S kt k es 0 = some f) (he : ER ι es es') (w : World) :
    match f with
    | none => (Instr.findKey kt k' es'.toList).run P w = .ok none w
    | some x => ∃ e', es'[x.1]? = some e' ∧ es[x.1]? = some x.2 ∧ VR ι x.2.1 e'.key ∧ VR ι x.2.2.1 e'.val ∧ (Instr.findKey kt k' es'.toList).run P w = .ok (some (x.1, e'.val)) w := by
  have hl : es'.toList.length = es.length := by simpa using he.1
  have hr : ∀ (j : Nat) (a v : Value) (b : Nat), es[j]? = some (a, v, b) → ∃ e', es'.toList[j]? = some e' ∧ VR ι a e'.key ∧ VR ι v e'.val ∧ e'.born = b := by
    intro j a v b hj
    obtain ⟨e', x1, x2⟩ := he.2 j a v b hj
    exact ⟨e', by simpa using x1, x2⟩
  have hu := run_underlying hd w
  by_cases hw : wideD dk = true
  · have h1 := findAsk_ok hS hd hw hk h hl hr w
    have hnow : es'.toList ≠ [] → Instr.findNow dk k' es'.toList 0 = none := by
      intro hne
      cases hx : es'.toList with
      | nil => exact absurd hx hne
      | cons a l =>
        have : Instr.sameNow dk k' a.key = none := by cases dk <;> first | rfl | (simp [wideD] at hw)
        simp [Instr.findNow, this]
    cases f with
    | none =>
      simp only at h1 ⊢
      by_cases hne : es'.toList = []
      · rw [hne]; simp [Instr.findKey, hu, Instr.findNow]
      · simp only [Instr.findKey, Sem.run_bind, hu, Result.andThen_ok, hnow hne]; exact h1
    | some x =>
      simp only at h1 ⊢
      obtain ⟨e', r1, r2, r3, r4, r5, r6⟩ := h1
      have hne : es'.toList ≠ [] := by intro c; rw [c] at r1; simp at r1
      refine ⟨e', by simpa using r1, by simpa using r3, r4, r5, ?_⟩
      simp only [Instr.findKey, Sem.run_bind, hu, Result.andThen_ok, hnow hne]; exact r6
  · have h1 := findNow_ok hS hd hw hk h hl hr
    cases f with
    | none => simp only at h1 ⊢; simp [Instr.findKey, hu, h1]
    | some x =>
      simp only at h1 ⊢
      obtain ⟨e', r1, r2, r3, r4, r5, r6⟩ := h1
      exact ⟨e', by simpa using r1, by simpa using r3, r4, r5, by simp [Instr.findKey, hu, r6]⟩

end
end Go.Ai
/- The abstract evaluator, part 12: maps and iterators, sound. -/
namespace Go.Ai
noncomputable section

variable {P : Program}

theorem Sim.map {sz : TypeId → Nat} {ι : Inj} {s : St} {w : World} (hs : Sim sz ι s.h w) {x : Nat} {es : List (Value × Value × Nat)} {clock : Nat} (hx : s.h.get x = some (.map es clock)) {L : Loc} (hL : ι x = some L) :
    ∃ es', w.heap[L.b]? = some (.map es' clock) ∧ ER ι es es' := by
  obtain ⟨L', oc, a1, a2, a3⟩ := hs.obj _ _ hx
  rw [hL] at a1; cases a1
  obtain ⟨es', rfl, b2, b3⟩ := a3
  exact ⟨es', a2, b2, b3⟩

theorem isEmpty_eq {ι : Inj} {es : List (Value × Value × Nat)} {es' : Array MapEntry} (h : ER ι es es') : es'.isEmpty = es.isEmpty := by
  have := h.1
  cases es with
  | nil => simp [Array.isEmpty, this]
  | cons a l => simp [Array.isEmpty, this]

theorem VR.tuple2 {ι : Inj} {a b a' b' : Value} (h1 : VR ι a a') (h2 : VR ι b b') : VR ι (.tuple #[a, b]) (.tuple #[a', b']) :=
  VR.tupleL (LR.cons h1 (LR.cons h2 LR.nil))

theorem alookup_ok {S : Sig} (hS : SigOK S P) {t : TypeId} {m k r : Value} {ok : Bool} {s s' : St} {a b : Nat} {ι : Inj} {w : World} (h : alookup P S t m k ok s = some (r, s', a, b)) (hs : Sim P.cellsOf ι s.h w)
    {m' k' : Value} (hm : VR ι m m') (hk : VR ι k k') : Out P ι s w s' r (Instr.lookup t m' k' ok) := by
  unfold alookup at h
  generalize e0 : S.und.get t = d at h
  split at h
  · rename_i kt et
    have hu := run_underlying (hS.und _ _ e0) w
    obtain ⟨dk, _, _, e00, h0⟩ := bind_lift h; clear h
    have hdk := hS.und _ _ e00
    obtain ⟨⟨size, bytes, zv⟩, _, _, e1, h1⟩ := bind_lift h0; clear h0
    obtain ⟨_, _, e2, h2⟩ := bind_guard h1; clear h1
    simp only [Bool.and_eq_true] at e2
    have hkk := hk.plain_eq e2.1
    rw [hkk] at hk ⊢
    obtain ⟨ti, f1, f2, f3, f4⟩ := hS.inf _ _ _ _ e1
    have hzv : (zeroValue et).run P w = .ok zv w := by simp [zeroValue, typeInfo, f1, f4]
    have fin : ∀ {v v' : Value} {bb : Bool} {s s' : St} {a b : Nat}, VR ι v v' → (M.pure (bif ok then .tuple #[v, .bool bb] else v) : M Value) s = some (r, s', a, b) → s' = s ∧ VR ι r (if ok then .tuple #[v', .bool bb] else v') := by
      intro v v' bb s s' a b hv he
      obtain ⟨rfl, rfl⟩ := M.pure_some he
      refine ⟨rfl, ?_⟩
      cases ok
      · exact hv
      · exact hv.tuple2 (.bool bb)
    split at h2
    · cases hm
      obtain ⟨_, _, _, e3, h3⟩ := bind_lift h2; clear h2
      obtain ⟨rfl, hr⟩ := fin (VR.plain_refl e2.2) h3
      refine ⟨ι, w, _, ?_, Tran.refl hs, hr⟩
      have hck := still_run e3 w
      have hfk : (Instr.findKey kt k []).run P w = .ok none w := by
        unfold Instr.findKey
        simp [run_underlying hdk, Instr.findNow]
      simp [Instr.lookup, hu, hck, hfk, hzv]
    · rename_i x
      obtain ⟨o, _, _, e3, _, h3⟩ := bind_getO h2; clear h2
      obtain ⟨c, _, _, e4, h4⟩ := bind_lift h3; clear h3
      obtain ⟨_, _, _, e5, h5⟩ := bind_lift h4; clear h4
      obtain ⟨f, _, _, e6, h6⟩ := bind_lift h5; clear h5
      have ho := mapOf_some e4; subst ho
      cases hm with | map _ L hL =>
      obtain ⟨es', a2, her⟩ := hs.map e3 hL
      have hg : (getObj L.b).run P w = .ok (.map es' c.2) w := run_getObj rfl a2
      have hck := still_run e5 w
      rw [← isEmpty_eq her] at hck
      have hf := findKey_ok hS hdk hk e6 her w
      cases f with
      | none =>
        simp only at hf h6
        obtain ⟨rfl, hr⟩ := fin (VR.plain_refl e2.2) h6
        exact ⟨ι, w, _, by simp [Instr.lookup, hu, hg, hck, hf, hzv], Tran.refl hs, hr⟩
      | some y =>
        simp only at hf h6
        obtain ⟨e', r1, r2, r3, r4, r5⟩ := hf
        obtain ⟨rfl, hr⟩ := fin r4 h6
        exact ⟨ι, w, _, by simp [Instr.lookup, hu, hg, hck, r5], Tran.refl hs, hr⟩
    · simp [M.fail] at h2
  · simp [M.fail] at h

theorem ER.set {ι : Inj} {es : List (Value × Value × Nat)} {es' : Array MapEntry} (h : ER ι es es') {i b : Nat} {k v k0 v0 : Value} (h0 : es[i]? = some (k0, v0, b)) {e' : MapEntry} (he : es'[i]? = some e') {v' : Value} (hk : VR ι k k) (hv : VR ι v v') :
    ER ι (es.set i (k, v, b)) (es'.modify i fun e => { e with key := k, val := v' }) := by
  refine ⟨by simp [h.1], fun j a u c hj => ?_⟩
  have hlt : i < es'.size := (Array.getElem?_eq_some_iff.1 he).1
  by_cases e : i = j
  · subst e
    rw [List.getElem?_set] at hj
    simp only [if_true] at hj
    split at hj
    · cases hj
      obtain ⟨e2, q1, q2, q3, q4⟩ := h.2 i k0 v0 _ h0
      rw [he] at q1; cases q1
      refine ⟨{ e' with key := k, val := v' }, ?_, hk, hv, q4⟩
      rw [Array.getElem?_modify]; simp [he]
    · cases hj
  · rw [List.getElem?_set_ne e] at hj
    obtain ⟨e2, q1, q2⟩ := h.2 j a u c hj
    exact ⟨e2, by rw [Array.getElem?_modify, if_neg e]; exact q1, q2⟩

theorem ER.push {ι : Inj} {es : List (Value × Value × Nat)} {es' : Array MapEntry} (h : ER ι es es') {k v v' : Value} (clock : Nat) (hk : VR ι k k) (hv : VR ι v v') :
    ER ι (es ++ [(k, v, clock)]) (es'.push { key := k, val := v', born := clock }) := by
  refine ⟨by simp [h.1], fun j a u c hj => ?_⟩
  by_cases e : j < es.length
  · rw [List.getElem?_append_left e] at hj
    obtain ⟨e2, q1, q2⟩ := h.2 j a u c hj
    refine ⟨e2, ?_, q2⟩
    rw [Array.getElem?_push, if_neg (by rw [h.1]; omega)]; exact q1
  · rw [List.getElem?_append_right (by omega)] at hj
    have hj0 : j = es.length := by
      have := (List.getElem?_eq_some_iff.1 hj).1
      simp at this; omega
    subst hj0
    simp at hj
    obtain ⟨rfl, rfl, rfl⟩ := hj
    exact ⟨_, by rw [Array.getElem?_push, if_pos h.1.symm], hk, hv, rfl⟩

theorem ER.erase {ι : Inj} {es : List (Value × Value × Nat)} {es' : Array MapEntry} (h : ER ι es es') {i : Nat} (hi : i < es.length) : ER ι (es.eraseIdx i) (es'.eraseIdxIfInBounds i) := by
  have hs : i < es'.size := by rw [h.1]; exact hi
  have hl : (es'.eraseIdxIfInBounds i).toList = es'.toList.eraseIdx i := by
    simp [Array.eraseIdxIfInBounds, hs]
  refine ⟨?_, fun j a u c hj => ?_⟩
  · rw [← Array.length_toList, hl, List.length_eraseIdx, List.length_eraseIdx]
    simp [h.1]
  · have : ∀ e2, (es'.toList.eraseIdx i)[j]? = some e2 → (es'.eraseIdxIfInBounds i)[j]? = some e2 := by
      intro e2 he; rw [← hl, Array.getElem?_toList] at he; exact he
    rw [List.getElem?_eraseIdx] at hj
    split at hj
    · rename_i c1
      obtain ⟨e2, q1, q2⟩ := h.2 j a u c hj
      exact ⟨e2, this e2 (by rw [List.getElem?_eraseIdx, if_pos c1]; simpa using q1), q2⟩
    · rename_i c1
      obtain ⟨e2, q1, q2⟩ := h.2 (j + 1) a u c hj
      exact ⟨e2, this e2 (by rw [List.getElem?_eraseIdx, if_neg c1]; simpa using q1), q2⟩

theorem amapUpdate_ok {S : Sig} (hS : SigOK S P) {t : TypeId} {m k v : Value} {u : Unit} {s s' : St} {a b : Nat} {ι : Inj} {w : World} (h : amapUpdate P S t m k v s = some (u, s', a, b)) (hs : Sim P.cellsOf ι s.h w)
    {m' k' v' : Value} (hm : VR ι m m') (hk : VR ι k k') (hv : VR ι v v') : OutU P ι s w s' (Instr.mapUpdate t m' k' v') := by
  unfold amapUpdate at h
  generalize e0 : S.und.get t = d at h
  split at h
  · rename_i kt et x
    have hu := run_underlying (hS.und _ _ e0) w
    obtain ⟨dk, _, _, e00, h0⟩ := bind_lift h; clear h
    have hdk := hS.und _ _ e00
    obtain ⟨_, _, e2, h2⟩ := bind_guard h0; clear h0
    have hkk := hk.plain_eq e2
    rw [hkk] at hk ⊢
    obtain ⟨o, _, _, e3, _, h3⟩ := bind_getO h2; clear h2
    obtain ⟨c, _, _, e4, h4⟩ := bind_lift h3; clear h3
    obtain ⟨_, _, _, e5, h5⟩ := bind_lift h4; clear h4
    obtain ⟨f, _, _, e6, h6⟩ := bind_lift h5; clear h5
    have ho := mapOf_some e4; subst ho
    cases hm with | map _ L hL =>
    obtain ⟨es', a2, her⟩ := hs.map e3 hL
    have hg : (getObj L.b).run P w = .ok (.map es' c.2) w := run_getObj rfl a2
    have hck := still_run e5 w
    have hf := findKey_ok hS hdk hk e6 her w
    cases f with
    | none =>
      simp only at hf h6
      obtain ⟨_, rfl, hlt, hsz⟩ := M.setO_some h6
      have hst : (setObj L.b (.map (es'.push { key := k, val := v', born := c.2 }) (c.2 + 1))).run P w = .ok () (wput w L.b (.map (es'.push { key := k, val := v', born := c.2 }) (c.2 + 1))) := run_setObj rfl a2
      refine ⟨ι, _, ?_, hs.put (by rw [e3]; rfl) hsz hL ⟨_, rfl, (her.push c.2 hk hv).1, (her.push c.2 hk hv).2⟩ (keepNot a2 (fun _ _ _ h => by cases h))⟩
      simp [Instr.mapUpdate, hu, hg, hck, hf, hst]
    | some y =>
      simp only at hf h6
      obtain ⟨e', r1, r2, r3, r4, r5⟩ := hf
      obtain ⟨_, _, e7, h7⟩ := bind_guard h6; clear h6
      obtain ⟨_, rfl, hlt, hsz⟩ := M.setO_some h7
      simp only [Bool.and_eq_true] at e7
      have hek := r3.plain_eq e7.1
      have hst : ∀ o2, (setObj L.b o2).run P w = .ok () (wput w L.b o2) := fun o2 => run_setObj rfl a2
      have hER := her.set (i := y.1) (k := k) (v := v) (b := y.2.2.2) (k0 := y.2.1) (v0 := y.2.2.1) (by rw [r2]) r1 hk hv
      refine ⟨ι, _, ?_, hs.put (by rw [e3]; rfl) hsz hL (o' := .map (es'.modify y.1 fun e => { e with key := k, val := v' }) c.2) ⟨_, rfl, hER.1, hER.2⟩ (keepNot a2 (fun _ _ _ h => by cases h))⟩
      have hks : (Instr.keyThatStays (((es'[y.1]?).map (·.key)).getD k) k).run P w = .ok k w := by
        rw [r1]; simp only [Option.map_some, Option.getD_some, hek]
        simp [Instr.keyThatStays, e7.2]
      simp only [Instr.mapUpdate, Sem.run_bind, hu, Result.andThen_ok, hg, hck, r5, hks, hst]
  · simp [M.fail] at h

theorem adelete_ok {S : Sig} (hS : SigOK S P) {ts : Array TypeId} {ty : TypeId} {m k r : Value} {s s' : St} {a b : Nat} {ι : Inj} {w : World} (h : adelete P S ts m k s = some (r, s', a, b)) (hs : Sim P.cellsOf ι s.h w)
    {m' k' : Value} (hm : VR ι m m') (hk : VR ι k k') : Out P ι s w s' r (Builtin.delete_ ts ty #[m', k']) := by
  unfold adelete at h
  obtain ⟨t, _, _, e1, h1⟩ := bind_lift h; clear h
  have ht2 : VR ι (.tuple #[]) (.tuple #[]) := VR.tuple _ _ rfl (fun i v v' a => by simp at a)
  generalize e0 : S.und.get t = d at h1
  split at h1
  · rename_i kt et
    have hu := run_underlying (hS.und _ _ e0) w
    obtain ⟨dk, _, _, e00, h0⟩ := bind_lift h1; clear h1
    have hdk := hS.und _ _ e00
    obtain ⟨_, _, e2, h2⟩ := bind_guard h0; clear h0
    have hkk := hk.plain_eq e2
    rw [hkk] at hk ⊢
    split at h2
    · cases hm
      obtain ⟨_, _, _, e3, h3⟩ := bind_lift h2; clear h2
      obtain ⟨rfl, rfl⟩ := M.pure_some h3
      exact ⟨ι, w, _, by simp [Builtin.delete_, arr2 e1, hu, still_run e3 w], Tran.refl hs, ht2⟩
    · rename_i x
      obtain ⟨o, _, _, e3, _, h3⟩ := bind_getO h2; clear h2
      obtain ⟨c, _, _, e4, h4⟩ := bind_lift h3; clear h3
      obtain ⟨_, _, _, e5, h5⟩ := bind_lift h4; clear h4
      obtain ⟨f, _, _, e6, h6⟩ := bind_lift h5; clear h5
      have ho := mapOf_some e4; subst ho
      cases hm with | map _ L hL =>
      obtain ⟨es', a2, her⟩ := hs.map e3 hL
      have hg : (getObj L.b).run P w = .ok (.map es' c.2) w := run_getObj rfl a2
      have hck := still_run e5 w
      rw [← isEmpty_eq her] at hck
      have hf := findKey_ok hS hdk hk e6 her w
      have hst : ∀ o2, (setObj L.b o2).run P w = .ok () (wput w L.b o2) := fun o2 => run_setObj rfl a2
      cases f with
      | none =>
        simp only at hf h6
        obtain ⟨rfl, rfl⟩ := M.pure_some h6
        have hsame : wput w L.b (.map es' c.2) = w := by
          cases w with | mk heap tape drawn os output =>
          simp only [wput]
          congr 1
          obtain ⟨hl, hv⟩ := Array.getElem?_eq_some_iff.1 a2
          apply Array.ext_getElem?
          intro j
          by_cases ej : L.b = j
          · subst ej; simp at hv; simp [hl, hv]
          · rw [Array.getElem?_setIfInBounds_ne ej]
        refine ⟨ι, w, _, ?_, Tran.refl hs, ht2⟩
        simp only [Builtin.delete_, arr2 e1, List.getElem?_toArray, List.getElem?_cons_zero, List.getElem?_cons_succ, Sem.run_bind, hu, Result.andThen_ok, hg, hck, hf, hst, hsame, Sem.run_pure]
      | some y =>
        simp only at hf h6
        obtain ⟨e', r1, r2, r3, r4, r5⟩ := hf
        obtain ⟨_, _, _, hlt, hsz, h7⟩ := bind_setO h6; clear h6
        obtain ⟨rfl, rfl⟩ := M.pure_some h7
        have hER := her.erase (i := y.1) (List.getElem?_eq_some_iff.1 r2).1
        refine ⟨ι, _, _, ?_, hs.put (by rw [e3]; rfl) hsz hL (o' := .map (es'.eraseIdxIfInBounds y.1) c.2) ⟨_, rfl, hER.1, hER.2⟩ (keepNot a2 (fun _ _ _ h => by cases h)), ht2⟩
        simp only [Builtin.delete_, arr2 e1, List.getElem?_toArray, List.getElem?_cons_zero, List.getElem?_cons_succ, Sem.run_bind, hu, Result.andThen_ok, hg, hck, r5, hst, Sem.run_pure]
    · simp [M.fail] at h2
  · simp [M.fail] at h1

section
variable (S : Sig)

def arange (t : TypeId) (v : Value) : M Value :=
  match S.und.get t, v with
  | some .string, .string s => M.bind (M.newO (.siter s 0)) fun x => M.pure (.pointer (some ⟨x, 0, none⟩))
  | some (.map _ _), .map none => M.bind (M.newO (.miter none 0 [] 0)) fun x => M.pure (.pointer (some ⟨x, 0, none⟩))
  | some (.map _ _), .map (some y) =>
    M.bind (M.getO y) fun o =>
    M.bind (M.lift (mapOf o)) fun c =>
    M.bind (M.newO (.miter (some y) c.2 [] c.2)) fun x => M.pure (.pointer (some ⟨x, 0, none⟩))
  | _, _ => M.fail

/-- the entries that were not seen -/
def unseen (seen : List Nat) (es : List (Value × Value × Nat)) : List (Value × Value × Nat) := es.filter fun e => !(seen.contains e.2.2)

def anext (v : Value) (isString : Bool) : M Value :=
  match v with
  | .pointer (some ⟨x, 0, none⟩) =>
    M.bind (M.getO x) fun o =>
    match o, isString with
    | .siter s pos, true =>
      bif Nat.blt pos s.size then
        let d := Utf8.decode s pos
        M.bind (M.setO x (.siter s (pos + d.2))) fun _ => M.pure (.tuple #[.bool true, .int .i64 pos, .int .i32 d.1])
      else M.pure (.tuple #[.bool false])
    | .miter none _ _ _, false => M.pure (.tuple #[.bool false])
    | .miter (some y) since seen last, false =>
      M.bind (M.getO y) fun o2 =>
      M.bind (M.lift (mapOf o2)) fun c =>
      -- no entry is younger than the range, and some entry is older than the last step
      M.bind (M.guard (c.1.all (fun e => Nat.blt e.2.2 since) && Nat.ble since last && (c.1.all fun e => Nat.blt e.2.2 last))) fun _ =>
      match unseen seen c.1 with
      | [] => M.pure (.tuple #[.bool false])
      | [e] => M.bind (M.setO x (.miter (some y) since (seen ++ [e.2.2]) c.2)) fun _ => M.pure (.tuple #[.bool true, e.1, e.2.1])
      | _ => M.fail
    | _, _ => M.fail
  | _ => M.fail

def aentry (v : Value) : M Value :=
  match v with
  | .pointer (some ⟨x, 0, none⟩) =>
    M.bind (M.getO x) fun o =>
    match o with
    | .miter (some y) _ seen stepped =>
      M.bind (M.lift seen.getLast?) fun stamp =>
      M.bind (M.getO y) fun o2 =>
      M.bind (M.lift (mapOf o2)) fun c =>
      M.bind (M.guard (Nat.beq c.2 stepped)) fun _ =>
      M.bind (M.lift (c.1.find? fun e => e.2.2 == stamp)) fun e => M.pure (.tuple #[e.1, e.2.1])
    | _ => M.fail
  | _ => M.fail
end

theorem arange_ok {S : Sig} (hS : SigOK S P) {t : TypeId} {v r : Value} {s s' : St} {a b : Nat} {ι : Inj} {w : World} (h : arange S t v s = some (r, s', a, b)) (hs : Sim P.cellsOf ι s.h w) (hf : Free ι s.n s'.n)
    {v' : Value} (hv : VR ι v v') : Out P ι s w s' r (Instr.range t v') := by
  unfold arange at h
  generalize e0 : S.und.get t = d at h
  split at h
  · rename_i st
    obtain ⟨_, _, e5, h5⟩ := bind_newO h; clear h
    obtain ⟨rfl, rfl⟩ := M.pure_some h5; clear h5
    have hf0 : ι s.n = none := hf _ (Nat.le_refl _) (Nat.lt_succ_self _)
    cases hv
    refine ⟨_, _, _, ?_, hs.alloc e5 hf0 0 0 (o := .siter st 0) (o' := .stringIter st 0) ⟨rfl, rfl⟩, VR.ptr s.n 0 _ (Inj.add_same _ _ _)⟩
    simp only [Instr.range, Sem.run_bind, run_underlying (hS.und _ _ e0), Result.andThen_ok, Sem.run_pure]
    rfl
  · obtain ⟨_, _, e5, h5⟩ := bind_newO h; clear h
    obtain ⟨rfl, rfl⟩ := M.pure_some h5; clear h5
    have hf0 : ι s.n = none := hf _ (Nat.le_refl _) (Nat.lt_succ_self _)
    cases hv
    refine ⟨_, _, _, ?_, hs.alloc e5 hf0 0 0 (o := .miter none 0 [] 0) (o' := .mapIter none 0 #[] 0) ⟨rfl, none, rfl, rfl⟩, VR.ptr s.n 0 _ (Inj.add_same _ _ _)⟩
    simp only [Instr.range, Sem.run_bind, run_underlying (hS.und _ _ e0), Result.andThen_ok, Sem.run_pure]
    rfl
  · rename_i y
    obtain ⟨o, _, _, e3, _, h3⟩ := bind_getO h; clear h
    obtain ⟨c, _, _, e4, h4⟩ := bind_lift h3; clear h3
    obtain ⟨_, _, e5, h5⟩ := bind_newO h4; clear h4
    obtain ⟨rfl, rfl⟩ := M.pure_some h5; clear h5
    have hf0 : ι s.n = none := hf _ (Nat.le_refl _) (Nat.lt_succ_self _)
    have ho := mapOf_some e4; subst ho
    cases hv with | map _ L hL =>
    obtain ⟨es', a2, her⟩ := hs.map e3 hL
    have hg : (getObj L.b).run P w = .ok (.map es' c.2) w := run_getObj rfl a2
    refine ⟨_, _, _, ?_, hs.alloc e5 hf0 0 0 (o := .miter (some y) c.2 [] c.2) (o' := .mapIter (some L.b) c.2 #[] c.2) ⟨rfl, some L.b, rfl, L, Inj.add_le _ hf0 _ _ hL, rfl⟩, VR.ptr s.n 0 _ (Inj.add_same _ _ _)⟩
    simp only [Instr.range, Sem.run_bind, run_underlying (hS.und _ _ e0), Result.andThen_ok, hg, Sem.run_pure]
    rfl
  · simp [M.fail] at h

def ERL (ι : Inj) (es : List (Value × Value × Nat)) (l : List MapEntry) : Prop :=
  l.length = es.length ∧ ∀ (i : Nat) (k v : Value) (b : Nat), es[i]? = some (k, v, b) → ∃ e', l[i]? = some e' ∧ VR ι k e'.key ∧ VR ι v e'.val ∧ e'.born = b

theorem ERL.cons_inv {ι : Inj} {e : Value × Value × Nat} {es : List (Value × Value × Nat)} {l : List MapEntry} (h : ERL ι (e :: es) l) : ∃ e' l', l = e' :: l' ∧ VR ι e.1 e'.key ∧ VR ι e.2.1 e'.val ∧ e'.born = e.2.2 ∧ ERL ι es l' := by
  cases l with
  | nil => have := h.1; simp at this
  | cons e' l' =>
    obtain ⟨e2, q1, q2, q3, q4⟩ := h.2 0 e.1 e.2.1 e.2.2 rfl
    simp at q1; subst q1
    exact ⟨e', l', rfl, q2, q3, q4, by have := h.1; simpa using this, fun i k v b hi => by
      obtain ⟨e3, r⟩ := h.2 (i + 1) k v b (by simpa using hi)
      exact ⟨e3, by simpa using r⟩⟩

theorem ERL.cons {ι : Inj} {e : Value × Value × Nat} {e' : MapEntry} {es : List (Value × Value × Nat)} {l : List MapEntry} (h1 : VR ι e.1 e'.key) (h2 : VR ι e.2.1 e'.val) (h3 : e'.born = e.2.2) (h : ERL ι es l) : ERL ι (e :: es) (e' :: l) :=
  ⟨by simp [h.1], fun i k v b hi => by
    cases i with
    | zero => simp at hi; subst hi; exact ⟨e', rfl, h1, h2, h3⟩
    | succ i => simp at hi; obtain ⟨e3, r⟩ := h.2 i k v b hi; exact ⟨e3, by simpa using r⟩⟩

theorem ERL.filter {ι : Inj} (p : Nat → Bool) : ∀ {es : List (Value × Value × Nat)} {l : List MapEntry}, ERL ι es l → ERL ι (es.filter fun e => p e.2.2) (l.filter fun e => p e.born)
  | [], l, h => by
    cases l with
    | nil => exact ⟨rfl, fun i k v b hi => by simp at hi⟩
    | cons a l => have := h.1; simp at this
  | e :: es, l, h => by
    obtain ⟨e', l', rfl, h1, h2, h3, h4⟩ := h.cons_inv
    have ih := ERL.filter p h4
    simp only [List.filter_cons, h3]
    cases p e.2.2 with
    | true => simp only [if_true]; exact ERL.cons h1 h2 h3 ih
    | false => simpa using ih

theorem ERL.all {ι : Inj} (p : Nat → Bool) : ∀ {es : List (Value × Value × Nat)} {l : List MapEntry}, ERL ι es l → (es.all fun e => p e.2.2) = true → ∀ e ∈ l, p e.born = true
  | [], l, h, _ => by
    cases l with
    | nil => intro e he; simp at he
    | cons a l => have := h.1; simp at this
  | e :: es, l, h, ha => by
    obtain ⟨e', l', rfl, h1, h2, h3, h4⟩ := h.cons_inv
    simp only [List.all_cons, Bool.and_eq_true] at ha
    intro x hx
    rcases List.mem_cons.1 hx with c | c
    · subst c; rw [h3]; exact ha.1
    · exact ERL.all p h4 ha.2 x c

theorem run_next_one {w : World} {x y : Nat} {es' : Array MapEntry} {clock since last : Nat} {seen : Array Nat} (hx : w.heap[x]? = some (.mapIter (some y) since seen last)) (hy : w.heap[y]? = some (.map es' clock))
    (h1 : ∀ e ∈ es'.toList, e.born < since) (h2 : ∀ e ∈ es'.toList, e.born < last) (ty : TypeId) :
    (es'.toList.filter (fun e => !(seen.contains e.born)) = [] → (Instr.next (.pointer (some ⟨x, 0, none⟩)) false ty).run P w = .ok (.tuple #[.bool false]) w) ∧
    (∀ e, es'.toList.filter (fun e => !(seen.contains e.born)) = [e] → (Instr.next (.pointer (some ⟨x, 0, none⟩)) false ty).run P w = .ok (.tuple #[.bool true, e.key, e.val]) (wput w x (.mapIter (some y) since (seen.push e.born) clock))) := by
  have hg1 : (getObj x).run P w = .ok (.mapIter (some y) since seen last) w := run_getObj rfl hx
  have hg2 : (getObj y).run P w = .ok (.map es' clock) w := run_getObj rfl hy
  have hun : (!seen.isEmpty && !es'.isEmpty && es'.all (·.born ≥ last)) = false := by
    cases he : es'.toList with
    | nil =>
      have : es'.isEmpty = true := by
        have : es'.size = 0 := by rw [← Array.length_toList, he]; rfl
        simp [Array.isEmpty, this]
      simp [this]
    | cons a l =>
      have ha := h2 a (by rw [he]; simp)
      have : es'.all (·.born ≥ last) = false := by
        rw [← Array.all_toList, he]; simp; omega
      simp [this]
  have hleft : (es'.filter fun e => !seen.contains e.born).toList = es'.toList.filter (fun e => !(seen.contains e.born)) := by simp
  constructor
  · intro hf
    rw [← hleft] at hf
    have hlz : (es'.filter fun e => !seen.contains e.born) = #[] := by rw [← Array.toList_inj]; exact hf
    simp only [Instr.next, Sem.run_bind, hg1, Result.andThen_ok, hg2, hun, Bool.false_eq_true, if_false, hlz]
    simp [Question.forced]
  · intro e hf
    rw [← hleft] at hf
    have hlz : (es'.filter fun e => !seen.contains e.born) = #[e] := by rw [← Array.toList_inj]; exact hf
    have hst : ∀ o2, (setObj x o2).run P w = .ok () (wput w x o2) := fun o2 => run_setObj rfl hx
    have hb : e.born < since := h1 e (by
      have : e ∈ (es'.filter fun e => !seen.contains e.born).toList := by rw [hf]; simp
      rw [hleft] at this; exact (List.mem_filter.1 this).1)
    have hb' : ¬ since ≤ e.born := by omega
    simp only [Instr.next, Sem.run_bind, hg1, Result.andThen_ok, hg2, hun, Bool.false_eq_true, if_false, hlz]
    simp [Question.forced, hst, hb, hb']

theorem anext_ok {v r : Value} {isString : Bool} {ty : TypeId} {s s' : St} {a b : Nat} {ι : Inj} {w : World} (h : anext v isString s = some (r, s', a, b)) (hs : Sim P.cellsOf ι s.h w)
    {v' : Value} (hv : VR ι v v') : Out P ι s w s' r (Instr.next v' isString ty) := by
  unfold anext at h
  split at h
  · rename_i x
    obtain ⟨o, _, _, e1, _, h1⟩ := bind_getO h; clear h
    obtain ⟨L, hL, rfl⟩ := hv.ptr_inv
    obtain ⟨L', oc, a1, a2, a3⟩ := hs.obj _ _ e1
    rw [hL] at a1; cases a1
    split at h1
    · rename_i st pos
      obtain ⟨h0, rfl⟩ := a3
      rw [h0, Nat.zero_add]
      have hg : (getObj L.b).run P w = .ok (.stringIter st pos) w := run_getObj rfl a2
      cases hb : Nat.blt pos st.size with
      | true =>
        rw [hb] at h1; simp only [cond_true] at h1
        obtain ⟨_, _, _, hlt, hsz, h3⟩ := bind_setO h1; clear h1
        obtain ⟨rfl, rfl⟩ := M.pure_some h3
        have hlt' : pos < st.size := by simpa [Nat.blt_eq] using hb
        have hst : ∀ o2, (setObj L.b o2).run P w = .ok () (wput w L.b o2) := fun o2 => run_setObj rfl a2
        refine ⟨ι, _, _, ?_, hs.put (by rw [e1]; rfl) hsz hL (o := .siter st (pos + (Utf8.decode st pos).2)) (o' := .stringIter st (pos + (Utf8.decode st pos).2)) ⟨h0, rfl⟩ (keepNot a2 (fun _ _ _ h => by cases h)), VR.plain_refl (by rfl)⟩
        simp [Instr.next, hg, hlt', hst, goInt]
      | false =>
        rw [hb] at h1; simp only [cond_false] at h1
        obtain ⟨rfl, rfl⟩ := M.pure_some h1
        have hlt' : ¬ pos < st.size := by
          intro c; rw [show Nat.blt pos st.size = true by simpa [Nat.blt_eq] using c] at hb; cases hb
        refine ⟨ι, w, _, ?_, Tran.refl hs, VR.plain_refl (by rfl)⟩
        simp [Instr.next, hg, hlt']
    · rename_i since seen stepped
      obtain ⟨rfl, rfl⟩ := M.pure_some h1
      obtain ⟨h0, m', rfl, hm⟩ := a3
      rw [h0, Nat.zero_add]
      simp only at hm; subst hm
      have hg : (getObj L.b).run P w = .ok (.mapIter none since seen.toArray stepped) w := run_getObj rfl a2
      refine ⟨ι, w, _, ?_, Tran.refl hs, VR.plain_refl (by rfl)⟩
      simp [Instr.next, hg]
    · rename_i y since seen last
      obtain ⟨o2, _, _, e3, _, h3⟩ := bind_getO h1; clear h1
      obtain ⟨c, _, _, e4, h4⟩ := bind_lift h3; clear h3
      obtain ⟨_, _, e5, h5⟩ := bind_guard h4; clear h4
      have ho := mapOf_some e4; subst ho
      obtain ⟨h0, m', rfl, Ly, hLy, rfl⟩ := a3
      rw [h0, Nat.zero_add]
      obtain ⟨es', y2, her⟩ := hs.map e3 hLy
      simp only [Bool.and_eq_true] at e5
      have herl : ERL ι c.1 es'.toList := ⟨by simpa using her.1, fun i k v b hi => by obtain ⟨e', q⟩ := her.2 i k v b hi; exact ⟨e', by simpa using q⟩⟩
      have l1 := herl.all (fun n => Nat.blt n since) e5.1.1
      have l2 := herl.all (fun n => Nat.blt n last) e5.2
      obtain ⟨n1, n2⟩ := run_next_one (P := P) a2 y2 (fun e he => by simpa [Nat.blt_eq] using l1 e he) (fun e he => by simpa [Nat.blt_eq] using l2 e he) ty
      have hfil := herl.filter (fun n => !(seen.contains n))
      generalize hu : unseen seen c.1 = us at h5
      split at h5
      · obtain ⟨rfl, rfl⟩ := M.pure_some h5
        unfold unseen at hu
        rw [hu] at hfil
        have hnil := List.eq_nil_of_length_eq_zero hfil.1
        exact ⟨ι, w, _, n1 (by simpa using hnil), Tran.refl hs, VR.plain_refl (by rfl)⟩
      · rename_i e
        obtain ⟨_, _, _, hlt, hsz, h6⟩ := bind_setO h5; clear h5
        obtain ⟨rfl, rfl⟩ := M.pure_some h6
        unfold unseen at hu
        rw [hu] at hfil
        obtain ⟨e', l', hl, k1, k2, k3, k4⟩ := hfil.cons_inv
        have hnil := List.eq_nil_of_length_eq_zero k4.1
        subst hnil
        refine ⟨ι, _, _, n2 e' (by simpa using hl), hs.put (by rw [e1]; rfl) hsz hL (o := .miter (some y) since (seen ++ [e.2.2]) c.2) ⟨h0, some Ly.b, ?_, Ly, hLy, rfl⟩ (keepNot a2 (fun _ _ _ h => by cases h)), ?_⟩
        · rw [k3]; simp
        · exact VR.tupleL (LR.cons (.bool true) (LR.cons k1 (LR.cons k2 LR.nil)))
      · simp [M.fail] at h5
    · simp [M.fail] at h1
  · simp [M.fail] at h

theorem find_ok {ι : Inj} (n : Nat) : ∀ {es : List (Value × Value × Nat)} {l : List MapEntry}, ERL ι es l → ∀ {e : Value × Value × Nat}, es.find? (fun e => e.2.2 == n) = some e → ∃ e', l.find? (fun e => e.born == n) = some e' ∧ VR ι e.1 e'.key ∧ VR ι e.2.1 e'.val
  | [], _, _, _, h => by simp at h
  | a :: es, l, hl, e, h => by
    obtain ⟨e', l', rfl, h1, h2, h3, h4⟩ := hl.cons_inv
    rw [List.find?_cons] at h ⊢
    rw [h3]
    split at h
    · rename_i c
      cases h
      exact ⟨e', rfl, h1, h2⟩
    · exact find_ok n h4 h

theorem aentry_ok {v r : Value} {s s' : St} {a b : Nat} {ι : Inj} {w : World} (h : aentry v s = some (r, s', a, b)) (hs : Sim P.cellsOf ι s.h w) {v' : Value} (hv : VR ι v v') : Out P ι s w s' r (Instr.entry v') := by
  unfold aentry at h
  split at h
  · rename_i x
    obtain ⟨o, _, _, e1, _, h1⟩ := bind_getO h; clear h
    obtain ⟨L, hL, rfl⟩ := hv.ptr_inv
    obtain ⟨L', oc, a1, a2, a3⟩ := hs.obj _ _ e1
    rw [hL] at a1; cases a1
    split at h1
    · rename_i y since seen stepped
      obtain ⟨h0, m', rfl, Ly, hLy, rfl⟩ := a3
      obtain ⟨stamp, _, _, e2, h2⟩ := bind_lift h1; clear h1
      obtain ⟨o2, _, _, e3, _, h3⟩ := bind_getO h2; clear h2
      obtain ⟨c, _, _, e4, h4⟩ := bind_lift h3; clear h3
      obtain ⟨_, _, e5, h5⟩ := bind_guard h4; clear h4
      obtain ⟨e, _, _, e6, h6⟩ := bind_lift h5; clear h5
      obtain ⟨rfl, rfl⟩ := M.pure_some h6; clear h6
      have ho := mapOf_some e4; subst ho
      obtain ⟨es', y2, her⟩ := hs.map e3 hLy
      have herl : ERL ι c.1 es'.toList := ⟨by simpa using her.1, fun i k v b hi => by obtain ⟨e', q⟩ := her.2 i k v b hi; exact ⟨e', by simpa using q⟩⟩
      obtain ⟨e', q1, q2, q3⟩ := find_ok stamp herl e6
      have hg1 : (getObj L.b).run P w = .ok (.mapIter (some Ly.b) since seen.toArray stepped) w := run_getObj rfl a2
      have hg2 : (getObj Ly.b).run P w = .ok (.map es' c.2) w := run_getObj rfl y2
      have e5 := Nat.eq_of_beq_eq_true e5
      have hback : seen.toArray.back? = some stamp := by rw [← e2]; simp [Array.back?, List.getLast?_eq_getElem?]
      have hfind : es'.find? (fun e => e.born == stamp) = some e' := by rw [← Array.find?_toList]; exact q1
      rw [h0, Nat.zero_add]
      refine ⟨ι, w, _, ?_, Tran.refl hs, q2.tuple2 q3⟩
      simp [Instr.entry, hg1, hg2, hback, e5, hfind]
    · simp [M.fail] at h1
  · simp [M.fail] at h

end
end Go.Ai
/- The abstract evaluator, part 12b: operations on whole numbers, fast. -/
namespace Go.Ai

variable {P : Program}

def natk : IntKind → Nat
  | .u8 | .i8 => 256
  | .u16 | .i16 => 65536
  | .u32 | .i32 => 4294967296
  | .u64 | .i64 => 18446744073709551616
def kbits : IntKind → Nat
  | .u8 | .i8 => 8
  | .u16 | .i16 => 16
  | .u32 | .i32 => 32
  | .u64 | .i64 => 64
def knum : IntKind → Nat
  | .i8 => 0 | .i16 => 1 | .i32 => 2 | .i64 => 3 | .u8 => 4 | .u16 => 5 | .u32 => 6 | .u64 => 7

theorem knum_inj {k k' : IntKind} (h : Nat.beq (knum k) (knum k') = true) : k = k' := by
  cases k <;> cases k' <;> first | rfl | (exact absurd h (by decide))
theorem kbits_eq (k : IntKind) : kbits k = k.bits := by cases k <;> rfl

/-- a natural number cut to the kind; none: not looked at -/
def natw (k : IntKind) (m : Nat) : Option Nat :=
  match k with
  | .u8 => some (Nat.mod m 256)
  | .u16 => some (Nat.mod m 65536)
  | .u32 => some (Nat.mod m 4294967296)
  | .u64 => some (Nat.mod m 18446744073709551616)
  | .i8 => bif Nat.blt m 128 then some m else none
  | .i16 => bif Nat.blt m 32768 then some m else none
  | .i32 => bif Nat.blt m 2147483648 then some m else none
  | .i64 => bif Nat.blt m 9223372036854775808 then some m else none

theorem wrap_small {k : IntKind} {m b c : Nat} (hs : k.signed = true) (hb : (2 : Int) ^ k.bits = c) (hc : (2 : Int) ^ (k.bits - 1) = b) (hm : m < b) (hbc : b ≤ c) : k.wrap (m : Int) = (m : Int) := by
  unfold IntKind.wrap
  simp only [hb, hc, hs, Bool.true_and, decide_eq_true_eq]
  have e : ((m : Int) % (c : Int)) = (m : Int) := Int.emod_eq_of_lt (by omega) (by omega)
  rw [e, if_neg (by omega)]

theorem natw_ok {k : IntKind} {m r : Nat} (h : natw k m = some r) : k.wrap (m : Int) = (r : Int) := by
  cases k with
  | u8 => simp only [natw, Option.some.injEq] at h; subst h; rfl
  | u16 => simp only [natw, Option.some.injEq] at h; subst h; rfl
  | u32 => simp only [natw, Option.some.injEq] at h; subst h; rfl
  | u64 => simp only [natw, Option.some.injEq] at h; subst h; rfl
  | i8 =>
    simp only [natw] at h
    cases hb : Nat.blt m 128 with
    | false => rw [hb] at h; cases h
    | true => rw [hb] at h; cases h; exact wrap_small (b := 128) (c := 256) rfl (by decide) (by decide) (by simpa [Nat.blt_eq] using hb) (by decide)
  | i16 =>
    simp only [natw] at h
    cases hb : Nat.blt m 32768 with
    | false => rw [hb] at h; cases h
    | true => rw [hb] at h; cases h; exact wrap_small (b := 32768) (c := 65536) rfl (by decide) (by decide) (by simpa [Nat.blt_eq] using hb) (by decide)
  | i32 =>
    simp only [natw] at h
    cases hb : Nat.blt m 2147483648 with
    | false => rw [hb] at h; cases h
    | true => rw [hb] at h; cases h; exact wrap_small (b := 2147483648) (c := 4294967296) rfl (by decide) (by decide) (by simpa [Nat.blt_eq] using hb) (by decide)
  | i64 =>
    simp only [natw] at h
    cases hb : Nat.blt m 9223372036854775808 with
    | false => rw [hb] at h; cases h
    | true => rw [hb] at h; cases h; exact wrap_small (b := 9223372036854775808) (c := 18446744073709551616) rfl (by decide) (by decide) (by simpa [Nat.blt_eq] using hb) (by decide)

def mkInt (k : IntKind) : Option Nat → Option Value
  | some r => some (.int k (.ofNat r))
  | none => none

/-- of one kind -/
def binN (op : BinOp) (k : IntKind) (m n : Nat) : Option Value :=
  match op with
  | .add => mkInt k (natw k (Nat.add m n))
  | .sub => bif Nat.ble n m then mkInt k (natw k (Nat.sub m n)) else none
  | .mul => mkInt k (natw k (Nat.mul m n))
  | .quo => bif Nat.beq n 0 then none else mkInt k (natw k (Nat.div m n))
  | .rem => bif Nat.beq n 0 then none else some (.int k (.ofNat (Nat.mod m n)))
  | .and => mkInt k (natw k (Nat.land (Nat.mod m (natk k)) (Nat.mod n (natk k))))
  | .or => mkInt k (natw k (Nat.lor (Nat.mod m (natk k)) (Nat.mod n (natk k))))
  | .xor => mkInt k (natw k (Nat.xor (Nat.mod m (natk k)) (Nat.mod n (natk k))))
  | .eql => some (.bool (Nat.beq m n))
  | .neq => some (.bool (not (Nat.beq m n)))
  | .lss => some (.bool (Nat.blt m n))
  | .leq => some (.bool (Nat.ble m n))
  | .gtr => some (.bool (Nat.blt n m))
  | .geq => some (.bool (Nat.ble n m))
  | _ => none

def fastBin (op : BinOp) (a b : Value) : Option Value :=
  match a, b with
  | .int k (.ofNat m), .int k' (.ofNat n) =>
    match op with
    | .shl => mkInt k (natw k (Nat.mul m (Nat.pow 2 (Nat.min n (kbits k)))))
    | .shr => some (.int k (.ofNat (Nat.div m (Nat.pow 2 (Nat.min n (kbits k))))))
    | op => bif Nat.beq (knum k) (knum k') then binN op k m n else none
  | _, _ => none

theorem mkInt_some {k : IntKind} {o : Option Nat} {v : Value} (h : mkInt k o = some v) : ∃ r, o = some r ∧ v = .int k (r : Int) := by
  cases o with
  | none => cases h
  | some r => cases h; exact ⟨r, rfl, rfl⟩

theorem bvNat (k : IntKind) (m : Nat) : (BitVec.ofInt k.bits (m : Int)).toNat = m % natk k := by
  rw [BitVec.toNat_ofInt]
  have : (2 : Nat) ^ k.bits = natk k := by cases k <;> rfl
  rw [this]
  have e : ((m : Int) % ((natk k : Nat) : Int)) = ((m % natk k : Nat) : Int) := rfl
  rw [e]; rfl

theorem binN_ok {op : BinOp} {k : IntKind} {m n : Nat} {v : Value} (h : binN op k m n = some v) (t : TypeId) (w : World) :
    (binOp op t (.int k (m : Int)) (.int k (n : Int))).run P w = .ok v w ∧ plain v = true := by
  cases op with
  | add =>
    obtain ⟨r, e, rfl⟩ := mkInt_some h
    refine ⟨?_, rfl⟩
    have := natw_ok e
    simp only [binOp, ne_eq, not_true_eq_false, if_false, Op.intArith, Sem.run_pure]
    rw [show ((m : Int) + (n : Int)) = ((Nat.add m n : Nat) : Int) from rfl, this]
  | sub =>
    unfold binN at h
    cases hb : Nat.ble n m with
    | false => simp only [hb] at h; cases h
    | true =>
      simp only [hb, cond_true] at h
      obtain ⟨r, e, rfl⟩ := mkInt_some h
      refine ⟨?_, rfl⟩
      have := natw_ok e
      have hle := Nat.le_of_ble_eq_true hb
      simp only [binOp, ne_eq, not_true_eq_false, if_false, Op.intArith, Sem.run_pure]
      rw [show ((m : Int) - (n : Int)) = ((Nat.sub m n : Nat) : Int) from (Int.ofNat_sub hle).symm, this]
  | mul =>
    obtain ⟨r, e, rfl⟩ := mkInt_some h
    refine ⟨?_, rfl⟩
    have := natw_ok e
    simp only [binOp, ne_eq, not_true_eq_false, if_false, Op.intArith, Sem.run_pure]
    rw [show ((m : Int) * (n : Int)) = ((Nat.mul m n : Nat) : Int) from rfl, this]
  | quo =>
    unfold binN at h
    cases hb : Nat.beq n 0 with
    | true => simp only [hb] at h; cases h
    | false =>
      simp only [hb, cond_false] at h
      obtain ⟨r, e, rfl⟩ := mkInt_some h
      refine ⟨?_, rfl⟩
      have := natw_ok e
      have hn : ¬ (n : Int) = 0 := by
        intro c
        have : n = 0 := by omega
        subst this; cases hb
      simp only [binOp, ne_eq, not_true_eq_false, if_false, Op.intDiv, hn, Sem.run_pure]
      rw [show (Int.tdiv (m : Int) (n : Int)) = ((Nat.div m n : Nat) : Int) from rfl, this]
  | rem =>
    unfold binN at h
    cases hb : Nat.beq n 0 with
    | true => simp only [hb] at h; cases h
    | false =>
      simp only [hb, cond_false, Option.some.injEq] at h
      subst h
      refine ⟨?_, rfl⟩
      have hn : ¬ (n : Int) = 0 := by
        intro c
        have : n = 0 := by omega
        subst this; cases hb
      simp only [binOp, ne_eq, not_true_eq_false, if_false, Op.intDiv, hn, Sem.run_pure]
      rfl
  | and =>
    obtain ⟨r, e, rfl⟩ := mkInt_some h
    refine ⟨?_, rfl⟩
    have := natw_ok e
    simp only [binOp, ne_eq, not_true_eq_false, if_false, Op.intBits, Sem.run_pure, BitVec.toNat_and, bvNat]
    exact congrArg (fun x => Result.ok (Value.int k x) w) this
  | or =>
    obtain ⟨r, e, rfl⟩ := mkInt_some h
    refine ⟨?_, rfl⟩
    have := natw_ok e
    simp only [binOp, ne_eq, not_true_eq_false, if_false, Op.intBits, Sem.run_pure, BitVec.toNat_or, bvNat]
    exact congrArg (fun x => Result.ok (Value.int k x) w) this
  | xor =>
    obtain ⟨r, e, rfl⟩ := mkInt_some h
    refine ⟨?_, rfl⟩
    have := natw_ok e
    simp only [binOp, ne_eq, not_true_eq_false, if_false, Op.intBits, Sem.run_pure, BitVec.toNat_xor, bvNat]
    exact congrArg (fun x => Result.ok (Value.int k x) w) this
  | eql =>
    simp only [binN, Option.some.injEq] at h; subst h
    refine ⟨?_, rfl⟩
    simp only [binOp, ne_eq, not_true_eq_false, if_false, Op.intCmp, Sem.run_pure]
    congr 2
    rw [Bool.eq_iff_iff]; simp [Nat.beq_eq]; omega
  | neq =>
    simp only [binN, Option.some.injEq] at h; subst h
    refine ⟨?_, rfl⟩
    simp only [binOp, ne_eq, not_true_eq_false, if_false, Op.intCmp, Sem.run_pure]
    have e : ((m : Int) == (n : Int)) = Nat.beq m n := by rw [Bool.eq_iff_iff]; simp [Nat.beq_eq]; omega
    rw [bne, e]
  | lss =>
    simp only [binN, Option.some.injEq] at h; subst h
    refine ⟨?_, rfl⟩
    simp only [binOp, ne_eq, not_true_eq_false, if_false, Op.intCmp, Sem.run_pure]
    congr 2
    rw [Bool.eq_iff_iff]; simp [Nat.blt_eq]
  | leq =>
    simp only [binN, Option.some.injEq] at h; subst h
    refine ⟨?_, rfl⟩
    simp only [binOp, ne_eq, not_true_eq_false, if_false, Op.intCmp, Sem.run_pure]
    congr 2
    rw [Bool.eq_iff_iff]; simp [Nat.ble_eq]
  | gtr =>
    simp only [binN, Option.some.injEq] at h; subst h
    refine ⟨?_, rfl⟩
    simp only [binOp, ne_eq, not_true_eq_false, if_false, Op.intCmp, Sem.run_pure]
    congr 2
    rw [Bool.eq_iff_iff]; simp [Nat.blt_eq]
  | geq =>
    simp only [binN, Option.some.injEq] at h; subst h
    refine ⟨?_, rfl⟩
    simp only [binOp, ne_eq, not_true_eq_false, if_false, Op.intCmp, Sem.run_pure]
    congr 2
    rw [Bool.eq_iff_iff]; simp [Nat.ble_eq]
  | _ => cases h

theorem fastBin_ok {op : BinOp} {a b v : Value} (h : fastBin op a b = some v) (t : TypeId) (x y : Operand) (w : World) :
    (do eqGuard op t x y a b; binOp op t a b : Sem Value).run P w = .ok v w ∧ plain v = true ∧ plain a = true ∧ plain b = true := by
  unfold fastBin at h
  split at h
  · rename_i k m k' n
    suffices hh : (binOp op t (.int k (.ofNat m)) (.int k' (.ofNat n))).run P w = .ok v w ∧ plain v = true by
      refine ⟨?_, hh.2, rfl, rfl⟩
      simp only [Sem.run_bind]
      have : (eqGuard op t x y (.int k (.ofNat m)) (.int k' (.ofNat n))).run P w = .ok () w := by
        cases op <;> simp [eqGuard]
      rw [this]
      exact hh.1
    have pw : ∀ n : Nat, (2 : Int) ^ n = ((Nat.pow 2 n : Nat) : Int) := fun n => by simp [Int.natCast_pow]
    split at h
    · obtain ⟨r, e, rfl⟩ := mkInt_some h
      refine ⟨?_, rfl⟩
      have := natw_ok e
      simp only [binOp, Op.shift]
      rw [if_neg (by simp)]
      simp only [Sem.run_pure]
      rw [← kbits_eq, pw]
      exact congrArg (fun x => Result.ok (Value.int k x) w) this
    · simp only [Option.some.injEq] at h; subst h
      refine ⟨?_, rfl⟩
      simp only [binOp, Op.shift]
      rw [if_neg (by simp)]
      simp only [Sem.run_pure]
      rw [← kbits_eq, pw]
      exact congrArg (fun x => Result.ok (Value.int k x) w) (Int.ofNat_fdiv m _).symm
    · rename_i hs1 hs2
      cases hk : Nat.beq (knum k) (knum k') with
      | false => rw [hk] at h; cases h
      | true =>
        rw [hk] at h; simp only [cond_true] at h
        have := knum_inj hk
        subst this
        exact binN_ok h t w
  · cases h

end Go.Ai
/- The abstract evaluator, part 13: comparisons, assertions, making. -/
namespace Go.Ai
noncomputable section

variable {P : Program}

section
variable (P : Program) (S : Sig)

/-- two cells of a struct that is compared -/
def cellEq (d : TypeDesc) (a b : Value) : Option Bool :=
  match nilcmp d a b with
  | some r => some r
  | none =>
    match Instr.sameNow d a b with
    | some r => some r
    | none => match d, a, b with
      | .pointer _, .pointer none, .pointer none => some true
      | _, _, _ => none

def eqF : List Field → List Value → List Value → Option Bool
  | [], _, _ => some true
  | f :: fs, xs, ys =>
    bif f.name != "_" then
      match S.und.get f.type, xs[f.offset]?, ys[f.offset]? with
      | some d, some a, some b =>
        bif isAggD d then none
        else match cellEq d a b with
          | some true => eqF fs xs ys
          | some false => some false
          | none => none
      | _, _, _ => none
    else eqF fs xs ys

def aptrEq (t : TypeId) (a b : Value) : M Bool :=
  match S.und.get t with
  | some (.pointer e) =>
    M.bind (M.lift (S.inf.get e)) fun i =>
    M.bind (M.guard (Nat.ble 1 i.1)) fun _ =>
    M.bind (M.lift (ptrOf a)) fun x =>
    M.bind (M.lift (ptrOf b)) fun y =>
    bif Nat.beq x.1 y.1 then M.bind (M.getO x.1) fun _ => M.pure (Nat.beq x.2 y.2)
    else
      M.bind (M.getO x.1) fun o1 =>
      M.bind (M.lift (cellsOfO o1)) fun c1 =>
      M.bind (M.getO y.1) fun o2 =>
      M.bind (M.lift (cellsOfO o2)) fun c2 =>
      M.bind (M.guard (!c1.2.2 && !c2.2.2)) fun _ => M.pure false
  | _ => M.fail

def aggOf : Value → Option (List Value)
  | .agg a => some a.toList
  | _ => none

def abinSlow (op : BinOp) (t : TypeId) (x y : Operand) (a b : Value) : M Value :=
  bif plain a && plain b then M.lift (still P (do eqGuard op t x y a b; binOp op t a b : Sem Value))
  else
    match S.und.get t with
    | some d =>
      match nilcmp d a b with
      | some r => M.lift (eqop op r)
      | none =>
        match d with
        | .pointer _ => M.bind (aptrEq S t a b) fun r => M.lift (eqop op r)
        | .struct fs =>
          M.bind (M.lift (S.eqs.get t)) fun _ =>
          M.bind (M.lift (aggOf a)) fun xs =>
          M.bind (M.lift (aggOf b)) fun ys =>
          M.bind (M.lift (eqF S fs.toList xs ys)) fun r => M.lift (eqop op r)
        | _ => M.fail
    | none => M.fail

def abin (op : BinOp) (t : TypeId) (x y : Operand) (a b : Value) : M Value :=
  match fastBin op a b with
  | some v => M.pure v
  | none => abinSlow P S op t x y a b

def atypeAssert (x : Value) (asserted : TypeId) (ok : Bool) : Option Value :=
  match S.und.get asserted, S.inf.get asserted with
  | some d, some i =>
    bif notIface d then
      match x with
      | .nilIface => bif ok && plain i.2.2 then some (.tuple #[i.2.2, .bool false]) else none
      | .iface t v =>
        bif Nat.beq t asserted then some (bif ok then .tuple #[v, .bool true] else v)
        else bif ok && plain i.2.2 then some (.tuple #[i.2.2, .bool false]) else none
      | _ => none
    else none
  | _, _ => none

def amakeMap (r : Option Value) : M Value :=
  match r with
  | none => M.bind (M.newO (.map [] 0)) fun x => M.pure (.map (some x))
  | some _ => M.fail

def amakeChan (t : TypeId) (c : Value) : M Value :=
  match S.und.get t with
  | some (.chan _ e) =>
    M.bind (M.lift (S.inf.get e)) fun i =>
    M.bind (M.lift (natOf c)) fun n =>
    M.bind (M.guard (Nat.ble n 16777216 && Nat.ble (i.2.1 * n) 1099511627776)) fun _ =>
    M.bind (M.newO (.chan n [] 0 0)) fun x => M.pure (.chan (some x))
  | _ => M.fail

def amakeSlice (t : TypeId) (l c : Value) : M Value :=
  match S.und.get t with
  | some (.slice e) =>
    M.bind (M.lift (S.inf.get e)) fun i =>
    M.bind (M.lift (natOf l)) fun ln =>
    M.bind (M.lift (natOf c)) fun cn =>
    let z := i.2.2.cells.toList
    M.bind (M.guard (Nat.beq z.length i.1 && z.all flat && Nat.ble 1 i.1 && Nat.ble ln cn && Nat.ble cn 16777216 && Nat.ble (i.2.1 * cn) 1099511627776)) fun _ =>
    M.bind (M.newO (.cells (repL cn z) e false)) fun x => M.pure (.slice (some ⟨x, 0, none⟩) ln cn)
  | _ => M.fail

end

theorem atypeAssert_ok {S : Sig} (hS : SigOK S P) {x r : Value} {asserted : TypeId} {ok : Bool} (h : atypeAssert S x asserted ok = some r) {ι : Inj} {x' : Value} (hx : VR ι x x') (xt : TypeId) (w : World) :
    OutV P ι w r (Instr.typeAssert x' xt asserted ok) := by
  unfold atypeAssert at h
  generalize e0 : S.und.get asserted = d0 at h
  generalize e1 : S.inf.get asserted = d1 at h
  split at h
  · rename_i d i
    obtain ⟨size, bytes, zv⟩ := i
    cases hn : notIface d with
    | false => rw [hn] at h; cases h
    | true =>
      rw [hn] at h; simp only [cond_true] at h
      have hu := run_underlying (hS.und _ _ e0) w
      obtain ⟨ti, f1, f2, f3, f4⟩ := hS.inf _ _ _ _ e1
      have hzv : (zeroValue asserted).run P w = .ok zv w := by simp [zeroValue, typeInfo, f1, f4]
      split at h
      · cases hx
        cases hp : (ok && plain zv) with
        | false => rw [hp] at h; cases h
        | true =>
          rw [hp] at h; simp only [cond_true, Option.some.injEq] at h; subst h
          simp only [Bool.and_eq_true] at hp
          refine ⟨.tuple #[zv, .bool false], ?_, (VR.plain_refl hp.2).tuple2 (.bool false)⟩
          obtain ⟨rfl, _⟩ := hp
          cases d <;> first | (simp [notIface] at hn; done) | simp [Instr.typeAssert, hu, hzv]
      · rename_i t v
        cases hx with | iface _ _ v' hv =>
        cases hb : Nat.beq t asserted with
        | true =>
          rw [hb] at h; simp only [cond_true, Option.some.injEq] at h; subst h
          have := Nat.eq_of_beq_eq_true hb; subst this
          cases ok with
          | true =>
            refine ⟨.tuple #[v', .bool true], ?_, hv.tuple2 (.bool true)⟩
            cases d <;> first | (simp [notIface] at hn; done) | simp [Instr.typeAssert, hu]
          | false =>
            refine ⟨v', ?_, hv⟩
            cases d <;> first | (simp [notIface] at hn; done) | simp [Instr.typeAssert, hu]
        | false =>
          rw [hb] at h; simp only [cond_false] at h
          have hne : t ≠ asserted := by intro c; subst c; rw [Nat.beq_refl] at hb; cases hb
          cases hp : (ok && plain zv) with
          | false => rw [hp] at h; cases h
          | true =>
            rw [hp] at h; simp only [cond_true, Option.some.injEq] at h; subst h
            simp only [Bool.and_eq_true] at hp
            refine ⟨.tuple #[zv, .bool false], ?_, (VR.plain_refl hp.2).tuple2 (.bool false)⟩
            obtain ⟨rfl, _⟩ := hp
            cases d <;> first | (simp [notIface] at hn; done) | simp [Instr.typeAssert, hu, hzv, hne]
      · cases h
  · cases h

theorem amakeMap_ok {t : TypeId} {o : Option Value} {r : Value} {s s' : St} {a b : Nat} {ι : Inj} {w : World} (h : amakeMap o s = some (r, s', a, b)) (hs : Sim P.cellsOf ι s.h w) (hf : Free ι s.n s'.n) {o' : Option Value} (ho : OVR ι o o') :
    Out P ι s w s' r (Instr.makeMap t o') := by
  unfold amakeMap at h
  split at h
  · cases o' with
    | some _ => exact ho.elim
    | none =>
      obtain ⟨_, _, e5, h5⟩ := bind_newO h; clear h
      obtain ⟨rfl, rfl⟩ := M.pure_some h5; clear h5
      have hf0 : ι s.n = none := hf _ (Nat.le_refl _) (Nat.lt_succ_self _)
      exact ⟨_, _, _, rfl, hs.alloc e5 hf0 0 0 (o := .map [] 0) (o' := .map #[] 0) ⟨#[], rfl, rfl, fun i k v b hh => by simp at hh⟩, VR.map s.n _ (Inj.add_same _ _ _)⟩
  · simp [M.fail] at h

theorem wrap_nat {n : Nat} (h : n ≤ 16777216) : IntKind.i64.wrap (n : Int) = (n : Int) := by
  unfold IntKind.wrap
  simp only [IntKind.signed, IntKind.bits]
  have : (n : Int) % 2 ^ 64 = n := by omega
  simp only [this]
  have h2 : ¬ (9223372036854775808 : Int) ≤ (n : Int) := by omega
  simp [h2]

theorem amakeSlice_ok {S : Sig} (hS : SigOK S P) {t : TypeId} {l c r : Value} {s s' : St} {a b : Nat} {ι : Inj} {w : World} (h : amakeSlice S t l c s = some (r, s', a, b)) (hs : Sim P.cellsOf ι s.h w) (hf : Free ι s.n s'.n)
    {l' c' : Value} (hl : VR ι l l') (hc : VR ι c c') : Out P ι s w s' r (Instr.makeSlice t l' c') := by
  unfold amakeSlice at h
  generalize e0 : S.und.get t = d at h
  split at h
  · rename_i e
    obtain ⟨⟨size, bytes, zv⟩, _, _, e1, h1⟩ := bind_lift h; clear h
    obtain ⟨ln, _, _, e2, h2⟩ := bind_lift h1; clear h1
    obtain ⟨cn, _, _, e3, h3⟩ := bind_lift h2; clear h2
    obtain ⟨_, _, e4, h4⟩ := bind_guard h3; clear h3
    obtain ⟨_, _, e5, h5⟩ := bind_newO h4; clear h4
    obtain ⟨rfl, rfl⟩ := M.pure_some h5; clear h5
    simp only [Bool.and_eq_true] at e4
    obtain ⟨⟨⟨⟨⟨k1, k2⟩, k3⟩, k4⟩, k5⟩, k6⟩ := e4
    have k1 := Nat.eq_of_beq_eq_true k1
    have k3 := Nat.le_of_ble_eq_true k3
    have k4 := Nat.le_of_ble_eq_true k4
    have k5 := Nat.le_of_ble_eq_true k5
    have k6 : bytes * cn ≤ 1099511627776 := Nat.le_of_ble_eq_true k6
    obtain ⟨ti, f1, f2, f3, f4⟩ := hS.inf _ _ _ _ e1
    have hf0 : ι s.n = none := hf _ (Nat.le_refl _) (Nat.lt_succ_self _)
    have hzs : zv.cells.size = size := by rw [← Array.length_toList]; exact k1
    obtain ⟨_, _, rfl⟩ := hl.natOf e2
    obtain ⟨_, _, rfl⟩ := hc.natOf e3
    obtain ⟨ι', ht, hn, _⟩ := newRow_ok (P := P) hs e5 hf0 e (l' := (repL cn zv.cells.toList).toArray) (by rw [List.toList_toArray]; exact (LR.flat_refl k2).repL cn)
    refine ⟨ι', _, _, ?_, ht, VR.sl s.n 0 ln cn _ _ hn (by unfold HALF; omega) (.inl rfl)⟩
    have hw1 := wrap_nat k5
    have hw2 := wrap_nat (n := ln) (by omega)
    have hzv : (zeroValue e).run P w = .ok zv w := by simp [zeroValue, typeInfo, f1, f4]
    have hsz := run_sizeOf f1 w
    rw [f2] at hsz
    have b1 : ¬ ((cn : Int) < 0) := by omega
    have b2 : ¬ (281474976710656 < (bytes : Int) * (cn : Int)) := by
      have e := Int.natCast_mul bytes cn
      omega
    have b3 : ¬ ((ln : Int) < 0) := by omega
    have b4 : ¬ ((cn : Int) < (ln : Int)) := by omega
    have hrr := range_rep zv.cells cn (by omega)
    rw [hzs] at hrr
    simp only [Instr.makeSlice, Sem.run_bind, run_underlying (hS.und _ _ e0), Result.andThen_ok, asInt, asIntOf, Sem.run_pure, typeInfo, run_program, f1, f3, hw1, hw2]
    simp only [Int.toNat_natCast, decide_eq_true_eq, Bool.or_eq_true, Sem.run_ite]
    rw [if_neg (by simp [b1, b2, b3, b4])]
    by_cases hz : cn * size = 0
    · have hl0 : cn = 0 := by rcases Nat.mul_eq_zero.1 hz with c | c <;> omega
      subst hl0
      simp [repL, newRow, hsz]
      have hr0 : (Array.range 0).map (fun _ => (default : Value)) = #[] := by simp
      rw [hr0]
    · simp [hsz, hz, hzv, newRow, hzs]
      rw [hrr]
  · simp [M.fail] at h

theorem amakeChan_ok {S : Sig} (hS : SigOK S P) {t : TypeId} {c r : Value} {s s' : St} {a b : Nat} {ι : Inj} {w : World} (h : amakeChan S t c s = some (r, s', a, b)) (hs : Sim P.cellsOf ι s.h w) (hf : Free ι s.n s'.n)
    {c' : Value} (hc : VR ι c c') : Out P ι s w s' r (Instr.makeChan t c') := by
  unfold amakeChan at h
  generalize e0 : S.und.get t = d at h
  split at h
  · rename_i di e
    obtain ⟨⟨size, bytes, zv⟩, _, _, e1, h1⟩ := bind_lift h; clear h
    obtain ⟨n, _, _, e2, h2⟩ := bind_lift h1; clear h1
    obtain ⟨_, _, e4, h4⟩ := bind_guard h2; clear h2
    obtain ⟨_, _, e5, h5⟩ := bind_newO h4; clear h4
    obtain ⟨rfl, rfl⟩ := M.pure_some h5; clear h5
    simp only [Bool.and_eq_true] at e4
    have k5 := Nat.le_of_ble_eq_true e4.1
    have k6 : bytes * n ≤ 1099511627776 := Nat.le_of_ble_eq_true e4.2
    obtain ⟨ti, f1, f2, f3, f4⟩ := hS.inf _ _ _ _ e1
    have hf0 : ι s.n = none := hf _ (Nat.le_refl _) (Nat.lt_succ_self _)
    obtain ⟨_, _, rfl⟩ := hc.natOf e2
    refine ⟨_, _, _, ?_, hs.alloc e5 hf0 0 0 (o := .chan n [] 0 0) (o' := .chan n #[] false 0 0 false) ⟨rfl, #[], rfl, LR.nil⟩, VR.chan s.n _ (Inj.add_same _ _ _)⟩
    have b1 : ¬ ((n : Int) < 0) := by omega
    have b2 : ¬ (281474976710544 < (bytes : Int) * (n : Int)) := by
      have e := Int.natCast_mul bytes n
      omega
    have b3 : ¬ (9223372036854775807 < (n : Int)) := by omega
    simp only [Instr.makeChan, Sem.run_bind, run_underlying (hS.und _ _ e0), Result.andThen_ok, asInt, asIntOf, Sem.run_pure, typeInfo, run_program, f1, f3]
    simp [b1, b2, b3]
  · simp [M.fail] at h

theorem cellEq_ok {d : TypeDesc} {t : TypeId} (hd : P.underlying t = some d) {a b : Value} {r : Bool} (h : cellEq d a b = some r) {ι : Inj} {a' b' : Value} (ha : VR ι a a') (hb : VR ι b b') (n : Nat) (w : World) :
    (Op.equalIn (n + 1) t a' b').run P w = .ok r w := by
  have hu := run_underlying hd w
  unfold cellEq at h
  split at h
  · rename_i r' e1
    cases h
    unfold nilcmp at e1
    split at e1 <;> cases e1 <;> cases ha <;> cases hb <;> (unfold Op.equalIn; simp only [Sem.run_bind, hu, Result.andThen_ok]; rfl)
  · split at h
    · rename_i r' e1
      cases h
      obtain ⟨f1, f2⟩ := sameNow_flat e1
      have h1 := ha.flat_eq f1
      have h2 := hb.flat_eq f2
      subst h1; subst h2
      unfold Instr.sameNow at e1
      split at e1
      · split at e1
        · rename_i hk
          cases e1; subst hk
          unfold Op.equalIn; simp only [Sem.run_bind, hu, Result.andThen_ok, if_true, Sem.run_pure]
        · cases e1
      · cases e1
        unfold Op.equalIn; simp only [Sem.run_bind, hu, Result.andThen_ok, Sem.run_pure]
      · cases e1
        unfold Op.equalIn; simp only [Sem.run_bind, hu, Result.andThen_ok, Sem.run_pure]
      · cases e1
    · split at h
      · cases h; cases ha; cases hb
        unfold Op.equalIn; simp only [Sem.run_bind, hu, Result.andThen_ok, Sem.run_pure]; rfl
      · cases h

theorem eqF_ok {S : Sig} (hS : SigOK S P) {ι : Inj} {xs ys : List Value} {xs' ys' : Array Value} (hx : LR ι xs xs'.toList) (hy : LR ι ys ys'.toList) (n : Nat) (w : World) : ∀ {fs : List Field} {r : Bool}, eqF S fs xs ys = some r →
    (Op.eqFields (n + 1) xs' ys' fs).run P w = .ok r w
  | [], r, h => by simp only [eqF, Option.some.injEq] at h; subst h; rfl
  | f :: fs, r, h => by
    simp only [eqF] at h
    cases hn : (f.name != "_") with
    | false =>
      rw [hn] at h; simp only [cond_false] at h
      have hn' : ¬ f.name ≠ "_" := by simpa using hn
      simp only [Op.eqFields, if_neg hn']
      exact eqF_ok hS hx hy n w h
    | true =>
      rw [hn] at h; simp only [cond_true] at h
      have hn' : f.name ≠ "_" := by simpa using hn
      generalize e0 : S.und.get f.type = d0 at h
      split at h
      · rename_i d a b e1 e2
        cases hd : isAggD d with
        | true => rw [hd] at h; cases h
        | false =>
          rw [hd] at h; simp only [cond_false] at h
          obtain ⟨a', q1, q2⟩ := hx.get e1
          obtain ⟨b', q3, q4⟩ := hy.get e2
          have q1' : xs'[f.offset]? = some a' := by simpa using q1
          have q3' : ys'[f.offset]? = some b' := by simpa using q3
          have hu := hS.und _ _ e0
          have p1 : (part f.type xs' f.offset).run P w = .ok a' w := by simp [part, run_isAgg hu, hd, q1']
          have p2 : (part f.type ys' f.offset).run P w = .ok b' w := by simp [part, run_isAgg hu, hd, q3']
          simp only [Op.eqFields, if_pos hn', Sem.run_bind, p1, p2, Result.andThen_ok]
          split at h
          · rename_i e3
            rw [cellEq_ok hu e3 q2 q4 n w]
            simp only [Result.andThen_ok, Bool.not_true, Bool.false_eq_true, if_false]
            exact eqF_ok hS hx hy n w h
          · rename_i e3
            cases h
            rw [cellEq_ok hu e3 q2 q4 n w]
            simp
          · cases h
      · cases h

theorem aptrEq_ok {S : Sig} (hS : SigOK S P) {t : TypeId} {a b : Value} {r : Bool} {s s' : St} {m k : Nat} {ι : Inj} {w : World} (h : aptrEq S t a b s = some (r, s', m, k)) (hs : Sim P.cellsOf ι s.h w)
    {a' b' : Value} (ha : VR ι a a') (hb : VR ι b b') : s' = s ∧ (Op.equal t a' b').run P w = .ok r w ∧ (∃ x y, a' = .pointer x ∧ b' = .pointer y) := by
  unfold aptrEq at h
  generalize e0 : S.und.get t = d at h
  split at h
  · rename_i e
    obtain ⟨⟨size, bytes, zv⟩, _, _, e1, h1⟩ := bind_lift h; clear h
    obtain ⟨_, _, e2, h2⟩ := bind_guard h1; clear h1
    obtain ⟨x, _, _, e3, h3⟩ := bind_lift h2; clear h2
    obtain ⟨y, _, _, e4, h4⟩ := bind_lift h3; clear h3
    have hu := run_underlying (hS.und _ _ e0) w
    obtain ⟨ti, f1, f2, f3, f4⟩ := hS.inf _ _ _ _ e1
    have hsz := run_sizeOf f1 w
    rw [f2] at hsz
    have hpos : size ≠ 0 := by have := Nat.le_of_ble_eq_true e2; simp only at this; omega
    have hp1 := ptrOf_some e3; subst hp1
    have hp2 := ptrOf_some e4; subst hp2
    obtain ⟨L1, hL1, rfl⟩ := ha.ptr_inv
    obtain ⟨L2, hL2, rfl⟩ := hb.ptr_inv
    have heq : ∀ p q : Addr, (Op.equal t (.pointer (some p)) (.pointer (some q))).run P w = (sameAddr p q).run P w := by
      intro p q
      show (Op.equalIn (9999 + 1) t (.pointer (some p)) (.pointer (some q))).run P w = _
      unfold Op.equalIn
      simp only [Sem.run_bind, hu, Result.andThen_ok, hsz, ne_eq, hpos, not_false_eq_true, if_true]
    cases hxy : Nat.beq x.1 y.1 with
    | true =>
      rw [hxy] at h4; simp only [cond_true] at h4
      obtain ⟨o, _, _, e5, _, h5⟩ := bind_getO h4; clear h4
      obtain ⟨rfl, rfl⟩ := M.pure_some h5
      have hxy := Nat.eq_of_beq_eq_true hxy
      rw [← hxy, hL1] at hL2; cases hL2
      refine ⟨rfl, ?_, _, _, rfl, rfl⟩
      rw [heq]
      simp only [sameAddr, beq_self_eq_true, if_true, Sem.run_pure]
      congr 1
      rw [Bool.eq_iff_iff]
      simp
    | false =>
      rw [hxy] at h4; simp only [cond_false] at h4
      obtain ⟨o1, _, _, e5, _, h5⟩ := bind_getO h4; clear h4
      obtain ⟨c1, _, _, e6, h6⟩ := bind_lift h5; clear h5
      obtain ⟨o2, _, _, e7, _, h7⟩ := bind_getO h6; clear h6
      obtain ⟨c2, _, _, e8, h8⟩ := bind_lift h7; clear h7
      obtain ⟨_, _, e9, h9⟩ := bind_guard h8; clear h8
      obtain ⟨rfl, rfl⟩ := M.pure_some h9; clear h9
      have ho1 := cellsOfO_some e6; subst ho1
      have ho2 := cellsOfO_some e8; subst ho2
      simp only [Bool.and_eq_true, Bool.not_eq_true'] at e9
      obtain ⟨L1', oc1, a1, a2, cs1, fr1, rfl, b2, b3, b4⟩ := hs.obj _ _ e5
      rw [hL1] at a1; cases a1
      obtain ⟨L2', oc2, a1', a2', cs2, fr2, rfl, b2', b3', b4'⟩ := hs.obj _ _ e7
      rw [hL2] at a1'; cases a1'
      rw [e9.1] at b4; rw [e9.2] at b4'
      simp only [Bool.false_eq_true, if_false] at b4 b4'
      subst b4; subst b4'
      have hne : L1.b ≠ L2.b := fun c => by
        have := hs.inj x.1 y.1 L1 L2 (by rw [e5]; rfl) (by rw [e7]; rfl) hL1 hL2 c
        rw [this, Nat.beq_refl] at hxy; cases hxy
      refine ⟨rfl, ?_, _, _, rfl, rfl⟩
      rw [heq]
      have z1 : ∀ i, w.frozen? ⟨L1.b, i, none⟩ = false := fun i => by simp [World.frozen?, a2]
      have z2 : ∀ i, w.frozen? ⟨L2.b, i, none⟩ = false := fun i => by simp [World.frozen?, a2']
      have y1 : w.shape? L1.b = some (c1.2.1, cs1.size) := by simp [World.shape?, a2]
      have y2 : w.shape? L2.b = some (c2.2.1, cs2.size) := by simp [World.shape?, a2']
      simp [sameAddr, hne, z1, z2, noView, viewAt, y1, y2, mayBeOne, stringish]
  · simp [M.fail] at h

theorem binOp_eq_of {op : BinOp} {t : TypeId} {a b : Value} {r : Bool} {v : Value} (hv : eqop op r = some v) {w : World} (he : (Op.equal t a b).run P w = .ok r w)
    (h1 : binOp .eql t a b = (do pure (.bool (← Op.equal t a b)))) (h2 : binOp .neq t a b = (do pure (.bool (!(← Op.equal t a b))))) : (binOp op t a b).run P w = .ok v w := by
  cases op <;> simp only [eqop, reduceCtorEq, Option.some.injEq] at hv <;> subst hv
  · rw [h1, Sem.run_bind, he]; rfl
  · rw [h2, Sem.run_bind, he]; rfl

theorem eqop_plain {op : BinOp} {r : Bool} {v : Value} (h : eqop op r = some v) : plain v = true := by
  cases op <;> simp only [eqop, reduceCtorEq, Option.some.injEq] at h <;> subst h <;> rfl

theorem abinSlow_ok {S : Sig} (hS : SigOK S P) {op : BinOp} {t : TypeId} {x y : Operand} {a b r : Value} {s s' : St} {m k : Nat} {ι : Inj} {w : World} (h : abinSlow P S op t x y a b s = some (r, s', m, k)) (hs : Sim P.cellsOf ι s.h w) (hpl : plain r = true)
    {a' b' : Value} (ha : VR ι a a') (hb : VR ι b b') : Out P ι s w s' r (do eqGuard op t x y a' b'; binOp op t a' b') := by
  unfold abinSlow at h
  cases hp : (plain a && plain b) with
  | true =>
    rw [hp] at h; simp only [cond_true] at h
    obtain ⟨e1, rfl⟩ := M.lift_some h
    simp only [Bool.and_eq_true] at hp
    have h1 := ha.plain_eq hp.1
    have h2 := hb.plain_eq hp.2
    subst h1; subst h2
    exact ⟨ι, w, _, still_run e1 w, Tran.refl hs, VR.plain_refl hpl⟩
  | false =>
    rw [hp] at h; simp only [cond_false] at h
    generalize e0 : S.und.get t = d0 at h
    cases d0 with
    | none => simp [M.fail] at h
    | some d =>
      simp only at h
      generalize e1 : nilcmp d a b = n0 at h
      cases n0 with
      | some rb =>
        simp only at h
        obtain ⟨e2, rfl⟩ := M.lift_some h
        exact ⟨ι, w, _, nilcmp_ok hS e0 e1 ha hb op x y e2 w, Tran.refl hs, VR.plain_refl hpl⟩
      | none =>
        simp only at h
        split at h
        · rename_i e
          obtain ⟨rb, s1, _, _, _, _, k1, k2⟩ := M.bind_some h
          obtain ⟨rfl, he, p, q, rfl, rfl⟩ := aptrEq_ok hS k1 hs ha hb
          obtain ⟨e2, rfl⟩ := M.lift_some k2
          refine ⟨ι, w, _, ?_, Tran.refl hs, VR.plain_refl hpl⟩
          have hg : (eqGuard op t x y (.pointer p) (.pointer q)).run P w = .ok () w := by unfold eqGuard; split <;> rfl
          rw [Sem.run_bind, hg, Result.andThen_ok]
          exact binOp_eq_of e2 he rfl rfl
        · rename_i fs
          obtain ⟨_, _, _, e2, h2⟩ := bind_lift h; clear h
          obtain ⟨xs, _, _, e3, h3⟩ := bind_lift h2; clear h2
          obtain ⟨ys, _, _, e4, h4⟩ := bind_lift h3; clear h3
          obtain ⟨rb, _, _, e5, h5⟩ := bind_lift h4; clear h4
          obtain ⟨e6, rfl⟩ := M.lift_some h5
          obtain ⟨g1, g2⟩ := hS.eqs _ _ e2
          cases a <;> simp only [aggOf, reduceCtorEq, Option.some.injEq] at e3
          cases b <;> simp only [aggOf, reduceCtorEq, Option.some.injEq] at e4
          subst e3; subst e4
          cases ha with | agg _ x' hx1 hx2 =>
          cases hb with | agg _ y' hy1 hy2 =>
          have hus := hS.und _ _ e0
          have hfo : P.fieldsOf t = fs := by simp [Program.fieldsOf, hus]
          have he : (Op.equal t (.agg x') (.agg y')).run P w = .ok rb w := by
            show (Op.equalIn (9999 + 1) t (.agg x') (.agg y')).run P w = .ok rb w
            rw [run_equalIn_agg w 9999 t x' y' (by rw [hfo]; exact hus) g1, hfo]
            exact eqF_ok hS (LR.ofArr hx1 hx2) (LR.ofArr hy1 hy2) 9998 w e5
          refine ⟨ι, w, _, ?_, Tran.refl hs, VR.plain_refl hpl⟩
          rw [Sem.run_bind, run_eqGuard_agg w op t x y x' y' g2, Result.andThen_ok]
          exact binOp_eq_of e6 he rfl rfl
        · simp [M.fail] at h

theorem abin_ok {S : Sig} (hS : SigOK S P) {op : BinOp} {t : TypeId} {x y : Operand} {a b r : Value} {s s' : St} {m k : Nat} {ι : Inj} {w : World} (h : abin P S op t x y a b s = some (r, s', m, k)) (hs : Sim P.cellsOf ι s.h w) (hpl : plain r = true)
    {a' b' : Value} (ha : VR ι a a') (hb : VR ι b b') : Out P ι s w s' r (do eqGuard op t x y a' b'; binOp op t a' b') := by
  unfold abin at h
  cases hv : fastBin op a b with
  | some v =>
    rw [hv] at h
    obtain ⟨rfl, rfl⟩ := M.pure_some h
    obtain ⟨e1, _, e2, e3⟩ := fastBin_ok (P := P) hv t x y w
    have h1 := ha.plain_eq e2
    have h2 := hb.plain_eq e3
    subst h1; subst h2
    exact ⟨ι, w, _, e1, Tran.refl hs, VR.plain_refl hpl⟩
  | none =>
    rw [hv] at h
    exact abinSlow_ok hS h hs hpl ha hb

end
end Go.Ai
/- The abstract evaluator, part 14: one operation. -/
namespace Go.Ai
noncomputable section

variable {P : Program}

structure ADf where
  fn : Fn
  cap : List Value
  args : List Value

inductive ADef where
  | call (d : ADf)
  | mark (r : Nat)

structure AAct where
  t : Tr Value
  sz : Nat
  d : List ADef

/-- What an operation asks for. -/
inductive Nx where
  | val (v : Value)
  | skip
  | enter (f : FuncId) (args : List Value)
  | round (y : Nat) (args : List Value)
  | defer (d : ADf)
  | panic (v : Value)
  | recover

def fnOk : Fn → Bool
  | .func _ => true
  | .method _ => true
  | _ => false

def DfR (ι : Inj) (d : ADf) (d' : Deferred) : Prop := ∃ cap' args', d'.target = .fn d.fn cap' ∧ d'.args = args' ∧ fnOk d.fn = true ∧ LR ι d.cap cap'.toList ∧ LR ι d.args args'.toList

def DefR (ι : Inj) : ADef → Deferred → Prop
  | .call d, d' => DfR ι d d'
  | .mark r, d' => ∃ L, ι r = some L ∧ d' = { target := .collected L.b, args := #[] }

def DefsR (ι : Inj) (l : List ADef) (l' : List Deferred) : Prop := l'.length = l.length ∧ ∀ (i : Nat) (d : ADef) (d' : Deferred), l[i]? = some d → l'[i]? = some d' → DefR ι d d'

structure AR (ι : Inj) (a : AAct) (a' : Act) : Prop where
  size : a'.tmps.size = a.sz
  tmp : ∀ t v, a.t.get t = some v → t < a.sz ∧ ∃ v', a'.tmps[t]? = some v' ∧ VR ι v v'
  defs : DefsR ι a.d a'.defers

theorem DfR.mono {ι ι' : Inj} (hι : ι.Le ι') {d : ADf} {d' : Deferred} (h : DfR ι d d') : DfR ι' d d' := by
  obtain ⟨c, a, h1, h2, h3, h4, h5⟩ := h
  exact ⟨c, a, h1, h2, h3, h4.mono hι, h5.mono hι⟩
theorem DefR.mono {ι ι' : Inj} (hι : ι.Le ι') {d : ADef} {d' : Deferred} (h : DefR ι d d') : DefR ι' d d' := by
  cases d with
  | call d => exact DfR.mono hι h
  | mark r => obtain ⟨L, a, b⟩ := h; exact ⟨L, hι _ _ a, b⟩
theorem AR.mono {ι ι' : Inj} (hι : ι.Le ι') {a : AAct} {a' : Act} (h : AR ι a a') : AR ι' a a' :=
  ⟨h.size, fun t v hv => let ⟨x, v', y, z⟩ := h.tmp t v hv; ⟨x, v', y, z.mono hι⟩, h.defs.1, fun i d d' x y => (h.defs.2 i d d' x y).mono hι⟩

def aput (a : AAct) (dst : Option Nat) (v : Value) : Option AAct :=
  match dst with
  | some d => bif Nat.blt d a.sz && Nat.blt d 1000000 then some { a with t := a.t.set 24 d (some v) } else none
  | none => some a

theorem aput_ok {ι : Inj} {a : AAct} {a' : Act} (h : AR ι a a') {dst : Option Nat} {v v' : Value} (hv : VR ι v v') {b : AAct} (hb : aput a dst v = some b) : AR ι b (a'.put dst v') := by
  cases dst with
  | none => simp only [aput, Option.some.injEq] at hb; subst hb; exact h
  | some d =>
    simp only [aput] at hb
    cases hc : (Nat.blt d a.sz && Nat.blt d 1000000) with
    | false => rw [hc] at hb; cases hb
    | true =>
      rw [hc] at hb; simp only [cond_true, Option.some.injEq] at hb; subst hb
      simp only [Bool.and_eq_true, Nat.blt_eq] at hc
      refine ⟨by simp [Act.put, h.size], fun t u hu => ?_, h.defs⟩
      simp only [Act.put]
      by_cases e : t = d
      · subst e
        simp only at hu
        rw [Tr.get_set_same _ _ _ _ (by omega)] at hu; cases hu
        exact ⟨hc.1, v', by simp [h.size, hc.1], hv⟩
      · simp only at hu
        rw [Tr.get_set_other _ _ _ _ _ e] at hu
        obtain ⟨x, u', y, z⟩ := h.tmp t u hu
        exact ⟨x, u', by rw [Array.getElem?_setIfInBounds_ne (fun c => e c.symm)]; exact y, z⟩

def aeval (a : AAct) : Operand → M Value
  | .tmp t => M.lift (a.t.get t)
  | .const v => bif plain v then M.pure v else M.fail
  | .func f => M.pure (.func (.func f) #[] #[])
  | .global g => bif Nat.blt g 64 then M.bind (M.getO g) fun _ => M.pure (.pointer (some ⟨g, 0, none⟩)) else M.fail

theorem aeval_ok {ι : Inj} {a : AAct} {a' : Act} (h : AR ι a a') {o : Operand} {v : Value} {s s' : St} {m k : Nat} {w : World} (he : aeval a o s = some (v, s', m, k)) (hs : Sim P.cellsOf ι s.h w) : s' = s ∧ VR ι v (a'.eval o) := by
  cases o with
  | tmp t =>
    obtain ⟨e, rfl⟩ := M.lift_some he
    obtain ⟨x, v', y, z⟩ := h.tmp t v e
    refine ⟨rfl, ?_⟩
    simp only [Act.eval, Array.getD_eq_getD_getElem?, y, Option.getD_some]; exact z
  | const c =>
    simp only [aeval] at he
    cases hp : plain c with
    | false => rw [hp] at he; simp [M.fail] at he
    | true =>
      rw [hp] at he; simp only [cond_true] at he
      obtain ⟨rfl, rfl⟩ := M.pure_some he
      exact ⟨rfl, VR.plain_refl hp⟩
  | func f =>
    obtain ⟨rfl, rfl⟩ := M.pure_some he
    exact ⟨rfl, VR.plain_refl rfl⟩
  | global g =>
    simp only [aeval] at he
    cases hp : Nat.blt g 64 with
    | false => rw [hp] at he; simp [M.fail] at he
    | true =>
      rw [hp] at he; simp only [cond_true] at he
      obtain ⟨o, _, _, e1, _, h1⟩ := bind_getO he
      obtain ⟨rfl, rfl⟩ := M.pure_some h1
      obtain ⟨L, oc, a1, _, _⟩ := hs.obj _ _ e1
      obtain ⟨g1, g2⟩ := hs.glob g L (by simpa [Nat.blt_eq] using hp) a1
      have := VR.ptr (ι := ι) g 0 L a1
      rw [g1, g2] at this
      exact ⟨rfl, this⟩

def aevals (a : AAct) : List Operand → M (List Value)
  | [] => M.pure []
  | o :: os => M.bind (aeval a o) fun v => M.bind (aevals a os) fun vs => M.pure (v :: vs)

theorem aevals_ok {ι : Inj} {a : AAct} {a' : Act} (h : AR ι a a') {w : World} : ∀ {os : List Operand} {vs : List Value} {s s' : St} {m k : Nat}, aevals a os s = some (vs, s', m, k) → Sim P.cellsOf ι s.h w → s' = s ∧ LR ι vs (os.map a'.eval)
  | [], vs, s, s', m, k, he, _ => by
    obtain ⟨rfl, rfl⟩ := M.pure_some he
    exact ⟨rfl, LR.nil⟩
  | o :: os, vs, s, s', m, k, he, hs => by
    obtain ⟨v, s1, _, _, _, _, k1, k2⟩ := M.bind_some he
    obtain ⟨rfl, hv⟩ := aeval_ok h k1 hs
    obtain ⟨vs', s2, _, _, _, _, k3, k4⟩ := M.bind_some k2
    obtain ⟨rfl, hvs⟩ := aevals_ok h k3 hs
    obtain ⟨rfl, rfl⟩ := M.pure_some k4
    exact ⟨rfl, LR.cons hv hvs⟩

def aparts (a : AAct) : List (Nat × Operand) → M (List (Nat × Value))
  | [] => M.pure []
  | o :: os => M.bind (aeval a o.2) fun v => M.bind (aparts a os) fun vs => M.pure ((o.1, v) :: vs)

theorem aparts_ok {ι : Inj} {a : AAct} {a' : Act} (h : AR ι a a') {w : World} : ∀ {os : List (Nat × Operand)} {vs : List (Nat × Value)} {s s' : St} {m k : Nat}, aparts a os s = some (vs, s', m, k) → Sim P.cellsOf ι s.h w →
    s' = s ∧ vs.length = os.length ∧ ∀ (i : Nat) (x x' : Nat × Value), vs[i]? = some x → (os.map fun p => (p.1, a'.eval p.2))[i]? = some x' → x'.1 = x.1 ∧ VR ι x.2 x'.2
  | [], vs, s, s', m, k, he, _ => by
    obtain ⟨rfl, rfl⟩ := M.pure_some he
    exact ⟨rfl, rfl, fun i x x' hx => by simp at hx⟩
  | o :: os, vs, s, s', m, k, he, hs => by
    obtain ⟨v, s1, _, _, _, _, k1, k2⟩ := M.bind_some he
    obtain ⟨rfl, hv⟩ := aeval_ok h k1 hs
    obtain ⟨vs', s2, _, _, _, _, k3, k4⟩ := M.bind_some k2
    obtain ⟨rfl, hl, hvs⟩ := aparts_ok h k3 hs
    obtain ⟨rfl, rfl⟩ := M.pure_some k4
    refine ⟨rfl, by simp [hl], fun i x x' hx hx' => ?_⟩
    cases i with
    | zero => simp at hx hx'; subst hx; subst hx'; exact ⟨rfl, hv⟩
    | succ i => exact hvs i x x' (by simpa using hx) (by simpa using hx')

def aevalO (a : AAct) : Option Operand → M (Option Value)
  | none => M.pure none
  | some o => M.bind (aeval a o) fun v => M.pure (some v)

theorem aevalO_ok {ι : Inj} {a : AAct} {a' : Act} (h : AR ι a a') {w : World} {o : Option Operand} {v : Option Value} {s s' : St} {m k : Nat} (he : aevalO a o s = some (v, s', m, k)) (hs : Sim P.cellsOf ι s.h w) : s' = s ∧ OVR ι v (o.map a'.eval) := by
  cases o with
  | none => obtain ⟨rfl, rfl⟩ := M.pure_some he; exact ⟨rfl, trivial⟩
  | some o =>
    unfold aevalO at he
    obtain ⟨v1, s1, _, _, _, _, k1, k2⟩ := M.bind_some he
    obtain ⟨rfl, hv⟩ := aeval_ok h k1 hs
    obtain ⟨rfl, rfl⟩ := M.pure_some k2
    exact ⟨rfl, hv⟩

section
variable (P : Program) (S : Sig)

def aenter (f : FuncId) (args : List Value) : M Nx :=
  M.bind (M.lift (S.fns.get f)) fun fn => M.bind (M.guard (fn.body.isSome && fn.name != "runtime.NumGoroutine")) fun _ => M.pure (.enter f args)

def isMethodFn : Fn → Bool
  | .method _ => true
  | _ => false

/-- a call of a function value with arguments -/
def ainvoke (fn : Fn) (cap args : List Value) : M Nx :=
  match fn with
  | .func f => aenter S f (args ++ cap)
  | .method name =>
    match args with
    | .iface t v :: rest =>
      M.bind (M.lift (S.mth.get t)) fun l =>
      M.bind (M.lift (l.lookup name)) fun f => aenter S f (v :: rest)
    | _ => M.fail
  | _ => M.fail

def v1 (m : M Value) : M Nx := M.bind m fun v => M.pure (.val v)
def vO (o : Option Value) : M Nx := M.bind (M.lift o) fun v => M.pure (.val v)
def u1 (m : M Unit) : M Nx := M.bind m fun _ => M.pure .skip
def cntL (c : Nat) : List UInt8 → Nat
  | [] => 0
  | x :: l => bif Nat.beq x.toNat c then Nat.succ (cntL c l) else cntL c l
def idxL (c : Nat) : List UInt8 → Nat → Option Nat
  | [], _ => none
  | x :: l, i => bif Nat.beq x.toNat c then some i else idxL c l (Nat.succ i)

def extSem : ExtK → List Value → Option Value
  | .count, [.string s, .int .u8 (.ofNat c)] => bif Nat.blt c 256 then some (.int .i64 (.ofNat (cntL c s.data.toList))) else none
  | .indexByte, [.string s, .int .u8 (.ofNat c)] => bif Nat.blt c 256 then some (match idxL c s.data.toList 0 with | some i => .int .i64 (.ofNat i) | none => .int .i64 (.negSucc 0)) else none
  | _, _ => none

/-- yield is called -/
def ayield (y : Nat) (args : List Value) : M Nx :=
  M.bind (M.getO y) fun o => match o with
  | .loop _ _ ps _ _ _ _ => M.bind (M.guard (Nat.beq args.length ps.length)) fun _ => M.pure (.round y args)
  | _ => M.fail

def isYield : Value → Option Nat
  | .func (.yield y) _ _ => some y
  | _ => none

/-- a call that is no builtin's -/
def acall (d : ADf) : M Nx :=
  match d.fn with
  | .func f => match S.ext.get f with
    | some k => vO (extSem k (d.args ++ d.cap))
    | none => ainvoke S d.fn d.cap d.args
  | _ => ainvoke S d.fn d.cap d.args

def aresolve (a : AAct) (c : Call) : M ADf :=
  M.bind (aevals a c.args.toList) fun args =>
  match c.callee with
  | .value f =>
    M.bind (aeval a f) fun fv =>
    match fv with
    | .func fn first cap => M.bind (M.guard (fnOk fn)) fun _ => M.pure ⟨fn, cap.toList, first.toList ++ args⟩
    | _ => M.fail
  | .invoke r name => M.bind (aeval a r) fun rv => M.pure ⟨.method name, [], rv :: args⟩
  | .builtin _ => M.fail


def abuiltin (b : Builtin) (ts : Array TypeId) (args : List Value) : M Nx :=
  match b, args with
  | .append, [s, x] => M.bind (M.guard (Nat.beq ts.size 2)) fun _ => v1 (aappend S ts s x)
  | .copy, [d, x] => v1 (acopy S ts d x)
  | .clear, [x] => v1 (aclear S ts x)
  | .delete, [m, k] => v1 (adelete P S ts m k)
  | .len, [x] => v1 (alen S ts x)
  | .cap, [x] => v1 (acap S ts x)
  | .max, [x, y] => M.bind (M.guard (plain x && plain y)) fun _ => M.bind (M.lift (still P (Builtin.max_ ts 0 #[x, y]))) fun v => M.bind (M.guard (plain v)) fun _ => M.pure (.val v)
  | .min, [x, y] => M.bind (M.guard (plain x && plain y)) fun _ => M.bind (M.lift (still P (Builtin.min_ ts 0 #[x, y]))) fun v => M.bind (M.guard (plain v)) fun _ => M.pure (.val v)
  | .recover, [] => M.pure .recover
  | _, _ => M.fail

def anilCheck : Value → Bool
  | .pointer none => false
  | .nilIface => false
  | .nilFunc => false
  | .func (.method _) _ _ => false
  | _ => true

def aop (a : AAct) (o : Oper) : M Nx :=
  match o.op with
  | .move x => v1 (aeval a x)
  | .assign x => v1 (aeval a x)
  | .pick c x y => M.bind (aeval a c) fun cv => M.bind (aeval a x) fun xv => M.bind (aeval a y) fun yv => vO (apick cv xv yv)
  | .alloc e => v1 (aalloc S e)
  | .box e x => M.bind (aeval a x) fun v => v1 (abox e v)
  | .build t ps => M.bind (aparts a ps.toList) fun l => vO (abuild S t l)
  | .buildSlice t n ps => M.bind (aparts a ps.toList) fun l => v1 (abuildSlice S t n l)
  | .load t x => M.bind (aeval a x) fun v => v1 (aload S t v)
  | .store t x y => M.bind (aeval a x) fun p => M.bind (aeval a y) fun v => u1 (astore S t p v)
  | .nilCheck x => M.bind (aeval a x) fun v => M.bind (M.guard (anilCheck v)) fun _ => M.pure (.val v)
  | .binOp op t x y _ => M.bind (aeval a x) fun v => M.bind (aeval a y) fun u => M.bind (abin P S op t x y v u) fun r => M.bind (M.guard (plain r)) fun _ => M.pure (.val r)
  | .unOp op _ x => M.bind (aeval a x) fun v => M.bind (M.guard (plain v)) fun _ => M.bind (M.lift (still P (Op.unary op v))) fun r => M.bind (M.guard (plain r)) fun _ => M.pure (.val r)
  | .convert src dst x => M.bind (aeval a x) fun v =>
    match aconvert S src dst v with
    | some r => M.pure (.val r)
    | none => match v with
      | .string s => v1 (astrBytes S src dst s)
      | v => v1 (abytesStr S src dst v)
  | .makeInterface t x => M.bind (aeval a x) fun v => vO (amakeInterface S t v)
  | .makeFunc fn f c => M.bind (aevals a f.toList) fun fv => M.bind (aevals a c.toList) fun cv => M.bind (M.guard (fnOk fn)) fun _ => M.pure (.val (.func fn fv.toArray cv.toArray))
  | .makeMap _ r => M.bind (aevalO a r) fun v => v1 (amakeMap v)
  | .makeChan t c => M.bind (aeval a c) fun v => v1 (amakeChan S t v)
  | .makeSlice t l c => M.bind (aeval a l) fun lv => M.bind (aeval a c) fun cv => v1 (amakeSlice S t lv cv)
  | .slice t x lo hi mx => M.bind (aeval a x) fun v => M.bind (aevalO a lo) fun l => M.bind (aevalO a hi) fun h => M.bind (aevalO a mx) fun m => vO (aslice S t v l h m)
  | .fieldAddr t x f => M.bind (aeval a x) fun v => vO (afieldAddr S t v f)
  | .field t x f => M.bind (aeval a x) fun v => vO (afield S t v f)
  | .indexAddr t x i => M.bind (aeval a x) fun v => M.bind (aeval a i) fun iv => vO (aindexAddr S t v iv)
  | .index t x i => M.bind (aeval a x) fun v => M.bind (aeval a i) fun iv => vO (aindex S t v iv)
  | .lookup t x i ok => M.bind (aeval a x) fun v => M.bind (aeval a i) fun iv => v1 (alookup P S t v iv ok)
  | .mapUpdate t m k x => M.bind (aeval a m) fun mv => M.bind (aeval a k) fun kv => M.bind (aeval a x) fun v => u1 (amapUpdate P S t mv kv v)
  | .insert t m k x => M.bind (aeval a m) fun mv => M.bind (aeval a k) fun kv => M.bind (aeval a x) fun v => u1 (amapUpdate P S t mv kv v)
  | .range t x => M.bind (aeval a x) fun v => v1 (arange S t v)
  | .next it st => M.bind (aeval a it) fun v => v1 (anext v st)
  | .entry it => M.bind (aeval a it) fun v => v1 (aentry v)
  | .typeAssert x _ t ok => M.bind (aeval a x) fun v => vO (atypeAssert S v t ok)
  | .extract t i => M.bind (aeval a t) fun v => vO (aextract v i)
  | .call c =>
    match c.callee with
    | .builtin b => M.bind (aevals a c.args.toList) fun args => abuiltin P S b c.argTypes args
    | .value f => M.bind (aeval a f) fun fv => match isYield fv with
      | some y => M.bind (aevals a c.args.toList) fun args => ayield y args
      | none => M.bind (aresolve a c) fun d => acall S d
    | _ => M.bind (aresolve a c) fun d => acall S d
  | .defer c => M.bind (aresolve a c) fun d => M.pure (.defer d)
  | .panic x => M.bind (aeval a x) fun v => match v with | .iface t u => M.pure (.panic (.iface t u)) | _ => M.fail
  | _ => M.fail

end

/-- The model's answer to an operation. -/
def NxR (ι : Inj) (w' : World) (nx : Nx) (r : Result Next) : Prop :=
  match nx with
  | .val v => ∃ v', r = .ok (.value v') w' ∧ VR ι v v'
  | .skip => r = .ok .skip w'
  | .enter f args => ∃ args' : List Value, r = .ok (.enter f args'.toArray) w' ∧ LR ι args args'
  | .round y args => ∃ L q, ∃ args' : Array Value, ι y = some L ∧ w'.heap[L.b]? = some (.loop q) ∧ args'.size = q.params.size ∧ LR ι args args'.toList ∧
      r = .ok (.round L.b q.fn ((q.params.zip args').foldl (fun tmps (t, a) => tmps.setIfInBounds t a) q.tmps) q.assign q.body) w'
  | .defer d => ∃ d', r = .ok (.defer d') w' ∧ DfR ι d d'
  | .panic v => ∃ v', r = .halt (.panic v') w' ∧ VR ι v v'
  | .recover => r = .ok .recover w'

def OpOut (P : Program) (ι : Inj) (s : St) (w : World) (s' : St) (nx : Nx) (c : Sem Next) : Prop :=
  ∃ ι' w', Tran P.cellsOf ι s w ι' s' w' ∧ NxR ι' w' nx (c.run P w)

theorem OpOut.val {ι : Inj} {s s' : St} {w : World} {r : Value} {c : Sem Value} (h : Out P ι s w s' r c) : OpOut P ι s w s' (.val r) (do pure (.value (← c))) := by
  obtain ⟨ι', w', r', a, b, d⟩ := h
  exact ⟨ι', w', b, r', by simp [a], d⟩
theorem OpOut.unit {ι : Inj} {s s' : St} {w : World} {c : Sem Unit} (h : OutU P ι s w s' c) : OpOut P ι s w s' .skip (do c; pure .skip) := by
  obtain ⟨ι', w', a, b⟩ := h
  exact ⟨ι', w', b, by simp [NxR, a]⟩

theorem v1_some {m : M Value} {nx : Nx} {s s' : St} {a b : Nat} (h : v1 m s = some (nx, s', a, b)) : ∃ v a' b', nx = .val v ∧ m s = some (v, s', a', b') := by
  obtain ⟨v, s1, _, _, _, _, k1, k2⟩ := M.bind_some h
  obtain ⟨rfl, rfl⟩ := M.pure_some k2
  exact ⟨v, _, _, rfl, k1⟩
theorem vO_some {m : Option Value} {nx : Nx} {s s' : St} {a b : Nat} (h : vO m s = some (nx, s', a, b)) : ∃ v, nx = .val v ∧ m = some v ∧ s' = s := by
  obtain ⟨v, _, _, e, k2⟩ := bind_lift h
  obtain ⟨rfl, rfl⟩ := M.pure_some k2
  exact ⟨v, rfl, e, rfl⟩
theorem u1_some {m : M Unit} {nx : Nx} {s s' : St} {a b : Nat} (h : u1 m s = some (nx, s', a, b)) : ∃ a' b', nx = .skip ∧ m s = some ((), s', a', b') := by
  obtain ⟨v, s1, _, _, _, _, k1, k2⟩ := M.bind_some h
  obtain ⟨rfl, rfl⟩ := M.pure_some k2
  exact ⟨_, _, rfl, k1⟩

end
end Go.Ai
/- The abstract evaluator, part 15: an operation is sound. -/
namespace Go.Ai
noncomputable section

variable {P : Program}

theorem aenter_ok {S : Sig} (hS : SigOK S P) {f : FuncId} {args : List Value} {nx : Nx} {s s' : St} {m k : Nat} (h : aenter S f args s = some (nx, s', m, k)) : s' = s ∧ nx = .enter f args ∧ ∀ (w : World) (args' : Array Value), (callFunc f args').run P w = .ok (.enter f args') w := by
  unfold aenter at h
  obtain ⟨fn, _, _, e1, h1⟩ := bind_lift h; clear h
  obtain ⟨_, _, e2, h2⟩ := bind_guard h1; clear h1
  obtain ⟨rfl, rfl⟩ := M.pure_some h2
  refine ⟨rfl, rfl, fun w args' => ?_⟩
  have hf := hS.fns _ _ e1
  simp only [Bool.and_eq_true, bne_iff_ne, ne_eq] at e2
  have hb : fn.body.isNone = false := by
    cases hb : fn.body with
    | none => rw [hb] at e2; simp at e2
    | some c => rfl
  have hn : (fn.name == "runtime.NumGoroutine") = false := by simpa using e2.2
  simp only [callFunc, Sem.run_bind, run_program, Result.andThen_ok, hf, hn, Bool.false_eq_true, if_false, hb, Sem.run_pure]

theorem ainvoke_ok {S : Sig} (hS : SigOK S P) {fn : Fn} {cap args : List Value} {nx : Nx} {s s' : St} {m k : Nat} {ι : Inj} {w : World} (h : ainvoke S fn cap args s = some (nx, s', m, k)) (hs : Sim P.cellsOf ι s.h w)
    {cap' args' : Array Value} (hc : LR ι cap cap'.toList) (ha : LR ι args args'.toList) : OpOut P ι s w s' nx (invoke (.fn fn cap') args') := by
  unfold ainvoke at h
  split at h
  · rename_i f
    obtain ⟨rfl, rfl, hr⟩ := aenter_ok hS h
    refine ⟨ι, w, Tran.refl hs, (args' ++ cap').toList, ?_, by simpa using ha.append hc⟩
    simp only [invoke, hr]
  · rename_i name
    split at h
    · rename_i t v rest
      obtain ⟨l, _, _, e1, h1⟩ := bind_lift h; clear h
      obtain ⟨f, _, _, e2, h2⟩ := bind_lift h1; clear h1
      obtain ⟨rfl, rfl, hr⟩ := aenter_ok hS h2
      -- the receiver
      have h0 : ∃ v' rest' : _, args'.toList = (.iface t v' : Value) :: rest' ∧ VR ι v v' ∧ LR ι rest rest' := by
        cases hl : args'.toList with
        | nil => have := ha.1; rw [hl] at this; simp at this
        | cons a l =>
          rw [hl] at ha
          have hv := ha.2 0 _ a rfl rfl
          cases hv with | iface _ _ v' hv =>
          exact ⟨v', l, rfl, hv, by have := ha.1; simpa using this, fun i u u' x y => ha.2 (i + 1) u u' (by simpa using x) (by simpa using y)⟩
      obtain ⟨v', rest', hl, hv, hrest⟩ := h0
      have hargs : args' = #[.iface t v'] ++ rest'.toArray := by rw [← Array.toList_inj, hl]; simp
      refine ⟨ι, w, Tran.refl hs, v' :: rest', ?_, LR.cons hv hrest⟩
      subst hargs
      have hm := hS.mth _ _ e1 name f e2 v' w
      have hext : ((#[Value.iface t v'] ++ rest'.toArray).extract 1 (#[Value.iface t v'] ++ rest'.toArray).size) = rest'.toArray := by
        rw [← Array.toList_inj]; simp
      have h00 : (#[Value.iface t v'] ++ rest'.toArray)[0]? = some (.iface t v') := by simp
      simp only [invoke, h00, callMethod, Sem.run_bind, run_program, Result.andThen_ok, hm, hr, hext]
      simp
    · simp [M.fail] at h
  · simp [M.fail] at h

theorem countByte_cons (x : UInt8) (l : List UInt8) (c : UInt8) : Lib.countByte (x :: l) c = if x = c then Lib.countByte l c + 1 else Lib.countByte l c := by
  unfold Lib.countByte
  rw [List.count_cons]
  by_cases h : x = c <;> simp [h]

theorem cntL_eq {c : Nat} (hc : c < 256) : ∀ l : List UInt8, cntL c l = Lib.countByte l c.toUInt8
  | [] => rfl
  | x :: l => by
    rw [countByte_cons, ← cntL_eq hc l]
    show (bif Nat.beq x.toNat c then Nat.succ (cntL c l) else cntL c l) = _
    by_cases h : x = c.toUInt8
    · have : Nat.beq x.toNat c = true := by subst h; simp [Nat.toUInt8, UInt8.toNat_ofNat', Nat.mod_eq_of_lt hc]
      rw [this, if_pos h]; rfl
    · have : Nat.beq x.toNat c = false := beqf (fun e => h (by subst e; simp [Nat.toUInt8]))
      rw [this, if_neg h]; rfl

theorem idxL_eq {c : Nat} (hc : c < 256) : ∀ (l : List UInt8) (i : Nat), idxL c l i = (match Lib.indexByte l c.toUInt8 with | .ofNat k => some (i + k) | .negSucc _ => none)
  | [], i => rfl
  | x :: l, i => by
    unfold idxL Lib.indexByte
    by_cases h : x = c.toUInt8
    · have : Nat.beq x.toNat c = true := by subst h; simp [Nat.toUInt8, UInt8.toNat_ofNat', Nat.mod_eq_of_lt hc]
      rw [this, if_pos (by simp [h])]; rfl
    · have : Nat.beq x.toNat c = false := beqf (fun e => h (by subst e; simp [Nat.toUInt8]))
      rw [this, if_neg (by simp [h])]
      simp only [cond_false]
      rw [idxL_eq hc l (i + 1)]
      have hge := Lib.indexByte_ge l c.toUInt8
      cases hi : Lib.indexByte l c.toUInt8 with
      | ofNat k =>
        have : ¬ ((Int.ofNat k == -1) = true) := by simp
        rw [if_neg this]
        show some (i + 1 + k) = some (i + (k + 1))
        congr 1; omega
      | negSucc k =>
        rw [hi] at hge
        have : k = 0 := by omega
        subst this
        rfl

theorem extSem_ok {k : ExtK} {l : List Value} {v : Value} (h : extSem k l = some v) {ι : Inj} {l' : Array Value} (hl : LR ι l l'.toList) (w : World) : (k.row l').run P w = .ok v w ∧ flat v = true := by
  unfold extSem at h
  split at h
  · rename_i s c
    cases hb : Nat.blt c 256 with
    | false => rw [hb] at h; cases h
    | true =>
      rw [hb] at h; simp only [cond_true, Option.some.injEq] at h; subst h
      have hc : c < 256 := by simpa [Nat.blt_eq] using hb
      have hl' : l' = #[.string s, .int .u8 (.ofNat c)] := by
        rw [← Array.toList_inj]
        exact hl.flat_eq (by rfl)
      subst hl'
      refine ⟨?_, rfl⟩
      have := Lib.run_countString (P := P) s (.ofNat c) w
      rw [cntL_eq hc]
      exact this
  · rename_i s c
    cases hb : Nat.blt c 256 with
    | false => rw [hb] at h; cases h
    | true =>
      rw [hb] at h; simp only [cond_true, Option.some.injEq] at h
      have hc : c < 256 := by simpa [Nat.blt_eq] using hb
      have hl' : l' = #[.string s, .int .u8 (.ofNat c)] := by
        rw [← Array.toList_inj]
        exact hl.flat_eq (by rfl)
      subst hl'
      have hr := Lib.run_indexByteString (P := P) s (.ofNat c) w
      rw [idxL_eq hc] at h
      have hge := Lib.indexByte_ge s.data.toList c.toUInt8
      change (Extern.BytealgIndexByte.indexByte _).run P w = .ok (.int .i64 (Lib.indexByte s.data.toList c.toUInt8)) w at hr
      cases hi : Lib.indexByte s.data.toList c.toUInt8 with
      | ofNat i =>
        rw [hi] at h hr
        simp only [Nat.zero_add] at h
        subst h
        exact ⟨hr, rfl⟩
      | negSucc i =>
        rw [hi] at h hr hge
        have : i = 0 := by omega
        subst this
        subst h
        exact ⟨hr, rfl⟩
  · cases h

theorem acall_ok {S : Sig} (hS : SigOK S P) {d : ADf} {nx : Nx} {s s' : St} {m k : Nat} {ι : Inj} {w : World} (h : acall S d s = some (nx, s', m, k)) (hs : Sim P.cellsOf ι s.h w)
    {cap' args' : Array Value} (hc : LR ι d.cap cap'.toList) (ha : LR ι d.args args'.toList) : OpOut P ι s w s' nx (invoke (.fn d.fn cap') args') := by
  obtain ⟨dfn, dcap, dargs⟩ := d
  unfold acall at h
  cases dfn with
  | func f =>
    simp only at h
    generalize hx : S.ext.get f = ox at h
    cases ox with
    | some x =>
      simp only at h
      obtain ⟨v, rfl, e1, rfl⟩ := vO_some h
      obtain ⟨fn, f1, f2, f3, f4, f5⟩ := hS.ext _ _ hx
      obtain ⟨g1, g2⟩ := extSem_ok (P := P) e1 (l' := args' ++ cap') (by simpa using ha.append hc) w
      have f4' : Extern.findNext fn = none := by
        cases hn : Extern.findNext fn with
        | none => rfl
        | some _ => rw [hn] at f4; cases f4
      refine ⟨ι, w, Tran.refl hs, v, ?_, VR.flat_refl g2⟩
      simp only [invoke, callFunc, Sem.run_bind, run_program, Result.andThen_ok, f1, f2, f3, Bool.false_eq_true, if_false, if_true, f4', f5, mark, Sem.run]
      simp [g1]
    | none => exact ainvoke_ok hS h hs hc ha
  | _ => exact ainvoke_ok hS h hs hc ha

theorem aresolve_ok {ι : Inj} {a : AAct} {a' : Act} (har : AR ι a a') {c : Call} {ty : TypeId} {d : ADf} {s s' : St} {m k : Nat} {w : World} (h : aresolve a c s = some (d, s', m, k)) (hs : Sim P.cellsOf ι s.h w) :
    s' = s ∧ ∃ cap' args', fnOk d.fn = true ∧ LR ι d.cap cap'.toList ∧ LR ι d.args args'.toList ∧ (resolve a'.eval c ty).run P w = .ok { target := .fn d.fn cap', args := args' } w := by
  unfold aresolve at h
  obtain ⟨args, s1, _, _, _, _, k1, k2⟩ := M.bind_some h; clear h
  obtain ⟨rfl, hargs⟩ := aevals_ok har k1 hs
  generalize hc : c.callee = ce at k2
  split at k2
  · rename_i f
    obtain ⟨fv, s2, _, _, _, _, k3, k4⟩ := M.bind_some k2; clear k2
    obtain ⟨rfl, hf⟩ := aeval_ok har k3 hs
    split at k4
    · rename_i fn first cap
      obtain ⟨_, _, e1, h1⟩ := bind_guard k4; clear k4
      obtain ⟨rfl, rfl⟩ := M.pure_some h1; clear h1
      generalize he : a'.eval f = fv' at hf
      cases hf with
      | yield => simp [fnOk] at e1
      | func _ f' x y x' y' hff hx hy h1 h2 =>
      obtain ⟨rfl, _⟩ := hff
      refine ⟨rfl, y', x' ++ c.args.map a'.eval, e1, LR.ofArr hy h2, ?_, ?_⟩
      · have := (LR.ofArr hx h1).append hargs
        simpa using this
      · simp only [resolve, hc, he]
        rfl
    · simp [M.fail] at k4
  · rename_i r name
    obtain ⟨rv, s2, _, _, _, _, k3, k4⟩ := M.bind_some k2; clear k2
    obtain ⟨rfl, hr⟩ := aeval_ok har k3 hs
    obtain ⟨rfl, rfl⟩ := M.pure_some k4; clear k4
    refine ⟨rfl, #[], #[a'.eval r] ++ c.args.map a'.eval, rfl, LR.nil, ?_, ?_⟩
    · have := LR.cons hr hargs
      simpa using this
    · simp only [resolve, hc]; rfl
  · simp [M.fail] at k2

theorem list2 {ι : Inj} {x y : Value} {l' : List Value} (h : LR ι [x, y] l') : ∃ x' y', l' = [x', y'] ∧ VR ι x x' ∧ VR ι y y' := by
  match l', h with
  | [x', y'], h => exact ⟨x', y', rfl, h.2 0 x x' rfl rfl, h.2 1 y y' rfl rfl⟩
  | [], h => have := h.1; simp at this
  | [_], h => have := h.1; simp at this
  | _ :: _ :: _ :: _, h => have := h.1; simp at this
theorem list1 {ι : Inj} {x : Value} {l' : List Value} (h : LR ι [x] l') : ∃ x', l' = [x'] ∧ VR ι x x' := by
  match l', h with
  | [x'], h => exact ⟨x', rfl, h.2 0 x x' rfl rfl⟩
  | [], h => have := h.1; simp at this
  | _ :: _ :: _, h => have := h.1; simp at this

theorem abuiltin_ok {S : Sig} (hS : SigOK S P) {b : Builtin} {ts : Array TypeId} {ty : TypeId} {consts : Array Bool} {args : List Value} {nx : Nx} {s s' : St} {m k : Nat} {ι : Inj} {w : World} (h : abuiltin P S b ts args s = some (nx, s', m, k)) (hs : Sim P.cellsOf ι s.h w) (hf : Free ι s.n s'.n)
    {args' : List Value} (ha : LR ι args args') : OpOut P ι s w s' nx (builtin b ts ty consts args'.toArray) := by
  unfold abuiltin at h
  split at h
  · obtain ⟨x', y', rfl, hx, hy⟩ := list2 ha
    obtain ⟨_, _, e1, h1⟩ := bind_guard h; clear h
    obtain ⟨v, _, _, rfl, h2⟩ := v1_some h1
    exact OpOut.val (aappend_ok hS h2 hs hf (Nat.eq_of_beq_eq_true e1) hx hy)
  · obtain ⟨x', y', rfl, hx, hy⟩ := list2 ha
    obtain ⟨v, _, _, rfl, h2⟩ := v1_some h
    exact OpOut.val (acopy_ok hS h2 hs hx hy)
  · obtain ⟨x', rfl, hx⟩ := list1 ha
    obtain ⟨v, _, _, rfl, h2⟩ := v1_some h
    exact OpOut.val (aclear_ok hS h2 hs hx)
  · obtain ⟨x', y', rfl, hx, hy⟩ := list2 ha
    obtain ⟨v, _, _, rfl, h2⟩ := v1_some h
    exact OpOut.val (adelete_ok hS h2 hs hx hy)
  · obtain ⟨x', rfl, hx⟩ := list1 ha
    obtain ⟨v, _, _, rfl, h2⟩ := v1_some h
    exact OpOut.val (alen_ok hS h2 hs hx)
  · obtain ⟨x', rfl, hx⟩ := list1 ha
    obtain ⟨v, _, _, rfl, h2⟩ := v1_some h
    exact OpOut.val (acap_ok hS h2 hs hx)
  · obtain ⟨x', y', rfl, hx, hy⟩ := list2 ha
    obtain ⟨_, _, e1, h1⟩ := bind_guard h; clear h
    obtain ⟨v, _, _, e2, h2⟩ := bind_lift h1; clear h1
    obtain ⟨_, _, e3, h3⟩ := bind_guard h2; clear h2
    obtain ⟨rfl, rfl⟩ := M.pure_some h3
    simp only [Bool.and_eq_true] at e1
    rw [hx.plain_eq e1.1, hy.plain_eq e1.2]
    exact OpOut.val (c := Builtin.max_ ts ty #[_, _]) ⟨ι, w, v, still_run e2 w, Tran.refl hs, VR.plain_refl e3⟩
  · obtain ⟨x', y', rfl, hx, hy⟩ := list2 ha
    obtain ⟨_, _, e1, h1⟩ := bind_guard h; clear h
    obtain ⟨v, _, _, e2, h2⟩ := bind_lift h1; clear h1
    obtain ⟨_, _, e3, h3⟩ := bind_guard h2; clear h2
    obtain ⟨rfl, rfl⟩ := M.pure_some h3
    simp only [Bool.and_eq_true] at e1
    rw [hx.plain_eq e1.1, hy.plain_eq e1.2]
    exact OpOut.val (c := Builtin.min_ ts ty #[_, _]) ⟨ι, w, v, still_run e2 w, Tran.refl hs, VR.plain_refl e3⟩
  · obtain ⟨rfl, rfl⟩ := M.pure_some h
    exact ⟨ι, w, Tran.refl hs, rfl⟩
  · simp [M.fail] at h

theorem OutV.op {ι : Inj} {s : St} {w : World} {r : Value} {c : Sem Value} (h : OutV P ι w r c) (hs : Sim P.cellsOf ι s.h w) : OpOut P ι s w s (.val r) (do pure (.value (← c))) := OpOut.val (OutV.out h hs)

theorem aop_ok {S : Sig} (hS : SigOK S P) {a : AAct} {o : Oper} {nx : Nx} {s s' : St} {m k : Nat} {ι : Inj} {w : World} (h : aop P S a o s = some (nx, s', m, k)) (hs : Sim P.cellsOf ι s.h w) (hf : Free ι s.n s'.n)
    {a' : Act} (har : AR ι a a') : OpOut P ι s w s' nx (execOp a'.eval o) := by
  unfold aop at h
  generalize hop : o.op = op at h
  cases op with
  | move x =>
    obtain ⟨v, _, _, rfl, h1⟩ := v1_some h
    obtain ⟨rfl, hv⟩ := aeval_ok har h1 hs
    exact ⟨ι, w, Tran.refl hs, _, by simp [execOp, hop], hv⟩
  | assign x =>
    obtain ⟨v, _, _, rfl, h1⟩ := v1_some h
    obtain ⟨rfl, hv⟩ := aeval_ok har h1 hs
    exact ⟨ι, w, Tran.refl hs, _, by simp [execOp, hop], hv⟩
  | pick c x y =>
    obtain ⟨cv, _, _, _, _, _, k1, h1⟩ := M.bind_some h
    obtain ⟨rfl, h2⟩ := aeval_ok har k1 hs
    obtain ⟨xv, _, _, _, _, _, k3, h3⟩ := M.bind_some h1
    obtain ⟨rfl, h4⟩ := aeval_ok har k3 hs
    obtain ⟨yv, _, _, _, _, _, k5, h5⟩ := M.bind_some h3
    obtain ⟨rfl, h6⟩ := aeval_ok har k5 hs
    obtain ⟨v, rfl, e, rfl⟩ := vO_some h5
    obtain ⟨r', q1, q2⟩ := apick_ok (P := P) e h2 h4 h6 w
    refine ⟨ι, w, Tran.refl hs, r', ?_, q2⟩
    simp only [execOp, hop]
    simp only [Sem.run_bind, Sem.run_pure] at q1 ⊢
    generalize (asBool (a'.eval c)).run P w = rr at q1 ⊢
    cases rr with
    | ok b w1 => simp only [Result.andThen_ok, Result.ok.injEq] at q1 ⊢; exact ⟨by rw [q1.1], q1.2⟩
    | halt x w1 => simp at q1
  | alloc e =>
    obtain ⟨v, _, _, rfl, h1⟩ := v1_some h
    simp only [execOp, hop]
    exact OpOut.val (aalloc_ok hS h1 hs hf)
  | box e x =>
    obtain ⟨v, _, _, _, _, _, k1, h1⟩ := M.bind_some h
    obtain ⟨rfl, hv⟩ := aeval_ok har k1 hs
    obtain ⟨r, _, _, rfl, h2⟩ := v1_some h1
    simp only [execOp, hop]
    exact OpOut.val (abox_ok h2 hs hf hv)
  | build t ps =>
    obtain ⟨l, _, _, _, _, _, k1, h1⟩ := M.bind_some h
    obtain ⟨rfl, hl, hp⟩ := aparts_ok har k1 hs
    obtain ⟨v, rfl, e, rfl⟩ := vO_some h1
    simp only [execOp, hop]
    exact OutV.op (abuild_ok hS e (by simpa using hl.symm) (fun i x x' hx hx' => hp i x x' hx (by simpa using hx')) w) hs
  | buildSlice t n ps =>
    obtain ⟨l, _, _, _, _, _, k1, h1⟩ := M.bind_some h
    obtain ⟨rfl, hl, hp⟩ := aparts_ok har k1 hs
    obtain ⟨v, _, _, rfl, h2⟩ := v1_some h1
    simp only [execOp, hop]
    exact OpOut.val (abuildSlice_ok hS h2 hs hf (by simpa using hl.symm) (fun i x x' hx hx' => hp i x x' hx (by simpa using hx')))
  | load t x =>
    obtain ⟨v, _, _, _, _, _, k1, h1⟩ := M.bind_some h
    obtain ⟨rfl, hv⟩ := aeval_ok har k1 hs
    obtain ⟨r, _, _, rfl, h2⟩ := v1_some h1
    simp only [execOp, hop]
    exact OpOut.val (aload_ok hS h2 hs hv)
  | store t x y =>
    obtain ⟨p, _, _, _, _, _, k1, h1⟩ := M.bind_some h
    obtain ⟨rfl, hp⟩ := aeval_ok har k1 hs
    obtain ⟨v, _, _, _, _, _, k3, h3⟩ := M.bind_some h1
    obtain ⟨rfl, hv⟩ := aeval_ok har k3 hs
    obtain ⟨_, _, rfl, h4⟩ := u1_some h3
    simp only [execOp, hop]
    exact OpOut.unit (astore_ok hS h4 hs hp hv)
  | nilCheck x =>
    obtain ⟨v, _, _, _, _, _, k1, h1⟩ := M.bind_some h
    obtain ⟨rfl, hv⟩ := aeval_ok har k1 hs
    obtain ⟨_, _, e, h2⟩ := bind_guard h1
    obtain ⟨rfl, rfl⟩ := M.pure_some h2
    refine ⟨ι, w, Tran.refl hs, _, ?_, hv⟩
    simp only [execOp, hop]
    generalize a'.eval x = v' at hv
    cases hv with
    | func f f' _ _ _ _ hff => obtain ⟨rfl, _⟩ := hff; cases f' <;> first | rfl | (simp [anilCheck] at e)
    | _ => first | rfl | (simp [anilCheck] at e)
  | binOp op t x y yt =>
    obtain ⟨v, _, _, _, _, _, k1, h1⟩ := M.bind_some h
    obtain ⟨rfl, hv⟩ := aeval_ok har k1 hs
    obtain ⟨u, _, _, _, _, _, k3, h3⟩ := M.bind_some h1
    obtain ⟨rfl, hu⟩ := aeval_ok har k3 hs
    obtain ⟨r, s1, _, _, _, _, k5, h5⟩ := M.bind_some h3
    obtain ⟨_, _, e, h6⟩ := bind_guard h5
    obtain ⟨rfl, rfl⟩ := M.pure_some h6
    simp only [execOp, hop]
    exact OpOut.val (abin_ok hS k5 hs e hv hu)
  | unOp op t x =>
    obtain ⟨v, _, _, _, _, _, k1, h1⟩ := M.bind_some h
    obtain ⟨rfl, hv⟩ := aeval_ok har k1 hs
    obtain ⟨_, _, e1, h2⟩ := bind_guard h1
    obtain ⟨r, _, _, e2, h3⟩ := bind_lift h2
    obtain ⟨_, _, e3, h4⟩ := bind_guard h3
    obtain ⟨rfl, rfl⟩ := M.pure_some h4
    simp only [execOp, hop]
    rw [hv.plain_eq e1]
    exact OpOut.val ⟨ι, w, r, still_run e2 w, Tran.refl hs, VR.plain_refl e3⟩
  | convert src dst x =>
    obtain ⟨v, _, _, _, _, _, k1, h1⟩ := M.bind_some h
    obtain ⟨rfl, hv⟩ := aeval_ok har k1 hs
    simp only [execOp, hop]
    generalize e : aconvert S src dst v = co at h1
    cases co with
    | some r =>
      obtain ⟨rfl, rfl⟩ := M.pure_some h1
      exact OutV.op (aconvert_ok hS e hv w) hs
    | none =>
      simp only at h1
      split at h1
      · rename_i st
        obtain ⟨r, _, _, rfl, h2⟩ := v1_some h1
        have := hv.plain_eq rfl
        rw [this]
        exact OpOut.val (astrBytes_ok hS h2 hs hf)
      · obtain ⟨r, _, _, rfl, h2⟩ := v1_some h1
        exact OpOut.val (abytesStr_ok hS h2 hs hv)
  | makeInterface t x =>
    obtain ⟨v, _, _, _, _, _, k1, h1⟩ := M.bind_some h
    obtain ⟨rfl, hv⟩ := aeval_ok har k1 hs
    obtain ⟨r, rfl, e, rfl⟩ := vO_some h1
    simp only [execOp, hop]
    exact OutV.op (amakeInterface_ok hS e hv w) hs
  | makeFunc fn f c =>
    obtain ⟨fv, _, _, _, _, _, k1, h1⟩ := M.bind_some h
    obtain ⟨rfl, h2⟩ := aevals_ok har k1 hs
    obtain ⟨cv, _, _, _, _, _, k3, h3⟩ := M.bind_some h1
    obtain ⟨rfl, h4⟩ := aevals_ok har k3 hs
    obtain ⟨_, _, e, h5⟩ := bind_guard h3
    obtain ⟨rfl, rfl⟩ := M.pure_some h5
    refine ⟨ι, w, Tran.refl hs, .func fn (f.map a'.eval) (c.map a'.eval), by simp [execOp, hop, Instr.makeFunc], ?_⟩
    refine VR.func _ _ _ _ _ _ ⟨rfl, by cases fn <;> first | trivial | (simp [fnOk] at e)⟩ (by simpa using h2.1) (by simpa using h4.1) (fun i v v' x y => h2.2 i v v' (by simpa using x) ?_) (fun i v v' x y => h4.2 i v v' (by simpa using x) ?_)
    · simpa [Array.getElem?_map] using y
    · simpa [Array.getElem?_map] using y
  | makeMap t r =>
    obtain ⟨v, _, _, _, _, _, k1, h1⟩ := M.bind_some h
    obtain ⟨rfl, hv⟩ := aevalO_ok har k1 hs
    obtain ⟨r, _, _, rfl, h2⟩ := v1_some h1
    simp only [execOp, hop]
    exact OpOut.val (amakeMap_ok h2 hs hf hv)
  | makeChan t c =>
    obtain ⟨v, _, _, _, _, _, k1, h1⟩ := M.bind_some h
    obtain ⟨rfl, hv⟩ := aeval_ok har k1 hs
    obtain ⟨r, _, _, rfl, h2⟩ := v1_some h1
    simp only [execOp, hop]
    exact OpOut.val (amakeChan_ok hS h2 hs hf hv)
  | makeSlice t l c =>
    obtain ⟨v, _, _, _, _, _, k1, h1⟩ := M.bind_some h
    obtain ⟨rfl, hv⟩ := aeval_ok har k1 hs
    obtain ⟨u, _, _, _, _, _, k3, h3⟩ := M.bind_some h1
    obtain ⟨rfl, hu⟩ := aeval_ok har k3 hs
    obtain ⟨r, _, _, rfl, h4⟩ := v1_some h3
    simp only [execOp, hop]
    exact OpOut.val (amakeSlice_ok hS h4 hs hf hv hu)
  | slice t x lo hi mx =>
    obtain ⟨v, _, _, _, _, _, k1, h1⟩ := M.bind_some h
    obtain ⟨rfl, hv⟩ := aeval_ok har k1 hs
    obtain ⟨l, _, _, _, _, _, k3, h3⟩ := M.bind_some h1
    obtain ⟨rfl, hl⟩ := aevalO_ok har k3 hs
    obtain ⟨hh, _, _, _, _, _, k5, h5⟩ := M.bind_some h3
    obtain ⟨rfl, hhi⟩ := aevalO_ok har k5 hs
    obtain ⟨mm, _, _, _, _, _, k7, h7⟩ := M.bind_some h5
    obtain ⟨rfl, hm⟩ := aevalO_ok har k7 hs
    obtain ⟨r, rfl, e, rfl⟩ := vO_some h7
    simp only [execOp, hop]
    exact OutV.op (aslice_ok hS e hv hl hhi hm w) hs
  | fieldAddr t x f =>
    obtain ⟨v, _, _, _, _, _, k1, h1⟩ := M.bind_some h
    obtain ⟨rfl, hv⟩ := aeval_ok har k1 hs
    obtain ⟨r, rfl, e, rfl⟩ := vO_some h1
    simp only [execOp, hop]
    exact OutV.op (afieldAddr_ok hS e hv w) hs
  | field t x f =>
    obtain ⟨v, _, _, _, _, _, k1, h1⟩ := M.bind_some h
    obtain ⟨rfl, hv⟩ := aeval_ok har k1 hs
    obtain ⟨r, rfl, e, rfl⟩ := vO_some h1
    simp only [execOp, hop]
    exact OutV.op (afield_ok hS e hv w) hs
  | indexAddr t x i =>
    obtain ⟨v, _, _, _, _, _, k1, h1⟩ := M.bind_some h
    obtain ⟨rfl, hv⟩ := aeval_ok har k1 hs
    obtain ⟨u, _, _, _, _, _, k3, h3⟩ := M.bind_some h1
    obtain ⟨rfl, hu⟩ := aeval_ok har k3 hs
    obtain ⟨r, rfl, e, rfl⟩ := vO_some h3
    simp only [execOp, hop]
    exact OutV.op (aindexAddr_ok hS e hv hu w) hs
  | index t x i =>
    obtain ⟨v, _, _, _, _, _, k1, h1⟩ := M.bind_some h
    obtain ⟨rfl, hv⟩ := aeval_ok har k1 hs
    obtain ⟨u, _, _, _, _, _, k3, h3⟩ := M.bind_some h1
    obtain ⟨rfl, hu⟩ := aeval_ok har k3 hs
    obtain ⟨r, rfl, e, rfl⟩ := vO_some h3
    simp only [execOp, hop]
    exact OutV.op (aindex_ok hS e hv hu w) hs
  | lookup t x i ok =>
    obtain ⟨v, _, _, _, _, _, k1, h1⟩ := M.bind_some h
    obtain ⟨rfl, hv⟩ := aeval_ok har k1 hs
    obtain ⟨u, _, _, _, _, _, k3, h3⟩ := M.bind_some h1
    obtain ⟨rfl, hu⟩ := aeval_ok har k3 hs
    obtain ⟨r, _, _, rfl, h4⟩ := v1_some h3
    simp only [execOp, hop]
    exact OpOut.val (alookup_ok hS h4 hs hv hu)
  | mapUpdate t mm kk x =>
    obtain ⟨mv, _, _, _, _, _, k1, h1⟩ := M.bind_some h
    obtain ⟨rfl, h2⟩ := aeval_ok har k1 hs
    obtain ⟨kv, _, _, _, _, _, k3, h3⟩ := M.bind_some h1
    obtain ⟨rfl, h4⟩ := aeval_ok har k3 hs
    obtain ⟨v, _, _, _, _, _, k5, h5⟩ := M.bind_some h3
    obtain ⟨rfl, h6⟩ := aeval_ok har k5 hs
    obtain ⟨_, _, rfl, h7⟩ := u1_some h5
    simp only [execOp, hop]
    exact OpOut.unit (amapUpdate_ok hS h7 hs h2 h4 h6)
  | insert t mm kk x =>
    obtain ⟨mv, _, _, _, _, _, k1, h1⟩ := M.bind_some h
    obtain ⟨rfl, h2⟩ := aeval_ok har k1 hs
    obtain ⟨kv, _, _, _, _, _, k3, h3⟩ := M.bind_some h1
    obtain ⟨rfl, h4⟩ := aeval_ok har k3 hs
    obtain ⟨v, _, _, _, _, _, k5, h5⟩ := M.bind_some h3
    obtain ⟨rfl, h6⟩ := aeval_ok har k5 hs
    obtain ⟨_, _, rfl, h7⟩ := u1_some h5
    simp only [execOp, hop]
    exact OpOut.unit (amapUpdate_ok hS h7 hs h2 h4 h6)
  | range t x =>
    obtain ⟨v, _, _, _, _, _, k1, h1⟩ := M.bind_some h
    obtain ⟨rfl, hv⟩ := aeval_ok har k1 hs
    obtain ⟨r, _, _, rfl, h2⟩ := v1_some h1
    simp only [execOp, hop]
    exact OpOut.val (arange_ok hS h2 hs hf hv)
  | next it st =>
    obtain ⟨v, _, _, _, _, _, k1, h1⟩ := M.bind_some h
    obtain ⟨rfl, hv⟩ := aeval_ok har k1 hs
    obtain ⟨r, _, _, rfl, h2⟩ := v1_some h1
    simp only [execOp, hop]
    exact OpOut.val (anext_ok h2 hs hv)
  | entry it =>
    obtain ⟨v, _, _, _, _, _, k1, h1⟩ := M.bind_some h
    obtain ⟨rfl, hv⟩ := aeval_ok har k1 hs
    obtain ⟨r, _, _, rfl, h2⟩ := v1_some h1
    simp only [execOp, hop]
    exact OpOut.val (aentry_ok h2 hs hv)
  | typeAssert x xt t ok =>
    obtain ⟨v, _, _, _, _, _, k1, h1⟩ := M.bind_some h
    obtain ⟨rfl, hv⟩ := aeval_ok har k1 hs
    obtain ⟨r, rfl, e, rfl⟩ := vO_some h1
    simp only [execOp, hop]
    exact OutV.op (atypeAssert_ok hS e hv xt w) hs
  | extract t i =>
    obtain ⟨v, _, _, _, _, _, k1, h1⟩ := M.bind_some h
    obtain ⟨rfl, hv⟩ := aeval_ok har k1 hs
    obtain ⟨r, rfl, e, rfl⟩ := vO_some h1
    simp only [execOp, hop]
    exact OutV.op (aextract_ok e hv w) hs
  | call c =>
    simp only at h
    have go : ∀ {m k : Nat} (h : (M.bind (aresolve a c) fun d => acall S d) s = some (nx, s', m, k)), OpOut P ι s w s' nx (execOp a'.eval o) := by
      intro m k h
      obtain ⟨d, s1, _, _, _, _, k1, k2⟩ := M.bind_some h
      obtain ⟨rfl, cap', args', _, h1, h2, h3⟩ := aresolve_ok (ty := o.type) har k1 hs
      obtain ⟨ι', w', t1, t2⟩ := acall_ok hS k2 hs h1 h2
      refine ⟨ι', w', t1, ?_⟩
      simp only [execOp, hop, Sem.run_bind, h3, Result.andThen_ok]
      exact t2
    generalize hc : c.callee = ce at h
    split at h
    · rename_i b
      obtain ⟨args, s1, _, _, _, _, k1, k2⟩ := M.bind_some h
      obtain ⟨rfl, hargs⟩ := aevals_ok har k1 hs
      have hargs' : LR ι args (c.args.map a'.eval).toList := by simpa using hargs
      obtain ⟨ι', w', t1, t2⟩ := abuiltin_ok hS (ty := o.type) (consts := c.args.map fun | .const _ => true | _ => false) k2 hs hf hargs'
      refine ⟨ι', w', t1, ?_⟩
      simp only [execOp, hop, resolve, hc, Sem.run_bind, Sem.run_pure, Result.andThen_ok, invoke]
      exact t2
    · rename_i f
      obtain ⟨fv, _, _, _, _, _, k1, h1⟩ := M.bind_some h
      obtain ⟨rfl, hfv⟩ := aeval_ok har k1 hs
      generalize hy : isYield fv = oy at h1
      cases oy with
      | none => exact go h1
      | some y =>
        simp only at h1
        obtain ⟨args, s1, _, _, _, _, k2, h2⟩ := M.bind_some h1
        obtain ⟨rfl, hargs⟩ := aevals_ok har k2 hs
        unfold ayield at h2
        obtain ⟨ob, _, _, e1, _, h3⟩ := bind_getO h2
        split at h3
        · rename_i lt lsz ps lasg lbody lst lpd
          obtain ⟨_, _, e2, h4⟩ := bind_guard h3
          obtain ⟨rfl, rfl⟩ := M.pure_some h4
          have e2 := Nat.eq_of_beq_eq_true e2
          unfold isYield at hy
          split at hy
          · rename_i y' x z
            cases hy
            obtain ⟨L, ob', b1, b2, _, q, rfl, b3, b4, _⟩ := hs.obj _ _ e1
            have hargs' : LR ι args (c.args.map a'.eval).toList := by simpa using hargs
            have hsz : (c.args.map a'.eval).size = q.params.size := by
              rw [← Array.length_toList, hargs'.1, e2, ← b4, Array.length_toList]
            refine ⟨ι, w, Tran.refl hs, L, q, c.args.map a'.eval, b1, b2, hsz, hargs', ?_⟩
            generalize hev : a'.eval f = fv' at hfv
            cases hfv with
            | func _ _ _ _ _ _ hff => obtain ⟨_, hf⟩ := hff; exact hf.elim
            | yield _ L' hL' =>
              rw [b1] at hL'; cases hL'
              simp only [execOp, hop, resolve, hc, hev, Deferred.ofValue, Sem.run_bind, Sem.run_pure, Result.andThen_ok, invoke]
              have e0 : (#[] : Array Value) ++ c.args.map a'.eval = c.args.map a'.eval := by simp
              rw [e0]
              exact run_yield b2 hsz
          · cases hy
        · simp [M.fail] at h3
    · exact go h
  | defer c =>
    obtain ⟨d, s1, _, _, _, _, k1, k2⟩ := M.bind_some h
    obtain ⟨rfl, cap', args', h0, h1, h2, h3⟩ := aresolve_ok (ty := o.type) har k1 hs
    obtain ⟨rfl, rfl⟩ := M.pure_some k2
    refine ⟨ι, w, Tran.refl hs, { target := .fn d.fn cap', args := args' }, ?_, cap', args', rfl, rfl, h0, h1, h2⟩
    simp only [execOp, hop, Sem.run_bind, h3, Result.andThen_ok, Sem.run_pure]
  | panic x =>
    obtain ⟨v, _, _, _, _, _, k1, h1⟩ := M.bind_some h
    obtain ⟨rfl, hv⟩ := aeval_ok har k1 hs
    split at h1
    · rename_i t u
      obtain ⟨rfl, rfl⟩ := M.pure_some h1
      generalize he : a'.eval x = v' at hv
      cases hv with | iface _ _ u' hu =>
      refine ⟨ι, w, Tran.refl hs, .iface t u', ?_, .iface t u u' hu⟩
      simp only [execOp, hop, he]
      rfl
    · simp [M.fail] at h1
  | _ => simp [M.fail] at h

end
end Go.Ai
/- The abstract evaluator, part 16: regions, code, calls. -/
namespace Go.Ai
noncomputable section

/-- A panic under way: the value, and whether it was recovered. -/
structure APE where
  v : Value
  rcv : Bool

inductive ACtl where
  | normal
  | exit (id : Nat)
  | ret
  | panic (ch : List APE)

inductive AEnd where
  | ret (v : Value)
  | panic (ch : List APE)

inductive AMode where
  | returning
  | panicking (ch : List APE)

/-- how calls and rounds are answered -/
structure Env where
  c : FuncId → List Value → M AEnd
  r : Nat → List Value → M Value

section
variable (P : Program) (S : Sig) (call : Env)

def ayielded (ops : Array Oper) (a : AAct) (j : Nat) : Option (Option Bool) :=
  match ops.toList[j]? with
  | some o => match o.dst with
    | some d => match a.t.get d with
      | some (.bool b) => some (some b)
      | some _ => some none
      | none => none
    | none => some none
  | none => some none

def awanted (ops : Array Oper) (a : AAct) (o : Oper) : Option Bool :=
  match o.guard with
  | none => some true
  | some (j, want) => match ayielded ops a j with
    | some (some b) => some (b == want)
    | some none => some false
    | none => none

/-- what follows an operation's answer -/
def after (a : AAct) (o : Oper) (nx : Nx) : M (ACtl × AAct) :=
  match nx with
  | .val v => M.bind (M.lift (aput a o.dst v)) fun b => M.pure (.normal, b)
  | .skip => M.bind (M.lift (aput a o.dst undef)) fun b => M.pure (.normal, b)
  | .defer d => M.bind (M.lift (aput { a with d := .call d :: a.d } o.dst undef)) fun b => M.pure (.normal, b)
  | .round y args => M.bind (call.r y args) fun v => M.bind (M.lift (aput a o.dst v)) fun b => M.pure (.normal, b)
  | .enter f args => M.bind (call.c f args) fun e => match e with
    | .ret v => M.bind (M.lift (aput a o.dst v)) fun b => M.pure (.normal, b)
    | .panic ch => M.pure (.panic ch, a)
  | .panic v => M.pure (.panic [⟨v, false⟩], a)
  | .recover => M.fail

def evOp (ops : Array Oper) (a : AAct) (o : Oper) : M (ACtl × AAct) :=
  M.bind (M.lift (awanted ops a o)) fun wd =>
  bif wd then M.bind (aop P S a o) fun nx => after call a o nx
  else M.bind (M.lift (aput a o.dst undef)) fun b => M.pure (.normal, b)

def evList (ops : Array Oper) : List Oper → AAct → M (ACtl × AAct)
  | [], a => M.pure (.normal, a)
  | o :: os, a => M.bind (evOp P S call ops a o) fun r => match r.1 with
    | .normal => evList ops os r.2
    | c => M.pure (c, r.2)

/-- the slots that an operand looks at -/
def opndMask : Operand → Nat
  | .tmp t => one t
  | _ => 0
def lookMask (ops : Array Oper) (o : Oper) : Nat :=
  Nat.lor (o.op.operands.toList.foldl (fun m x => Nat.lor m (opndMask x)) 0)
    (match o.guard with
     | none => 0
     | some (j, _) => match ops.toList[j]? with
       | some o => match o.dst with | some d => one d | none => 0
       | none => 0)
def dstMask (o : Oper) : Nat := match o.dst with | some d => one d | none => 0

structure Foot where
  tr : Nat
  tw : Nat
  r : Nat
  w : Nat
  b : Nat

def disjoint2 (x y : Foot) : Bool :=
  Nat.beq (Nat.land x.w (Nat.lor y.r y.w)) 0 && Nat.beq (Nat.land x.r y.w) 0 && Nat.beq (Nat.land x.tw (Nat.lor y.tr y.tw)) 0 && Nat.beq (Nat.land x.tr y.tw) 0

/-- every earlier operation that is not ordered ahead of this one stands apart from it; 'fs': the latest first; 'j': this one's place -/
def apartAll (y : Foot) : List Foot → Nat → Bool
  | [], _ => true
  | x :: fs, j => (Nat.testBit y.b (j - 1) || disjoint2 x y) && apartAll y fs (j - 1)

/-- what is ordered ahead: the edges' ends, and what is ahead of those -/
def beforeMask (fs : List Foot) (j : Nat) : List Edge → Option Nat
  | [] => some 0
  | e :: es => match beforeMask fs j es with
    | none => none
    | some m =>
      bif Region.binds .any e then
        bif Nat.blt e.on j then match fs[j - 1 - e.on]? with
          | some x => some (Nat.lor m (Nat.lor (one e.on) x.b))
          | none => none
        else none
      else some m

/-- a region whose order is open, in the order of the text, with the look that no other order tells anything else -/
def evDraw (ops : Array Oper) : List Oper → Nat → List Foot → AAct → M AAct
  | [], _, _, a => M.pure a
  | o :: os, j, fs, a =>
    M.bind (M.lift (beforeMask fs j o.after.toList)) fun b =>
    M.bind (M.foot (evOp P S call ops a o)) fun x => match x.1.1 with
      | .normal =>
        M.bind (M.guard (Nat.beq x.1.2.d.length a.d.length && apartAll ⟨lookMask ops o, dstMask o, x.2.1, x.2.2, b⟩ fs j)) fun _ =>
        evDraw ops os (j + 1) (⟨lookMask ops o, dstMask o, x.2.1, x.2.2, b⟩ :: fs) x.1.2
      | _ => M.fail

end

section
variable (P : Program) (S : Sig)
variable (orc : FuncId → List Value → Option (M AEnd))

def aresultOne (a : AAct) : ResultVar → M Value
  | .tmp t => M.lift (a.t.get t)
  | .cell x t => M.bind (M.lift (a.t.get x)) fun p => aload S t p

def aresultL (a : AAct) : List ResultVar → M (List Value)
  | [] => M.pure []
  | r :: rs => M.bind (aresultOne S a r) fun v => M.bind (aresultL a rs) fun vs => M.pure (v :: vs)

def aresults (fn : Func) (a : AAct) : M Value :=
  M.bind (aresultL S a fn.results.toList) fun vs => match vs with
    | [v] => M.pure v
    | vs => M.pure (.tuple vs.toArray)

def argsTr : List Value → Nat → Tr Value → Tr Value
  | [], _, t => t
  | v :: vs, i, t => argsTr vs (i + 1) (t.set 24 i (some v))

def initAct (fn : Func) (args : List Value) : AAct :=
  { t := argsTr args 0 .leaf, sz := args.length + (fn.ntmps - args.length), d := [] }

def asettle : AMode → AMode
  | .panicking (⟨_, true⟩ :: _) => .returning
  | m => m

def araised (u : AMode) (ch : List APE) : AMode :=
  match u with
  | .panicking old => .panicking (ch ++ old)
  | .returning => .panicking ch

def arecover : AMode → Value × AMode
  | .panicking (⟨v, false⟩ :: older) => (v, .panicking (⟨v, true⟩ :: older))
  | u => (.nilIface, u)

def isRecover (o : Oper) : Bool :=
  match o.op with
  | .call c => match c.callee, c.args.toList with
    | .builtin .recover, [] => o.guard.isNone
    | _, _ => false
  | _ => false

def hasRecover (ops : List Oper) : Bool := ops.any isRecover

/-- a region of a deferred function: recover may be called there -/
def evListD (call : Env) (ops : Array Oper) : List Oper → AAct → AMode → M (ACtl × AAct × AMode)
  | [], a, u => M.pure (.normal, a, u)
  | o :: os, a, u =>
    bif isRecover o then
      M.bind (M.lift (aput a o.dst (arecover u).1)) fun b =>
      bif hasRecover os then evListD call ops os b (arecover u).2
      else M.bind (evList P S call ops os b) fun r => M.pure (r.1, r.2, (arecover u).2)
    else
      M.bind (M.lift (awanted ops a o)) fun wd =>
      bif wd then M.bind (aop P S a o) fun nx => match nx with
        | .val v => M.bind (M.lift (aput a o.dst v)) fun b => evListD call ops os b u
        | .skip => M.bind (M.lift (aput a o.dst undef)) fun b => evListD call ops os b u
        | .panic v => M.pure (.panic [⟨v, false⟩], a, u)
        | _ => M.fail
      else M.bind (M.lift (aput a o.dst undef)) fun b => evListD call ops os b u

def notDefer (o : Oper) : Bool :=
  match o.op with
  | .defer _ => false
  | _ => true

/-- code that may be run in a round of a range over a function -/
def roundOK : Code → Bool
  | .skip => true
  | .label _ => true
  | .exit _ => true
  | .ret => true
  | .region _ ops _ => ops.toList.all notDefer
  | .seq x y => roundOK x && roundOK y
  | .cond _ x y => roundOK x && roundOK y
  | .block _ b => roundOK b
  | .loop b => roundOK b
  | _ => false

/-- what yield is handed, laid into the slots -/
def setArgs : List Nat → List Value → Tr Value → Tr Value
  | p :: ps, v :: vs, t => setArgs ps vs (t.set 24 p (some v))
  | _, _, t => t

/-- the end of a round: the jump that waits, if any -/
def roundEnd (y : Nat) (st : Nat) (pd : Option Code) (v : Bool) : M Value :=
  M.bind (M.getO y) fun o => match o with
  | .loop t sz ps asg body _ _ => M.bind (M.setO y (.loop t sz ps asg body st pd)) fun _ => M.pure (.bool v)
  | _ => M.fail

def isSel (o : Oper) : Bool :=
  match o.op with
  | .select _ false => o.guard.isNone
  | _ => false

/-- a select of one case with a default -/
def selOp (a : AAct) (o : Oper) : M Value :=
  match o.op with
  | .select cs false => match cs.toList with
    | [c] => M.bind (aeval a c.chan) fun ch => M.bind (aevalO a c.send) fun sd => M.bind (M.lift (S.inf.get c.elem)) fun i => M.bind (M.guard (plain i.2.2)) fun _ => match ch with
      | .chan (some x) => M.bind (M.getO x) fun o => match o with
        | .chan cap buf s r => match sd with
          | some v => bif Nat.blt buf.length cap then M.bind (M.setO x (.chan cap (buf ++ [v]) (s + 1) r)) fun _ => M.pure (.tuple #[.int .i64 (.ofNat 0), .bool false])
            else M.pure (.tuple #[.int .i64 (.negSucc 0), .bool false])
          | none => match buf with
            | v :: bs => M.bind (M.setO x (.chan cap bs s (r + 1))) fun _ => M.pure (.tuple #[.int .i64 (.ofNat 0), .bool true, v])
            | [] => M.pure (.tuple #[.int .i64 (.negSucc 0), .bool false, i.2.2])
        | _ => M.fail
      | _ => M.fail
    | _ => M.fail
  | _ => M.fail

/-- a region that may begin with a select -/
def evListN (call : Env) (ops : Array Oper) (a : AAct) : M (ACtl × AAct) :=
  match ops.toList with
  | o :: os => bif isSel o then M.bind (selOp S a o) fun v => M.bind (M.lift (aput a o.dst v)) fun b => evList P S call ops os b
    else evList P S call ops (o :: os) a
  | [] => M.pure (.normal, a)

mutual
def evCode : Nat → Code → AAct → M (ACtl × AAct)
  | 0, _, _ => M.fail
  | n + 1, c, a =>
    match c with
    | .skip => M.pure (.normal, a)
    | .label _ => M.pure (.normal, a)
    | .region _ ops d =>
      bif d then M.bind (evDraw P S ⟨evCall n, evRound n⟩ ops ops.toList 0 [] a) fun b => M.pure (.normal, b)
      else evList P S ⟨evCall n, evRound n⟩ ops ops.toList a
    | .seq x y => M.bind (evCode n x a) fun r => match r.1 with
      | .normal => evCode n y r.2
      | c => M.pure (c, r.2)
    | .cond x t e => M.bind (aeval a x) fun v => match v with
      | .bool b => evCode n (bif b then t else e) a
      | _ => M.fail
    | .block id b => M.bind (evCode n b a) fun r => match r.1 with
      | .exit id' => bif Nat.beq id' id then M.pure (.normal, r.2) else M.pure (.exit id', r.2)
      | c => M.pure (c, r.2)
    | .loop b => M.bind (evCode n b a) fun r => match r.1 with
      | .normal => evCode n (.loop b) r.2
      | c => M.pure (c, r.2)
    | .exit id => M.pure (.exit id, a)
    | .ret => M.pure (.ret, a)
    | .scope b => evCode n b a
    | .rangeFunc g ps asg body => M.bind (aeval a g) fun gv => match gv with
      | .func fn first cap => M.bind (M.guard (roundOK asg && roundOK body)) fun _ =>
        M.bind (M.newO .dfr) fun r => M.bind (M.newO (.loop a.t a.sz ps.toList asg body 0 none)) fun y =>
        M.bind (ainvoke S fn cap.toList (first.toList ++ [.func (.yield y) #[] #[]])) fun nx => match nx with
        | .enter f args => M.bind (evCall n f args) fun e => match e with
          | .ret _ => M.bind (M.getO y) fun o => match o with
            | .loop t sz ps asg body st pd => M.bind (M.guard (not (Nat.beq st 1))) fun _ =>
              M.bind (M.setO y (.loop t sz ps asg body 3 pd)) fun _ => match pd with
              | none => M.pure (.normal, { a with d := .mark r :: a.d })
              | some .ret => M.pure (.ret, { a with d := .mark r :: a.d })
              | some (.exit i) => M.pure (.exit i, { a with d := .mark r :: a.d })
              | some _ => M.fail
            | _ => M.fail
          | .panic ch => M.pure (.panic ch, { a with d := .mark r :: a.d })
        | _ => M.fail
      | _ => M.fail
    | _ => M.fail

/-- the code of a function in which a select stands, called by a call -/
def evCodeN : Nat → Code → AAct → M (ACtl × AAct)
  | 0, _, _ => M.fail
  | n + 1, c, a =>
    match c with
    | .region id ops d => bif d then evCode n (.region id ops d) a else evListN P S ⟨evCall n, evRound n⟩ ops a
    | .seq x y => M.bind (evCodeN n x a) fun r => match r.1 with
      | .normal => evCodeN n y r.2
      | c => M.pure (c, r.2)
    | .cond x t e => M.bind (aeval a x) fun v => match v with
      | .bool b => evCodeN n (bif b then t else e) a
      | _ => M.fail
    | .block id b => M.bind (evCodeN n b a) fun r => match r.1 with
      | .exit id' => bif Nat.beq id' id then M.pure (.normal, r.2) else M.pure (.exit id', r.2)
      | c => M.pure (c, r.2)
    | .loop b => M.bind (evCodeN n b a) fun r => match r.1 with
      | .normal => evCodeN n (.loop b) r.2
      | c => M.pure (c, r.2)
    | c => evCode n c a

/-- a round of a range over a function -/
def evRound : Nat → Nat → List Value → M Value
  | 0, _, _ => M.fail
  | n + 1, y, args =>
    M.bind (M.getO y) fun o => match o with
    | .loop t sz ps asg body _ _ =>
      M.bind (M.guard (Nat.beq args.length ps.length && ps.all (fun p => Nat.blt p sz && Nat.blt p 1000000) && roundOK asg && roundOK body)) fun _ =>
      M.bind (evCode n asg ⟨setArgs ps args t, sz, []⟩) fun r => match r.1 with
      | .normal => M.bind (M.getO y) fun o => match o with
        | .loop t sz ps asg' body' st pd =>
          M.bind (M.guard (Nat.beq st 0)) fun _ =>
          M.bind (M.setO y (.loop t sz ps asg' body' 1 pd)) fun _ =>
          M.bind (evCode n body r.2) fun q => match q.1 with
          | .normal => roundEnd y 0 none true
          | .ret => roundEnd y 2 (some .ret) false
          | .exit i => roundEnd y 2 (some (.exit i)) false
          | .panic _ => M.fail
        | _ => M.fail
      | _ => M.fail
    | _ => M.fail

/-- the code of a deferred function -/
def evCodeD : Nat → Code → AAct → AMode → M (ACtl × AAct × AMode)
  | 0, _, _, _ => M.fail
  | n + 1, c, a, u =>
    match c with
    | .seq x y => M.bind (evCodeD n x a u) fun r => match r.1 with
      | .normal => evCodeD n y r.2.1 r.2.2
      | c => M.pure (c, r.2)
    | .cond x t e => M.bind (aeval a x) fun v => match v with
      | .bool b => evCodeD n (bif b then t else e) a u
      | _ => M.fail
    | .region id ops d =>
      bif !d && hasRecover ops.toList then evListD P S ⟨evCall n, evRound n⟩ ops ops.toList a u
      else M.bind (evCode n (.region id ops d) a) fun r => M.pure (r.1, r.2, u)
    | c => M.bind (evCode n c a) fun r => M.pure (r.1, r.2, u)

def evCall : Nat → FuncId → List Value → M AEnd
  | 0, _, _ => M.fail
  | n + 1, f, args =>
    match orc f args with
    | some m => m
    | none =>
    M.bind (M.lift (S.fns.get f)) fun fn =>
    M.bind (M.lift fn.body) fun body =>
    M.bind (match S.sel.get f with
      | some _ => evCodeN n body (initAct fn args)
      | none => evCode n body (initAct fn args)) fun r =>
    match r.1 with
    | .normal => evLeave n fn r.2 r.2.d .returning
    | .ret => evLeave n fn r.2 r.2.d .returning
    | .panic ch => evLeave n fn r.2 r.2.d (.panicking ch)
    | .exit _ => M.fail

/-- the deferred calls, and what the function answers -/
def evLeave : Nat → Func → AAct → List ADef → AMode → M AEnd
  | 0, _, _, _, _ => M.fail
  | n + 1, fn, a, ds, u =>
    match ds with
    | [] => match u with
      | .returning => M.bind (aresults S fn a) fun v => M.pure (.ret v)
      | .panicking ch => M.pure (.panic ch)
    | .mark r :: ds => M.bind (M.getO r) fun o => match o with
      | .dfr => M.bind (M.delO r) fun _ => evLeave n fn a ds u
      | _ => M.fail
    | .call d :: ds =>
      M.bind (ainvoke S d.fn d.cap d.args) fun nx => match nx with
      | .enter f args => M.bind (evCallD n f args u) fun r => match r.1 with
        | .ret _ => evLeave n fn a ds (asettle r.2)
        | .panic ch => evLeave n fn a ds (araised r.2 ch)
      | _ => M.fail

def evCallD : Nat → FuncId → List Value → AMode → M (AEnd × AMode)
  | 0, _, _, _ => M.fail
  | n + 1, f, args, u =>
    M.bind (M.lift (S.fns.get f)) fun fn =>
    M.bind (M.lift fn.body) fun body =>
    M.bind (evCodeD n body (initAct fn args) u) fun r =>
    M.bind (M.guard r.2.1.d.isEmpty) fun _ =>
    match r.1 with
    | .normal => M.bind (aresults S fn r.2.1) fun v => M.pure (.ret v, r.2.2)
    | .ret => M.bind (aresults S fn r.2.1) fun v => M.pure (.ret v, r.2.2)
    | .panic ch => M.pure (.panic ch, r.2.2)
    | .exit _ => M.fail
end

end

end
end Go.Ai
