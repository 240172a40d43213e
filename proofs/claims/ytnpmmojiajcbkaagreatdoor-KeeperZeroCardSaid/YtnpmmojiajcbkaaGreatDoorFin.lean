import Derived.Test.YtnpmmojiajcbkaaGreatDoorF3k
import Derived.Test.YtnpmmojiajcbkaaGreatDoorAw
import Derived.Test.YtnpmmojiajcbkaaGreatDoorMe0
import Derived.Test.YtnpmmojiajcbkaaGreatDoorMe1
import Derived.Test.YtnpmmojiajcbkaaGreatDoorFo
import Derived.Test.YtnpmmojiajcbkaaGreatDoorE4
import Derived.Test.YtnpmmojiajcbkaaGreatDoorTie
import Derived.Test.YtnpmmojiajcbkaaGreatDoorCards
import Derived.ProofKit
import Derived.LaidMore
namespace Go.Ai
set_option maxRecDepth 100000
open Go.Proofs Go.Proofs.YtnpmmojiajcbkaaGreatDoor Go.ChangeShapes

theorem glob_lt : ∀ p ∈ glob, p.1 < 64 := by
  intro p hp
  simp only [glob, List.mem_cons, List.not_mem_nil, or_false] at hp
  rcases hp with rfl | rfl | rfl | rfl <;> decide
theorem pre_lt : ∀ p ∈ pre, p.1 < 64 := by
  intro p hp
  simp only [pre, List.mem_cons, List.not_mem_nil, or_false] at hp
  rcases hp with rfl | rfl <;> decide

theorem sums_ok : OrcOK Tryz.prog (memoOrc pre tbl) :=
  memoOrc_ok sig_ok follows_mixed pre_lt (N := 3000) (by
    intro e he
    simp only [tbl, List.mem_cons, List.not_mem_nil, or_false] at he
    rcases he with rfl | rfl
    · exact memo0
    · exact memo1)

theorem orc3_some {f : FuncId} {args : List Value} {m : M AEnd} (h : orc3 f args = some m) : f = 4 ∧ args = [] ∧ m = memoM glob (.bool true) := by
  unfold orc3 at h
  split at h
  · cases hb : Nat.beq f 4 with
    | false => rw [hb] at h; cases h
    | true =>
      rw [hb] at h
      simp only [cond_true, Option.some.injEq] at h
      exact ⟨Nat.eq_of_beq_eq_true hb, rfl, h.symm⟩
  · cases h

theorem orc3_ok : OrcOK Tryz.prog orc3 where
  loc := fun f args m h => by
    obtain ⟨rfl, rfl, rfl⟩ := orc3_some h
    exact memoM_local
  ok := fun f args m h s e s' r k ι w args' hm hs _ ha => by
    obtain ⟨rfl, rfl, rfl⟩ := orc3_some h
    exact memo_ok sig_ok follows_mixed sums_ok (N := 3000) glob_lt rfl awake_memo hm hs ha

/-! ### The arguments -/
abbrev ts25 : List TypeId := 3 :: 9 :: 9 :: List.replicate 32 5
abbrev ts28 : List TypeId := 3 :: 3 :: 9 :: 9 :: (List.replicate 32 5 ++ [26])

theorem cellTypes25 : Tryz.prog.cellTypes Tryz.prog.depth 25 = some ts25 := by kernel_rfl
theorem cellTypes28 : Tryz.prog.cellTypes Tryz.prog.depth 28 = some ts28 := by kernel_rfl

section
variable {W : World} {b : Nat}

theorem rep5 {n i : Nat} (h : i < n) : (List.replicate n (5 : TypeId))[i]? = some 5 := by simp [h]
theorem rep5a {n i : Nat} (m : List TypeId) (h : i < n) : (List.replicate n (5 : TypeId) ++ m)[i]? = some 5 := by
  rw [List.getElem?_append_left (by simpa using h)]; exact rep5 h
theorem flat5 {v : Value} (h : Cell.okWide Tryz.prog W .any b 5 v) : flat v = true := cell_flat (.inr (.inr ⟨_, Tryz.underlying5⟩)) h
theorem flat3 {v : Value} (h : Cell.okWide Tryz.prog W .any b 3 v) : flat v = true := cell_flat (.inr (.inr ⟨_, Tryz.underlying3⟩)) h

theorem open25 {v : Value} (h : Value.okWide Tryz.prog W .any b 25 v) : ∃ (k : Value) (tp bd : ByteArray) (xs : List Value), v = .agg (.mk (k :: .string tp :: .string bd :: xs)) ∧ xs.length = 32 ∧ flat k = true ∧ xs.all flat = true := by
  obtain ⟨l, rfl, hl, hc⟩ := row_cells (by rw [Tryz.underlying25]) cellTypes25 (by kernel_rfl) h
  match l, hl, hc with
  | k :: s1 :: s2 :: xs, hl, hc =>
    obtain ⟨tp, rfl⟩ := cell_string Tryz.underlying9 (hc 1 9 s1 rfl rfl)
    obtain ⟨bd, rfl⟩ := cell_string Tryz.underlying9 (hc 2 9 s2 rfl rfl)
    have hx : xs.length = 32 := by simpa [ts25] using hl
    refine ⟨k, tp, bd, xs, rfl, hx, flat3 (hc 0 3 k rfl rfl), List.all_eq_true.2 fun x hx' => ?_⟩
    obtain ⟨i, hi, rfl⟩ := List.mem_iff_getElem.1 hx'
    exact flat5 (hc (i + 3) 5 xs[i] (rep5 (n := 32) (i := i) (by omega)) (by simp))

theorem open28 {v : Value} (h : Value.okWide Tryz.prog W .any b 28 v) : ∃ (k n : Value) (ky vl : ByteArray) (xs : List Value) (sl : Value), v = .agg (.mk (k :: n :: .string ky :: .string vl :: (xs ++ [sl]))) ∧ xs.length = 32 ∧ flat k = true ∧ flat n = true ∧ xs.all flat = true ∧
    (sl = .slice none 0 0 ∨ ∃ (bl off l c : Nat), sl = .slice (some ⟨bl, off, none⟩) l c ∧ l ≤ c ∧ c < HALF) := by
  obtain ⟨l, rfl, hl, hc⟩ := row_cells (by rw [Tryz.underlying28]) cellTypes28 (by kernel_rfl) h
  match l, hl, hc with
  | k :: n :: s1 :: s2 :: ys, hl, hc =>
    obtain ⟨tp, rfl⟩ := cell_string Tryz.underlying9 (hc 2 9 s1 rfl rfl)
    obtain ⟨bd, rfl⟩ := cell_string Tryz.underlying9 (hc 3 9 s2 rfl rfl)
    have hy : ys.length = 33 := by simpa [ts28] using hl
    have hlast : ys = ys.take 32 ++ [ys[32]] := by
      have := (List.take_append_drop 32 ys).symm
      rw [List.drop_eq_getElem_cons (by omega), List.drop_of_length_le (by omega)] at this
      exact this
    refine ⟨k, n, tp, bd, ys.take 32, ys[32], by rw [← hlast], by simp [hy], flat3 (hc 0 3 k rfl rfl), flat3 (hc 1 3 n rfl rfl), List.all_eq_true.2 fun x hx' => ?_, ?_⟩
    · obtain ⟨i, hi, rfl⟩ := List.mem_iff_getElem.1 hx'
      have hi' : i < 32 := by simp [hy] at hi; exact hi
      exact flat5 (hc (i + 4) 5 _ (rep5a (n := 32) (i := i) [26] hi') (by simp [hi']))
    · exact cell_slice Tryz.underlying26 (hc 36 26 ys[32] (by simp [ts28, List.getElem?_append]) (by simp))
end

/-- where the row of the operation's ids lies -/
def exRow (sl : Value) : Inj := fun x => if x = 64 then (match sl with | .slice (some a) _ _ => some ⟨a.block, a.off, 0⟩ | _ => none) else none

theorem LR.agg1 {ι : Inj} {l l' : List Value} (h : LR ι l l') : VR ι (.agg (.mk l)) (.agg (.mk l')) := VR.aggL h

theorem args_lr {ι0 : List (Nat × AObj)} {W : World} {b : Nat} {args : Array Value} (hsz : args.size = 3) (hval : ∀ (j : Nat) t v, Tryz.f3.params[j]? = some t → args[j]? = some v → Value.okWide Tryz.prog W .any b t v) :
    ∃ V T ra rl rc ex, LR (entry ι0 ex) (args3 V T ra rl rc) args.toList ∧ ∀ x, 65 ≤ x → ex x = none := by
  obtain ⟨al⟩ := args
  match al, hsz with
  | [e, t, o], _ =>
    rw [Tryz.params3] at hval
    obtain ⟨k, tp, bd, xs, rfl, hx, fk, fx⟩ := open25 (hval 0 25 e rfl rfl)
    have ht := hval 1 9 t rfl rfl
    have ht' : ∃ tt, t = .string tt := by
      have : Cell.okWide Tryz.prog W .any b 9 t := by
        unfold Value.okWide at ht
        rw [Tryz.underlying9] at ht
        exact ht
      exact cell_string Tryz.underlying9 this
    obtain ⟨tt, rfl⟩ := ht'
    obtain ⟨k2, n2, ky, vl, ys, sl, rfl, hy, fk2, fn2, fy, hsl⟩ := open28 (hval 2 28 o rfl rfl)
    let V : Nat → Value := fun i => if i = 0 then k else if i < 33 then xs.getD (i - 1) undef else if i = 33 then k2 else if i = 34 then n2 else ys.getD (i - 35) undef
    let T : Nat → ByteArray := fun i => if i = 0 then tp else if i = 1 then bd else if i = 2 then tt else if i = 3 then ky else vl
    have v1 : vals V 32 1 = xs := vals_eq hx (fun j v hj => by
      have : j < 32 := by have := (List.getElem?_eq_some_iff.1 hj).1; omega
      simp only [V]
      rw [if_neg (by omega), if_pos (by omega)]
      have e : 1 + j - 1 = j := by omega
      rw [e, List.getD_eq_getElem?_getD, hj]; rfl)
    have v2 : vals V 32 35 = ys := vals_eq hy (fun j v hj => by
      simp only [V]
      rw [if_neg (by omega), if_neg (by omega), if_neg (by omega), if_neg (by omega)]
      have e : 35 + j - 35 = j := by omega
      rw [e, List.getD_eq_getElem?_getD, hj]; rfl)
    have key : ∀ (ra : Option Addr) (rl rc : Nat) (ex : Inj), VR (entry ι0 ex) (.slice ra rl rc) sl → LR (entry ι0 ex) (args3 V T ra rl rc) [.agg (.mk (k :: .string tp :: .string bd :: xs)), .string tt, .agg (.mk (k2 :: n2 :: .string ky :: .string vl :: (ys ++ [sl])))] := by
      intro ra rl rc ex hs
      unfold args3
      rw [v1, v2]
      refine LR.cons (LR.agg1 (LR.cons (VR.flat_refl fk) (LR.cons (.string _) (LR.cons (.string _) (LR.flat_refl fx))))) (LR.cons (.string _) (LR.cons (LR.agg1 (LR.cons (VR.flat_refl fk2) (LR.cons (VR.flat_refl fn2) (LR.cons (.string _) (LR.cons (.string _) (LR.append (LR.flat_refl fy) (LR.cons hs LR.nil))))))) LR.nil))
    rcases hsl with rfl | ⟨bl, off, l, c, rfl, hlc, hc⟩
    · exact ⟨V, T, none, 0, 0, fun _ => none, key _ _ _ _ (.slnil 0 0), fun _ _ => rfl⟩
    · refine ⟨V, T, some ⟨64, 0, none⟩, l, c, fun x => if x = 64 then some ⟨bl, off, 0⟩ else none, key _ _ _ _ ?_, fun x hx => if_neg (by omega)⟩
      exact .sl 64 0 l c ⟨bl, off, 0⟩ _ (by simp [entry]) hc (.inl (by simp))

end Go.Ai
