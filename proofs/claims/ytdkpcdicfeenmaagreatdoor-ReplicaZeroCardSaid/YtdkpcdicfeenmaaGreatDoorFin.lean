import Derived.Test.YtdkpcdicfeenmaaGreatDoorF3
import Derived.Test.YtdkpcdicfeenmaaGreatDoorMo
import Derived.Test.YtdkpcdicfeenmaaGreatDoorAw
import Derived.Test.YtdkpcdicfeenmaaGreatDoorRows
import Derived.Test.YtdkpcdicfeenmaaGreatDoorCards
import Derived.ProofKit
import Derived.LaidMore
namespace Go.Ai
set_option maxRecDepth 100000
open Go.Proofs Go.Proofs.YtdkpcdicfeenmaaGreatDoor Go.ChangeShapes

theorem tabs_lt : ∀ p ∈ tabs, p.1 < 64 := by
  intro p hp
  simp only [tabs, List.mem_cons, List.not_mem_nil, or_false] at hp
  rcases hp with rfl | rfl | rfl | rfl <;> decide

theorem orcL_ok : OrcOK Tryz.prog orcL where
  loc := fun f args m h => by
    rcases orcL_some h with ⟨rfl, rfl, rfl⟩ | ⟨n, x, rfl, rfl, rfl⟩
    · exact memoM_local
    · exact asM_local x n
  ok := fun f args m h s e s' r k ι w args' hm hs _ ha => by
    rcases orcL_some h with ⟨rfl, rfl, rfl⟩ | ⟨n, x, rfl, rfl, rfl⟩
    · exact memo_ok sig_ok follows_mixed orc1_ok (N := 3000) tabs_lt rfl awake_memo hm hs ha
    · exact asM_ok hm hs ha

theorem args_lr {ι : Inj} {W : World} {b : Nat} {args : Array Value} (hsz : args.size = 3) (hval : ∀ (j : Nat) t v, Tryz.f3.params[j]? = some t → args[j]? = some v → Value.okWide Tryz.prog W .any b t v) :
    ∃ T z B, LR ι (args3 T z B) args.toList := by
  obtain ⟨al⟩ := args
  match al, hsz with
  | [t, f, o], _ =>
    rw [Tryz.params3] at hval
    have ht := hval 0 9 t rfl rfl
    have hf := hval 1 3 f rfl rfl
    have ho := hval 2 9 o rfl rfl
    unfold Value.okWide at ht hf ho
    rw [Tryz.underlying9] at ht ho
    rw [Tryz.underlying3] at hf
    obtain ⟨T, rfl⟩ := cell_string Tryz.underlying9 ht
    obtain ⟨z, rfl⟩ := cell_int Tryz.underlying3 hf
    obtain ⟨B, rfl⟩ := cell_string Tryz.underlying9 ho
    exact ⟨T, z, B, LR.cons (.string _) (LR.cons (.int _ _) (LR.cons (.string _) LR.nil))⟩
end Go.Ai
