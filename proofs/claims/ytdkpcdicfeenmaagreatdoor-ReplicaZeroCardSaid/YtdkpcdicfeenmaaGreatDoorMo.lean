import Derived.Test.YtdkpcdicfeenmaaGreatDoorMe
import Derived.Test.YtdkpcdicfeenmaaGreatDoorFo
import Derived.Test.YtdkpcdicfeenmaaGreatDoorMm1
import Derived.Test.YtdkpcdicfeenmaaGreatDoorMm2
import Derived.Test.YtdkpcdicfeenmaaGreatDoorMmR
namespace Go.Ai
open Go.Proofs
theorem pre_lt : ∀ p ∈ pre, p.1 < 64 := by
  intro p hp
  cases hp
theorem pre_1_3_lt : ∀ p ∈ pre_1_3, p.1 < 64 := by
  intro p hp
  simp only [pre_1_3, List.mem_cons, List.not_mem_nil, or_false] at hp
  rcases hp with rfl | rfl <;> decide
theorem pre_2_lt : ∀ p ∈ pre_2, p.1 < 64 := by
  intro p hp
  simp only [pre_2, List.mem_cons, List.not_mem_nil, or_false] at hp
  rcases hp with rfl <;> decide
theorem pre_5_lt : ∀ p ∈ pre_5, p.1 < 64 := by
  intro p hp
  simp only [pre_5, List.mem_cons, List.not_mem_nil, or_false] at hp
  rcases hp with rfl <;> decide
theorem orc0_ok : OrcOK Tryz.prog orc0 :=
  memoOrc2_ok sig_ok follows_mixed (N := 3000) pre_5_lt noOrc_ok (memoOrc2_ok sig_ok follows_mixed (N := 3000) pre_1_3_lt noOrc_ok (memoOrc2_ok sig_ok follows_mixed (N := 3000) pre_lt noOrc_ok (noOrc_ok) (by
    intro e he
    simp only [tbl0pre, List.mem_cons, List.not_mem_nil, or_false] at he
    rcases he with rfl
    · exact memo0)) (by
    intro e he
    simp only [tbl0pre_1_3, List.mem_cons, List.not_mem_nil, or_false] at he
    rcases he with rfl | rfl
    · exact memo1
    · exact memo2)) (by
    intro e he
    simp only [tbl0pre_5, List.mem_cons, List.not_mem_nil, or_false] at he
    rcases he with rfl | rfl | rfl | rfl
    · exact memo3
    · exact memo4
    · exact memo5
    · exact memo6)
theorem orc1_ok : OrcOK Tryz.prog orc1 :=
  memoOrc2_ok sig_ok follows_mixed (N := 3000) pre_5_lt orc0_ok (memoOrc2_ok sig_ok follows_mixed (N := 3000) pre_2_lt orc0_ok (memoOrc2_ok sig_ok follows_mixed (N := 3000) pre_lt orc0_ok (orc0_ok) (by
    intro e he
    simp only [tbl1pre, List.mem_cons, List.not_mem_nil, or_false] at he
    rcases he with rfl | rfl | rfl | rfl | rfl | rfl
    · exact memo7
    · exact memo8
    · exact memo9
    · exact memo10
    · exact memo11
    · exact memo12)) (by
    intro e he
    simp only [tbl1pre_2, List.mem_cons, List.not_mem_nil, or_false] at he
    rcases he with rfl
    · exact memo13)) (by
    intro e he
    simp only [tbl1pre_5, List.mem_cons, List.not_mem_nil, or_false] at he
    rcases he with rfl | rfl | rfl | rfl
    · exact memo14
    · exact memo15
    · exact memo16
    · exact memo17)
end Go.Ai
