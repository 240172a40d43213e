import Derived.Test.YtdkpcdicfeenmaaGreatDoorMe
namespace Go.Ai
open Go.Proofs
theorem memo0 : memoChk2 pre mv0 (evCall Tryz.prog sig noOrc 3000 73 ma0 ⟨preTr pre, 64⟩) = true := by kernel_rfl
theorem memo3 : memoChk2 pre_5 mv3 (evCall Tryz.prog sig noOrc 3000 445 ma3 ⟨preTr pre_5, 64⟩) = true := by kernel_rfl
theorem memo4 : memoChk2 pre_5 mv4 (evCall Tryz.prog sig noOrc 3000 445 ma4 ⟨preTr pre_5, 64⟩) = true := by kernel_rfl
theorem memo5 : memoChk2 pre_5 mv5 (evCall Tryz.prog sig noOrc 3000 445 ma5 ⟨preTr pre_5, 64⟩) = true := by kernel_rfl
theorem memo6 : memoChk2 pre_5 mv6 (evCall Tryz.prog sig noOrc 3000 445 ma6 ⟨preTr pre_5, 64⟩) = true := by kernel_rfl
theorem memo7 : memoChk2 pre mv7 (evCall Tryz.prog sig orc0 3000 79 ma7 ⟨preTr pre, 64⟩) = true := by kernel_rfl
theorem memo8 : memoChk2 pre mv8 (evCall Tryz.prog sig orc0 3000 164 ma8 ⟨preTr pre, 64⟩) = true := by kernel_rfl
theorem memo9 : memoChk2 pre mv9 (evCall Tryz.prog sig orc0 3000 164 ma9 ⟨preTr pre, 64⟩) = true := by kernel_rfl
theorem memo10 : memoChk2 pre mv10 (evCall Tryz.prog sig orc0 3000 167 ma10 ⟨preTr pre, 64⟩) = true := by kernel_rfl
theorem memo11 : memoChk2 pre mv11 (evCall Tryz.prog sig orc0 3000 170 ma11 ⟨preTr pre, 64⟩) = true := by kernel_rfl
theorem memo12 : memoChk2 pre mv12 (evCall Tryz.prog sig orc0 3000 170 ma12 ⟨preTr pre, 64⟩) = true := by kernel_rfl
theorem memo13 : memoChk2 pre_2 mv13 (evCall Tryz.prog sig orc0 3000 74 ma13 ⟨preTr pre_2, 64⟩) = true := by kernel_rfl
theorem memo14 : memoChk2 pre_5 mv14 (evCall Tryz.prog sig orc0 3000 377 ma14 ⟨preTr pre_5, 64⟩) = true := by kernel_rfl
theorem memo15 : memoChk2 pre_5 mv15 (evCall Tryz.prog sig orc0 3000 377 ma15 ⟨preTr pre_5, 64⟩) = true := by kernel_rfl
theorem memo16 : memoChk2 pre_5 mv16 (evCall Tryz.prog sig orc0 3000 377 ma16 ⟨preTr pre_5, 64⟩) = true := by kernel_rfl
theorem memo17 : memoChk2 pre_5 mv17 (evCall Tryz.prog sig orc0 3000 377 ma17 ⟨preTr pre_5, 64⟩) = true := by kernel_rfl
end Go.Ai
