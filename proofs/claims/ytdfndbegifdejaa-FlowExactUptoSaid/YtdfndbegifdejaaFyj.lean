import Derived.Test.YtdfndbegifdejaaFyi
import Derived.Test.YtdfndbegifdejaaChecked
import Derived.Shelf.SlLaysF
import Derived.Shelf.SlLaysF0
section
namespace Go.Proofs.Ytdfndbegifdejaa.PFlowExact
open Go.Proofs Go.Shelf
def sortStrsRen : Ren where
  f := fun x => if x = 6 then 60 else if x = 15 then 70 else if x = 14 then 69 else if x = 28 then 83 else if x = 29 then 84 else if x = 20 then 75 else if x = 21 then 76 else if x = 22 then 77 else if x = 23 then 78 else if x = 24 then 79 else if x = 25 then 80 else if x = 26 then 81 else if x = 27 then 82 else if x = 46 then 94 else if x = 47 then 95 else if x = 48 then 96 else if x = 49 then 97 else if x = 50 then 98 else if x = 57 then 102 else x
  t := fun x => if x = 22 then 101 else if x = 24 then 9 else if x = 25 then 65 else if x = 39 then 115 else if x = 53 then 127 else if x = 55 then 89 else if x = 46 then 121 else if x = 45 then 120 else if x = 50 then 95 else if x = 66 then 134 else if x = 70 then 138 else if x = 76 then 142 else if x = 77 then 143 else x
  g := fun x => x
set_option maxRecDepth 100000 in
theorem sortStrs : SlLaysF.n6 Try.prog sortStrsRen where
  mixed := by kernel_rfl
  f6 := ⟨"slices.SortFunc[[]string,string]", of_decide_eq_true (by kernel_rfl), Try.func60.trans (congrArg some (by kernel_rfl))⟩
  f14 := ⟨"slices.pdqsortCmpFunc[string]", of_decide_eq_true (by kernel_rfl), Try.func69.trans (congrArg some (by kernel_rfl))⟩
  f15 := Try.func70.trans (congrArg some (by kernel_rfl))
  f20 := ⟨"slices.insertionSortCmpFunc[string]", of_decide_eq_true (by kernel_rfl), Try.func75.trans (congrArg some (by kernel_rfl))⟩
  f21 := ⟨"slices.heapSortCmpFunc[string]", of_decide_eq_true (by kernel_rfl), Try.func76.trans (congrArg some (by kernel_rfl))⟩
  f22 := ⟨"slices.breakPatternsCmpFunc[string]", of_decide_eq_true (by kernel_rfl), Try.func77.trans (congrArg some (by kernel_rfl))⟩
  f23 := ⟨"slices.choosePivotCmpFunc[string]", of_decide_eq_true (by kernel_rfl), Try.func78.trans (congrArg some (by kernel_rfl))⟩
  f24 := ⟨"slices.reverseRangeCmpFunc[string]", of_decide_eq_true (by kernel_rfl), Try.func79.trans (congrArg some (by kernel_rfl))⟩
  f25 := ⟨"slices.partialInsertionSortCmpFunc[string]", of_decide_eq_true (by kernel_rfl), Try.func80.trans (congrArg some (by kernel_rfl))⟩
  f26 := ⟨"slices.partitionEqualCmpFunc[string]", of_decide_eq_true (by kernel_rfl), Try.func81.trans (congrArg some (by kernel_rfl))⟩
  f27 := ⟨"slices.partitionCmpFunc[string]", of_decide_eq_true (by kernel_rfl), Try.func82.trans (congrArg some (by kernel_rfl))⟩
  f28 := Try.func83.trans (congrArg some (by kernel_rfl))
  f29 := Try.func84.trans (congrArg some (by kernel_rfl))
  f46 := ⟨"slices.siftDownCmpFunc[string]", of_decide_eq_true (by kernel_rfl), Try.func94.trans (congrArg some (by kernel_rfl))⟩
  f47 := Try.func95.trans (congrArg some (by kernel_rfl))
  f48 := Try.func96.trans (congrArg some (by kernel_rfl))
  f49 := ⟨"slices.medianAdjacentCmpFunc[string]", of_decide_eq_true (by kernel_rfl), Try.func97.trans (congrArg some (by kernel_rfl))⟩
  f50 := ⟨"slices.medianCmpFunc[string]", of_decide_eq_true (by kernel_rfl), Try.func98.trans (congrArg some (by kernel_rfl))⟩
  f57 := ⟨"slices.order2CmpFunc[string]", of_decide_eq_true (by kernel_rfl), Try.func102.trans (congrArg some (by kernel_rfl))⟩
  t0 := Try.underlying0
  a0 := Try.isAgg0
  z0 := Try.sizeOf0
  v0 := Try.zeroValue0
  t3 := Try.underlying3
  a3 := Try.isAgg3
  z3 := Try.sizeOf3
  v3 := Try.zeroValue3
  t4 := Try.underlying4
  a4 := Try.isAgg4
  z4 := Try.sizeOf4
  v4 := Try.zeroValue4
  t5 := Try.underlying5
  a5 := Try.isAgg5
  z5 := Try.sizeOf5
  v5 := Try.zeroValue5
  t9 := Try.underlying9
  a9 := Try.isAgg9
  z9 := Try.sizeOf9
  v9 := Try.zeroValue9
  t22 := Try.underlying101
  a22 := Try.isAgg101
  z22 := Try.sizeOf101
  v22 := Try.zeroValue101
  a24 := Try.isAgg9
  z24 := Try.sizeOf9
  t25 := Try.underlying65
  a25 := Try.isAgg65
  z25 := Try.sizeOf65
  v25 := Try.zeroValue65
  t39 := Try.underlying115
  a39 := Try.isAgg115
  z39 := Try.sizeOf115
  v39 := Try.zeroValue115
  t45 := Try.underlying120
  a45 := Try.isAgg120
  z45 := Try.sizeOf120
  v45 := Try.zeroValue120
  t46 := Try.underlying121
  a46 := Try.isAgg121
  z46 := Try.sizeOf121
  v46 := Try.zeroValue121
  t50 := Try.underlying95
  a50 := Try.isAgg95
  z50 := Try.sizeOf95
  v50 := Try.zeroValue95
  t53 := Try.underlying127
  a53 := Try.isAgg127
  z53 := Try.sizeOf127
  v53 := Try.zeroValue127
  t55 := Try.underlying89
  a55 := Try.isAgg89
  z55 := Try.sizeOf89
  v55 := Try.zeroValue89
  t66 := Try.underlying134
  a66 := Try.isAgg134
  z66 := Try.sizeOf134
  v66 := Try.zeroValue134
  t70 := Try.underlying138
  a70 := Try.isAgg138
  z70 := Try.sizeOf138
  v70 := Try.zeroValue138
  t76 := Try.underlying142
  a76 := Try.isAgg142
  z76 := Try.sizeOf142
  v76 := Try.zeroValue142
  t77 := Try.underlying143
  a77 := Try.isAgg143
  z77 := Try.sizeOf143
  v77 := Try.zeroValue143
def sortPlacesRen : Ren where
  f := fun x => if x = 6 then 63 else if x = 15 then 70 else if x = 14 then 72 else if x = 28 then 83 else if x = 29 then 84 else if x = 20 then 85 else if x = 21 then 86 else if x = 22 then 87 else if x = 23 then 88 else if x = 24 then 89 else if x = 25 then 90 else if x = 26 then 91 else if x = 27 then 92 else if x = 46 then 99 else if x = 47 then 95 else if x = 48 then 96 else if x = 49 then 100 else if x = 50 then 101 else if x = 57 then 103 else x
  t := fun x => if x = 22 then 107 else if x = 24 then 82 else if x = 25 then 84 else if x = 39 then 115 else if x = 53 then 127 else if x = 55 then 89 else if x = 46 then 121 else if x = 45 then 120 else if x = 50 then 95 else if x = 66 then 134 else if x = 70 then 138 else if x = 76 then 142 else if x = 77 then 143 else x
  g := fun x => x
set_option maxRecDepth 100000 in
theorem sortPlaces : SlLaysF0.n6 Try.prog sortPlacesRen where
  mixed := by kernel_rfl
  f6 := ⟨"slices.SortFunc[[]payoff/flow.place,payoff/flow.place]", of_decide_eq_true (by kernel_rfl), Try.func63.trans (congrArg some (by kernel_rfl))⟩
  f14 := ⟨"slices.pdqsortCmpFunc[payoff/flow.place]", of_decide_eq_true (by kernel_rfl), Try.func72.trans (congrArg some (by kernel_rfl))⟩
  f15 := Try.func70.trans (congrArg some (by kernel_rfl))
  f20 := ⟨"slices.insertionSortCmpFunc[payoff/flow.place]", of_decide_eq_true (by kernel_rfl), Try.func85.trans (congrArg some (by kernel_rfl))⟩
  f21 := ⟨"slices.heapSortCmpFunc[payoff/flow.place]", of_decide_eq_true (by kernel_rfl), Try.func86.trans (congrArg some (by kernel_rfl))⟩
  f22 := ⟨"slices.breakPatternsCmpFunc[payoff/flow.place]", of_decide_eq_true (by kernel_rfl), Try.func87.trans (congrArg some (by kernel_rfl))⟩
  f23 := ⟨"slices.choosePivotCmpFunc[payoff/flow.place]", of_decide_eq_true (by kernel_rfl), Try.func88.trans (congrArg some (by kernel_rfl))⟩
  f24 := ⟨"slices.reverseRangeCmpFunc[payoff/flow.place]", of_decide_eq_true (by kernel_rfl), Try.func89.trans (congrArg some (by kernel_rfl))⟩
  f25 := ⟨"slices.partialInsertionSortCmpFunc[payoff/flow.place]", of_decide_eq_true (by kernel_rfl), Try.func90.trans (congrArg some (by kernel_rfl))⟩
  f26 := ⟨"slices.partitionEqualCmpFunc[payoff/flow.place]", of_decide_eq_true (by kernel_rfl), Try.func91.trans (congrArg some (by kernel_rfl))⟩
  f27 := ⟨"slices.partitionCmpFunc[payoff/flow.place]", of_decide_eq_true (by kernel_rfl), Try.func92.trans (congrArg some (by kernel_rfl))⟩
  f28 := Try.func83.trans (congrArg some (by kernel_rfl))
  f29 := Try.func84.trans (congrArg some (by kernel_rfl))
  f46 := ⟨"slices.siftDownCmpFunc[payoff/flow.place]", of_decide_eq_true (by kernel_rfl), Try.func99.trans (congrArg some (by kernel_rfl))⟩
  f47 := Try.func95.trans (congrArg some (by kernel_rfl))
  f48 := Try.func96.trans (congrArg some (by kernel_rfl))
  f49 := ⟨"slices.medianAdjacentCmpFunc[payoff/flow.place]", of_decide_eq_true (by kernel_rfl), Try.func100.trans (congrArg some (by kernel_rfl))⟩
  f50 := ⟨"slices.medianCmpFunc[payoff/flow.place]", of_decide_eq_true (by kernel_rfl), Try.func101.trans (congrArg some (by kernel_rfl))⟩
  f57 := ⟨"slices.order2CmpFunc[payoff/flow.place]", of_decide_eq_true (by kernel_rfl), Try.func103.trans (congrArg some (by kernel_rfl))⟩
  t0 := Try.underlying0
  a0 := Try.isAgg0
  z0 := Try.sizeOf0
  v0 := Try.zeroValue0
  t3 := Try.underlying3
  a3 := Try.isAgg3
  z3 := Try.sizeOf3
  v3 := Try.zeroValue3
  t4 := Try.underlying4
  a4 := Try.isAgg4
  z4 := Try.sizeOf4
  v4 := Try.zeroValue4
  t5 := Try.underlying5
  a5 := Try.isAgg5
  z5 := Try.sizeOf5
  v5 := Try.zeroValue5
  t9 := Try.underlying9
  a9 := Try.isAgg9
  z9 := Try.sizeOf9
  v9 := Try.zeroValue9
  t22 := Try.underlying107
  a22 := Try.isAgg107
  z22 := Try.sizeOf107
  v22 := Try.zeroValue107
  t25 := Try.underlying84
  a25 := Try.isAgg84
  z25 := Try.sizeOf84
  v25 := Try.zeroValue84
  t39 := Try.underlying115
  a39 := Try.isAgg115
  z39 := Try.sizeOf115
  v39 := Try.zeroValue115
  t45 := Try.underlying120
  a45 := Try.isAgg120
  z45 := Try.sizeOf120
  v45 := Try.zeroValue120
  t46 := Try.underlying121
  a46 := Try.isAgg121
  z46 := Try.sizeOf121
  v46 := Try.zeroValue121
  t50 := Try.underlying95
  a50 := Try.isAgg95
  z50 := Try.sizeOf95
  v50 := Try.zeroValue95
  t53 := Try.underlying127
  a53 := Try.isAgg127
  z53 := Try.sizeOf127
  v53 := Try.zeroValue127
  t55 := Try.underlying89
  a55 := Try.isAgg89
  z55 := Try.sizeOf89
  v55 := Try.zeroValue89
  t66 := Try.underlying134
  a66 := Try.isAgg134
  z66 := Try.sizeOf134
  v66 := Try.zeroValue134
  t70 := Try.underlying138
  a70 := Try.isAgg138
  z70 := Try.sizeOf138
  v70 := Try.zeroValue138
  t76 := Try.underlying142
  a76 := Try.isAgg142
  z76 := Try.sizeOf142
  v76 := Try.zeroValue142
  t77 := Try.underlying143
  a77 := Try.isAgg143
  z77 := Try.sizeOf143
  v77 := Try.zeroValue143
end Go.Proofs.Ytdfndbegifdejaa.PFlowExact
end
