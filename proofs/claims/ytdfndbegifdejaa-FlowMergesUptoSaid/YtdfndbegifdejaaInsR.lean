/- The library's insertion sort at a slice of flows: the shelf's contract laid at this program, in the words of the stable sort. -/
import Derived.Test.YtdfndbegifdejaaMrgW
import Derived.Shelf.SlLaysF0
import Derived.Shelf.SlSortCmp.PdqK
namespace Go.Proofs.Ytdfndbegifdejaa.PFlowExact
set_option linter.unusedVariables false
set_option linter.unusedSimpArgs false
open Go.RowKit Go.Proofs.YtdfndbegifdejaaW.PrintWords Go.Proofs.YtdfndbegifdejaaMine Go.Proofs.YtdfndbegifdejaaStab Go.Proofs Go.Shelf Go.Sort

def insRen : Ren where
  f := fun x => if x = 20 then 67 else x
  t := fun x => if x = 24 then 32 else if x = 25 then 35 else x
  g := fun x => x

theorem insLays : SlLaysF0.n20 Try.prog insRen where
  mixed := by kernel_rfl
  f20 := ⟨"slices.insertionSortCmpFunc[payoff/api.Flow]", of_decide_eq_true (by kernel_rfl), Try.func67.trans (congrArg some (by kernel_rfl))⟩
  t0 := Try.underlying0
  a0 := Try.isAgg0
  z0 := Try.sizeOf0
  v0 := Try.zeroValue0
  t3 := Try.underlying3
  a3 := Try.isAgg3
  z3 := Try.sizeOf3
  v3 := Try.zeroValue3
  t4 := Try.underlying4
  a4 := Try.isAgg4
  z4 := Try.sizeOf4
  v4 := Try.zeroValue4
  t22 := Try.underlying22
  a22 := Try.isAgg22
  z22 := Try.sizeOf22
  v22 := Try.zeroValue22
  t25 := Try.underlying35
  a25 := Try.isAgg35
  z25 := Try.sizeOf35
  v25 := Try.zeroValue35

theorem ltOf_day : (ltOf (fun x y : S32 => c3 x.f0 y.f0)) = ltk day := by
  funext x y
  unfold ltOf ltk day
  by_cases h : x.f0 < y.f0
  · rw [decide_eq_true h]
    exact decide_eq_true ((c3_lt _ _).2 h)
  · rw [decide_eq_false h]
    exact decide_eq_false (fun h2 => h ((c3_lt _ _).1 h2))

theorem insAll : InsAll := fun blk off cap d0 w0 R hsz a b d w hd S hab hb => by
  have h := AnyQ.insertionSortCmpFunc_w insLays 3 Try.isAgg32 Try.sizeOf32 enc32 (fun x y => c3 x.f0 y.f0) 41 #[] blk off cap a b d0 d w0 w (enters_of Try.func41 (by kernel_rfl) rfl) (mergeCmp.lays _ _ _ _) R hd.symm S (by rw [ltOf_day]; exact swo_ltk day) hab hb (by omega)
  refine h.mono ?_
  rintro e w' ⟨rfl, hS⟩
  rw [ltOf_day] at hS
  obtain ⟨h1, h2⟩ := insertion_seg (key := day) d a b hab hb
  exact ⟨rfl, _, h1, h2, hS⟩
end Go.Proofs.Ytdfndbegifdejaa.PFlowExact
