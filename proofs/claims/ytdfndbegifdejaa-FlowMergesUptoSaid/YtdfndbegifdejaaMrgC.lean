/- The comparing closure of flow.Merge, as the library's sorting asks of it. -/
import Derived.Test.YtdfndbegifdejaaRowS
import Derived.Test.YtdfndbegifdejaaStabR
import Derived.WalkLawsBesides
namespace Go.Proofs.Ytdfndbegifdejaa.PFlowExact
set_option linter.unusedVariables false
set_option linter.unusedSimpArgs false
open Go.RowKit Go.Proofs.YtdfndbegifdejaaW.PrintWords Go.Proofs.YtdfndbegifdejaaW.PrintLast Go.Proofs.YtdfndbegifdejaaW.PrintMore Go.Proofs.YtdfndbegifdejaaMine Go.Proofs.YtdfndbegifdejaaStab Go.Proofs Go.Shelf Go.Sort

instance : Inhabited S32 := ⟨⟨0, ByteArray.empty, 0⟩⟩
def enc32 (x : S32) : List Value := [.int .i64 x.f0, .string x.f1, .int .i64 x.f2]
theorem flat32 : Flat0 k32 enc32 := ⟨fun h => k32_open h, fun w b ok x => k32_mkM w b ok x⟩
def day (x : S32) : Int := x.f0
def c3 (a b : Int) : Int := if a < b then -1 else if b < a then 1 else 0
theorem c3_lt (a b : Int) : c3 a b < 0 ↔ a < b := by unfold c3; split <;> (try split) <;> omega

theorem isNaN.calls (a : Int) (w : World) : Calls Try.prog 51 #[.int .i64 a] w fun e w' => e = .returned (.bool false) ∧ w = w' := by
  go_enter Try.func51, Try.ntmps51
  go_wp2
  go_ret
  exact ⟨by simp, rfl⟩
theorem cmpCompare.calls (a b : Int) (w : World) : Calls Try.prog 36 #[.int .i64 a, .int .i64 b] w fun e w' => e = .returned (.int .i64 (c3 a b)) ∧ w = w' := by
  by_cases h1 : a < b
  · have hc : Aside0 (c3 a b = -1) := ⟨by simp [c3, h1]⟩
    go_enter Try.func36, Try.ntmps36
    go_wp2_with (go_at_call 51; refine (isNaN.calls _ _).mono ?_; rintro e w1 ⟨rfl, rfl⟩)
    go_ret
    exact ⟨by rw [hc.out]; rfl, rfl⟩
  · by_cases h2 : b < a
    · have hc : Aside0 (c3 a b = 1) := ⟨by simp [c3, h1, h2]⟩
      go_enter Try.func36, Try.ntmps36
      go_wp2_with (go_at_call 51; refine (isNaN.calls _ _).mono ?_; rintro e w1 ⟨rfl, rfl⟩)
      go_ret
      exact ⟨by rw [hc.out]; rfl, rfl⟩
    · have hc : Aside0 (c3 a b = 0) := ⟨by simp [c3, h1, h2]⟩
      go_enter Try.func36, Try.ntmps36
      go_wp2_with (go_at_call 51; refine (isNaN.calls _ _).mono ?_; rintro e w1 ⟨rfl, rfl⟩)
      go_ret
      exact ⟨by rw [hc.out]; rfl, rfl⟩

theorem mergeCmp.calls (x y : S32) (w : World) : Calls Try.prog 41 #[.agg (enc32 x).toArray, .agg (enc32 y).toArray] w fun e w' => e = .returned (.int .i64 (c3 x.f0 y.f0)) ∧ ∃ os : Array Obj, w' = grow w os := by
  unfold enc32
  go_enter Try.func41, Try.ntmps41
  go_wp2_with (go_at_call 36; refine (cmpCompare.calls _ _ _).mono ?_; rintro e w1 ⟨rfl, rfl⟩)
  go_ret
  exact ⟨rfl, #[.cells #[.int .i64 x.f0, .string x.f1, .int .i64 x.f2] 32 (0, 0)] ++ #[.cells #[.int .i64 y.f0, .string y.f1, .int .i64 y.f2] 32 (0, 0)], by rw [alloc_eq_grow, alloc_eq_grow, grow_grow]⟩

theorem mergeCmp.lays (blk off size : Nat) (w : World) : CmpLays Try.prog 41 #[] enc32 3 (fun x y => c3 x.f0 y.f0) blk off size w := fun m os dk hs x y => by
  refine (mergeCmp.calls x y _).mono ?_
  rintro e w' ⟨rfl, os', rfl⟩
  exact ⟨rfl, 0, os', by rfl⟩
end Go.Proofs.Ytdfndbegifdejaa.PFlowExact
