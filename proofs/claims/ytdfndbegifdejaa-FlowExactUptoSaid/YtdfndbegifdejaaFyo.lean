import Derived.Test.YtdfndbegifdejaaFyn
import Derived.WalkLawsBesides
section
namespace Go.Proofs.Ytdfndbegifdejaa.PFlowExact
set_option linter.unusedVariables false
set_option linter.unusedSimpArgs false
open Go.RowKit Go.Proofs.YtdfndbegifdejaaW.PrintWords Go.Proofs.YtdfndbegifdejaaW.PrintLast Go.Proofs.YtdfndbegifdejaaW.PrintMore Go.Proofs.YtdfndbegifdejaaMine Go.Proofs.YtdfndbegifdejaaStab Go.Proofs Go.Shelf Go.Sort
instance : Inhabited S32 := ⟨⟨0, ByteArray.empty, 0⟩⟩
def enc32 (x : S32) : List Value := [.int .i64 x.f0, .string x.f1, .int .i64 x.f2]
theorem flat32 : Flat0 k32 enc32 := ⟨fun h => k32_open h, fun w b ok x => k32_mkM w b ok x⟩
def day (x : S32) : Int := x.f0
def c3 (a b : Int) : Int := if a < b then -1 else if b < a then 1 else 0
theorem c3_lt (a b : Int) : c3 a b < 0 ↔ a < b := by unfold c3; split <;> (try split) <;> omega
theorem isNaN.calls (a : Int) (w : World) : Calls Try.prog 51 #[.int .i64 a] w fun e w' => e = .returned (.bool false) ∧ w = w' := by
  go_enter Try.func51, Try.ntmps51
  go_wp2
  go_ret
  exact ⟨by simp, rfl⟩
theorem cmpCompare.calls (a b : Int) (w : World) : Calls Try.prog 36 #[.int .i64 a, .int .i64 b] w fun e w' => e = .returned (.int .i64 (c3 a b)) ∧ w = w' := by
  by_cases h1 : a < b
  · have hc : Aside0 (c3 a b = -1) := ⟨by simp [c3, h1]⟩
    go_enter Try.func36, Try.ntmps36
    go_wp2_with (go_at_call 51; refine (isNaN.calls _ _).mono ?_; rintro e w1 ⟨rfl, rfl⟩)
    go_ret
    exact ⟨by rw [hc.out]; rfl, rfl⟩
  · by_cases h2 : b < a
    · have hc : Aside0 (c3 a b = 1) := ⟨by simp [c3, h1, h2]⟩
      go_enter Try.func36, Try.ntmps36
      go_wp2_with (go_at_call 51; refine (isNaN.calls _ _).mono ?_; rintro e w1 ⟨rfl, rfl⟩)
      go_ret
      exact ⟨by rw [hc.out]; rfl, rfl⟩
    · have hc : Aside0 (c3 a b = 0) := ⟨by simp [c3, h1, h2]⟩
      go_enter Try.func36, Try.ntmps36
      go_wp2_with (go_at_call 51; refine (isNaN.calls _ _).mono ?_; rintro e w1 ⟨rfl, rfl⟩)
      go_ret
      exact ⟨by rw [hc.out]; rfl, rfl⟩
theorem mergeCmp.calls (x y : S32) (w : World) : Calls Try.prog 41 #[.agg (enc32 x).toArray, .agg (enc32 y).toArray] w fun e w' => e = .returned (.int .i64 (c3 x.f0 y.f0)) ∧ ∃ os : Array Obj, w' = grow w os := by
  unfold enc32
  go_enter Try.func41, Try.ntmps41
  go_wp2_with (go_at_call 36; refine (cmpCompare.calls _ _ _).mono ?_; rintro e w1 ⟨rfl, rfl⟩)
  go_ret
  exact ⟨rfl, #[.cells #[.int .i64 x.f0, .string x.f1, .int .i64 x.f2] 32 (0, 0)] ++ #[.cells #[.int .i64 y.f0, .string y.f1, .int .i64 y.f2] 32 (0, 0)], by rw [alloc_eq_grow, alloc_eq_grow, grow_grow]⟩
theorem mergeCmp.lays (blk off size : Nat) (w : World) : CmpLays Try.prog 41 #[] enc32 3 (fun x y => c3 x.f0 y.f0) blk off size w := fun m os dk hs x y => by
  refine (mergeCmp.calls x y _).mono ?_
  rintro e w' ⟨rfl, os', rfl⟩
  exact ⟨rfl, 0, os', by rfl⟩
end Go.Proofs.Ytdfndbegifdejaa.PFlowExact
end
section
namespace Go.Proofs.YtdfndbegifdejaaStab
set_option linter.unusedSectionVars false
set_option linter.unusedVariables false
set_option linter.unusedSimpArgs false
section
variable {α : Type} (key : α → Int)
theorem set_flatten_split : ∀ (rs : List (List α)) (i : Nat) (x : α) (t : List α), rs[i]? = some (x :: t) →
    ∃ A B, rs.flatten = A ++ x :: (t ++ B) ∧ (rs.set i t).flatten = A ++ (t ++ B) ∧ A = (rs.take i).flatten
  | [], i, x, t, h => by simp at h
  | r :: rs, 0, x, t, h => by
    simp at h; subst h
    exact ⟨[], rs.flatten, by simp, by simp, by simp⟩
  | r :: rs, i + 1, x, t, h => by
    simp at h
    obtain ⟨A, B, h1, h2, h3⟩ := set_flatten_split rs i x t h
    refine ⟨r ++ A, B, by simp [h1], by simp [h2], by simp [h3]⟩
theorem pick_cls (rs : List (List α)) (i : Nat) (x : α) (t : List α) (h : rs[i]? = some (x :: t))
    (hlt : ∀ y ∈ (rs.take i).flatten, key x < key y) (k : Int) : Cls key k rs.flatten = Cls key k (x :: (rs.set i t).flatten) := by
  obtain ⟨A, B, h1, h2, h3⟩ := set_flatten_split rs i x t h
  rw [h1, h2]
  rw [← h3] at hlt
  by_cases hk : key x = k
  · have e : Cls key k A = [] := cls_nil_of key fun y hy he => by have := hlt y hy; omega
    rw [cls_append, e, show x :: (A ++ (t ++ B)) = [x] ++ (A ++ (t ++ B)) from rfl, cls_append key k [x], cls_append, e, show x :: (t ++ B) = [x] ++ (t ++ B) from rfl, cls_append key k [x]]
    simp
  · have e : ∀ l : List α, Cls key k (x :: l) = Cls key k l := fun l => by simp [Cls, hk]
    rw [cls_append, e, e, cls_append, cls_append, cls_append]
theorem mem_set_flatten (rs : List (List α)) (i : Nat) (x : α) (t : List α) (h : rs[i]? = some (x :: t)) {y : α} (hy : y ∈ (rs.set i t).flatten) : y ∈ rs.flatten := by
  obtain ⟨A, B, h1, h2, h3⟩ := set_flatten_split rs i x t h
  rw [h2] at hy; rw [h1]
  simp at hy ⊢
  rcases hy with h | h | h <;> simp [h]
inductive Mrg : List (List α) → List α → Prop
  | done (rs : List (List α)) (h : ∀ r ∈ rs, r = []) : Mrg rs []
  | pick (rs : List (List α)) (i : Nat) (x : α) (t : List α) (h : rs[i]? = some (x :: t)) (hlt : ∀ y ∈ (rs.take i).flatten, key x < key y) (hle : ∀ y ∈ rs.flatten, key x ≤ key y)
      (m : List α) (hm : Mrg (rs.set i t) m) : Mrg rs (x :: m)
theorem Mrg.law {rs : List (List α)} {m : List α} (h : Mrg key rs m) : KSorted key m ∧ (∀ k, Cls key k m = Cls key k rs.flatten) := by
  induction h with
  | done rs h =>
    refine ⟨List.Pairwise.nil, fun k => ?_⟩
    have : rs.flatten = [] := by rw [List.flatten_eq_nil_iff]; exact h
    rw [this]
  | pick rs i x t h hlt hle m hm ih =>
    obtain ⟨i1, i2⟩ := ih
    refine ⟨List.pairwise_cons.2 ⟨fun y hy => ?_, i1⟩, fun k => ?_⟩
    · exact hle y (mem_set_flatten rs i x t h (mem_of_cls key i2 hy))
    · rw [pick_cls key rs i x t h hlt k]
      have e : ∀ l : List α, Cls key k (x :: l) = (if key x = k then [x] else []) ++ Cls key k l := fun l => by
        by_cases hk : key x = k <;> simp [Cls, hk]
      rw [e, e, i2 k]
theorem Mrg.unique {rs : List (List α)} {m s : List α} (h : Mrg key rs m) (hs : KSorted key s) (hc : ∀ k, Cls key k s = Cls key k rs.flatten) : m = s :=
  sorted_unique key m s (Mrg.law key h).1 hs fun k => ((Mrg.law key h).2 k).trans (hc k).symm
end
end Go.Proofs.YtdfndbegifdejaaStab
end
