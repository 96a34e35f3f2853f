/- Merging sorted lists by the least head, first list first: the plain law (no program in sight). -/
import Derived.Test.YtdfndbegifdejaaStabP
namespace Go.Proofs.YtdfndbegifdejaaStab
set_option linter.unusedSectionVars false
set_option linter.unusedVariables false
set_option linter.unusedSimpArgs false

section
variable {α : Type} (key : α → Int)

theorem set_flatten_split : ∀ (rs : List (List α)) (i : Nat) (x : α) (t : List α), rs[i]? = some (x :: t) →
    ∃ A B, rs.flatten = A ++ x :: (t ++ B) ∧ (rs.set i t).flatten = A ++ (t ++ B) ∧ A = (rs.take i).flatten
  | [], i, x, t, h => by simp at h
  | r :: rs, 0, x, t, h => by
    simp at h; subst h
    exact ⟨[], rs.flatten, by simp, by simp, by simp⟩
  | r :: rs, i + 1, x, t, h => by
    simp at h
    obtain ⟨A, B, h1, h2, h3⟩ := set_flatten_split rs i x t h
    refine ⟨r ++ A, B, by simp [h1], by simp [h2], by simp [h3]⟩

/-- The least head of the first list that has it: the classes, and what is left. -/
theorem pick_cls (rs : List (List α)) (i : Nat) (x : α) (t : List α) (h : rs[i]? = some (x :: t))
    (hlt : ∀ y ∈ (rs.take i).flatten, key x < key y) (k : Int) : Cls key k rs.flatten = Cls key k (x :: (rs.set i t).flatten) := by
  obtain ⟨A, B, h1, h2, h3⟩ := set_flatten_split rs i x t h
  rw [h1, h2]
  rw [← h3] at hlt
  by_cases hk : key x = k
  · have e : Cls key k A = [] := cls_nil_of key fun y hy he => by have := hlt y hy; omega
    rw [cls_append, e, show x :: (A ++ (t ++ B)) = [x] ++ (A ++ (t ++ B)) from rfl, cls_append key k [x], cls_append, e, show x :: (t ++ B) = [x] ++ (t ++ B) from rfl, cls_append key k [x]]
    simp
  · have e : ∀ l : List α, Cls key k (x :: l) = Cls key k l := fun l => by simp [Cls, hk]
    rw [cls_append, e, e, cls_append, cls_append, cls_append]

theorem mem_set_flatten (rs : List (List α)) (i : Nat) (x : α) (t : List α) (h : rs[i]? = some (x :: t)) {y : α} (hy : y ∈ (rs.set i t).flatten) : y ∈ rs.flatten := by
  obtain ⟨A, B, h1, h2, h3⟩ := set_flatten_split rs i x t h
  rw [h2] at hy; rw [h1]
  simp at hy ⊢
  rcases hy with h | h | h <;> simp [h]

/-- What a merge by the least head comes to. -/
inductive Mrg : List (List α) → List α → Prop
  | done (rs : List (List α)) (h : ∀ r ∈ rs, r = []) : Mrg rs []
  | pick (rs : List (List α)) (i : Nat) (x : α) (t : List α) (h : rs[i]? = some (x :: t)) (hlt : ∀ y ∈ (rs.take i).flatten, key x < key y) (hle : ∀ y ∈ rs.flatten, key x ≤ key y)
      (m : List α) (hm : Mrg (rs.set i t) m) : Mrg rs (x :: m)

theorem Mrg.law {rs : List (List α)} {m : List α} (h : Mrg key rs m) : KSorted key m ∧ (∀ k, Cls key k m = Cls key k rs.flatten) := by
  induction h with
  | done rs h =>
    refine ⟨List.Pairwise.nil, fun k => ?_⟩
    have : rs.flatten = [] := by rw [List.flatten_eq_nil_iff]; exact h
    rw [this]
  | pick rs i x t h hlt hle m hm ih =>
    obtain ⟨i1, i2⟩ := ih
    refine ⟨List.pairwise_cons.2 ⟨fun y hy => ?_, i1⟩, fun k => ?_⟩
    · exact hle y (mem_set_flatten rs i x t h (mem_of_cls key i2 hy))
    · rw [pick_cls key rs i x t h hlt k]
      have e : ∀ l : List α, Cls key k (x :: l) = (if key x = k then [x] else []) ++ Cls key k l := fun l => by
        by_cases hk : key x = k <;> simp [Cls, hk]
      rw [e, e, i2 k]

/-- A merge of sorted lists is the stable sorting of their concatenation. -/
theorem Mrg.unique {rs : List (List α)} {m s : List α} (h : Mrg key rs m) (hs : KSorted key s) (hc : ∀ k, Cls key k s = Cls key k rs.flatten) : m = s :=
  sorted_unique key m s (Mrg.law key h).1 hs fun k => ((Mrg.law key h).2 k).trans (hc k).symm
end
end Go.Proofs.YtdfndbegifdejaaStab
