import Derived.Test.YtkfbkjcdngipcaaTlyC
/-! Deals whose lists are within the reach. -/
namespace Go.Proofs.Ytkfbkjcdngipcaa.PTreeEquals
open Go.RowKit Go.Proofs.YtkfbkjcdngipcaaW.PrintWords Go.Proofs.YtkfbkjcdngipcaaW.PrintLast Go.Proofs.YtkfbkjcdngipcaaW.PrintMore
mutual
def S54.wf : S54 → Prop
  | ⟨_, _, _, l3, l4⟩ => l3.length * 24 ≤ 140737488351232 ∧ l4.length * 80 ≤ 140737488351232 ∧ S54.wfs l4
def S54.wfs : List S54 → Prop
  | [] => True
  | x :: r => x.wf ∧ S54.wfs r
end
theorem S54.wf_eq (x : S54) : x.wf ↔ x.f3.length * 24 ≤ 140737488351232 ∧ x.f4.length * 80 ≤ 140737488351232 ∧ S54.wfs x.f4 := by cases x; simp [S54.wf]
theorem S54.wfs_iff : ∀ l : List S54, S54.wfs l ↔ ∀ x ∈ l, x.wf
  | [] => by simp [S54.wfs]
  | x :: r => by simp [S54.wfs, S54.wfs_iff r]
mutual
def S34.wf : S34 → Prop
  | ⟨_, _, _, _, _, _, _, l, m⟩ => l.length * 80 ≤ 140737488351232 ∧ S54.wfs l ∧ m.length * 240 ≤ 140737488351232 ∧ S34.wfs m
def S34.wfs : List S34 → Prop
  | [] => True
  | x :: r => x.wf ∧ S34.wfs r
end
theorem S34.wf_eq (x : S34) : x.wf ↔ x.f7.length * 80 ≤ 140737488351232 ∧ S54.wfs x.f7 ∧ x.f8.length * 240 ≤ 140737488351232 ∧ S34.wfs x.f8 := by cases x; simp [S34.wf]
theorem S34.wfs_iff : ∀ l : List S34, S34.wfs l ↔ ∀ x ∈ l, x.wf
  | [] => by simp [S34.wfs]
  | x :: r => by simp [S34.wfs, S34.wfs_iff r]
def S56.wf (x : S56) : Prop := x.f1.length * 16 ≤ 140737488351232 ∧ x.f2.wf
end Go.Proofs.Ytkfbkjcdngipcaa.PTreeEquals
