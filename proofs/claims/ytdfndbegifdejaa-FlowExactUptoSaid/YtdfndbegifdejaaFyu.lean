import Derived.Test.YtdfndbegifdejaaFyt
import Derived.Test.YtdfndbegifdejaaRows
section
namespace Go.Proofs.YtdfndbegifdejaaMine
open Go.Proofs.Ytdfndbegifdejaa
mutual
theorem bulk_eq {H : Type} : ∀ d : DataW H, Rows.uptoBulk d = dbulk d
  | .lit l => by cases l <;> simp [Rows.uptoBulk, dbulk]
  | .nil => by simp [Rows.uptoBulk, dbulk]
  | .ptr d => by simp [Rows.uptoBulk, dbulk, bulk_eq d]
  | .slice elems spare => by simp [Rows.uptoBulk, dbulk, bulkAll_eq elems, bulkAll_eq spare]
  | .agg parts => by simp [Rows.uptoBulk, dbulk, bulkAll_eq parts]
  | .iface _ d => by simp [Rows.uptoBulk, dbulk, bulk_eq d]
  | .map entries => by simp [Rows.uptoBulk, dbulk, bulkEntries_eq entries]
  | .held _ => by simp [Rows.uptoBulk, dbulk]
theorem bulkAll_eq {H : Type} : ∀ l : List (DataW H), Rows.uptoBulkAll l = dbulkAll l
  | [] => by simp [Rows.uptoBulkAll, dbulkAll]
  | d :: r => by simp [Rows.uptoBulkAll, dbulkAll, bulk_eq d, bulkAll_eq r]
theorem bulkEntries_eq {H : Type} : ∀ l : List (Lit × DataW H), Rows.uptoBulkEntries l = dbulkEntries l
  | [] => by simp [Rows.uptoBulkEntries, dbulkEntries]
  | x :: r => by simp [Rows.uptoBulkEntries, dbulkEntries, bulkEntry_eq x, bulkEntries_eq r]
theorem bulkEntry_eq {H : Type} : ∀ x : Lit × DataW H, Rows.uptoBulkEntry x = dbulkEntry x
  | (l, d) => by cases l <;> simp [Rows.uptoBulkEntry, dbulkEntry, bulk_eq d]
end
theorem dsum_mem {l : List Nat} {n : Nat} (h : n ∈ l) : n ≤ dsum l := by
  induction l with
  | nil => cases h
  | cons x r ih =>
    simp only [dsum]
    cases List.mem_cons.1 h with
    | inl e => subst e; omega
    | inr e => have := ih e; omega
theorem dsum_len {α : Type} (f : α → Nat) (hf : ∀ a, 1 ≤ f a) : ∀ l : List α, l.length ≤ dsum (l.map f)
  | [] => by simp [dsum]
  | a :: r => by
    have := dsum_len f hf r
    have := hf a
    simp only [List.map_cons, dsum, List.length_cons]; omega
theorem bound {H : Type} {l : List (DataW H)} (hk : Rows.uptoSmall H l = true) : dbulkAll l ≤ 1048576 := by
  rw [← bulkAll_eq]
  unfold Rows.uptoSmall at hk
  exact of_decide_eq_true hk
end Go.Proofs.YtdfndbegifdejaaMine
end
section
namespace Go.Proofs.Ytdfndbegifdejaa.PFlowExact
set_option linter.unusedVariables false
open Go.RowKit Go.Proofs.YtdfndbegifdejaaW.PrintWords Go.Proofs.YtdfndbegifdejaaMine
theorem dsum_mem {α : Type} (f : α → Nat) : ∀ {l : List α} {x : α}, x ∈ l → f x ≤ dsum (l.map f)
 | a :: r, x, h => by
  simp only [List.map_cons, dsum]
  rcases List.mem_cons.1 h with rfl | h
  ·omega
  ·have := dsum_mem f h; omega
theorem wfP_ofE {l : List S32} (h : WF22 l) : WfP l := fun x hx => by
 have h1 := h.2 x hx
 refine ⟨⟨?_, h1.d0⟩, h1.d2⟩
 have := h1.d1
 unfold reachBytes at this
 unfold maxLen
 simp only
 omega
theorem FlowExact.walk (A0 : Option Addr) (c0 : Nat) (l0 : List S55) (w : World) (hr0 : Kd.C k55 w A0 l0.length l0) (hc0 : l0.length ≤ c0) (hwf : WF52 l0) (hb : bk52 l0 ≤ 1048576) :
  Calls Try.prog 9 #[.slice A0 l0.length c0] w fun e w' => e = .returned (.bool true) ∧ Below w.heap.size w w' := by
 unfold bk52 at hb
 refine FlowExact.walk0 A0 c0 l0 w hr0 hc0 (fun x hx => ⟨?_, wfP_ofE (hwf.2 x hx).d1⟩) ?_
 ·have h1 := dsum_mem (fun a => bk55 a) hx
  have h2 := dsum_len (fun a => bk32 a) (fun a => by unfold bk32; omega) x.f1
  unfold bk55 bk22 at h1
  unfold bk55 bk22 at hb
  omega
 ·have h2 := dsum_len (fun a => bk55 a) (fun a => by unfold bk55; omega) l0
  omega
end Go.Proofs.Ytdfndbegifdejaa.PFlowExact
end
