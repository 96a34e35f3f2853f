/- The bulk of the given statement's second form is the bulk of this session's words. -/
import Derived.Test.YtdfndbegifdejaaDoorRows
import Derived.Test.YtdfndbegifdejaaDoorOpens
namespace Go.Proofs.YtdfndbegifdejaaDoorMine
open Go.Proofs.YtdfndbegifdejaaDoor
mutual
theorem bulk_eq {H : Type} : ∀ d : DataW H, Rows.uptoBulk d = dbulk d
  | .lit l => by cases l <;> simp [Rows.uptoBulk, dbulk]
  | .nil => by simp [Rows.uptoBulk, dbulk]
  | .ptr d => by simp [Rows.uptoBulk, dbulk, bulk_eq d]
  | .slice elems spare => by simp [Rows.uptoBulk, dbulk, bulkAll_eq elems, bulkAll_eq spare]
  | .agg parts => by simp [Rows.uptoBulk, dbulk, bulkAll_eq parts]
  | .iface _ d => by simp [Rows.uptoBulk, dbulk, bulk_eq d]
  | .map entries => by simp [Rows.uptoBulk, dbulk, bulkEntries_eq entries]
  | .held _ => by simp [Rows.uptoBulk, dbulk]
theorem bulkAll_eq {H : Type} : ∀ l : List (DataW H), Rows.uptoBulkAll l = dbulkAll l
  | [] => by simp [Rows.uptoBulkAll, dbulkAll]
  | d :: r => by simp [Rows.uptoBulkAll, dbulkAll, bulk_eq d, bulkAll_eq r]
theorem bulkEntries_eq {H : Type} : ∀ l : List (Lit × DataW H), Rows.uptoBulkEntries l = dbulkEntries l
  | [] => by simp [Rows.uptoBulkEntries, dbulkEntries]
  | x :: r => by simp [Rows.uptoBulkEntries, dbulkEntries, bulkEntry_eq x, bulkEntries_eq r]
theorem bulkEntry_eq {H : Type} : ∀ x : Lit × DataW H, Rows.uptoBulkEntry x = dbulkEntry x
  | (l, d) => by cases l <;> simp [Rows.uptoBulkEntry, dbulkEntry, bulk_eq d]
end
theorem dsum_mem {l : List Nat} {n : Nat} (h : n ∈ l) : n ≤ dsum l := by
  induction l with
  | nil => cases h
  | cons x r ih =>
    simp only [dsum]
    cases List.mem_cons.1 h with
    | inl e => subst e; omega
    | inr e => have := ih e; omega
theorem dsum_len {α : Type} (f : α → Nat) (hf : ∀ a, 1 ≤ f a) : ∀ l : List α, l.length ≤ dsum (l.map f)
  | [] => by simp [dsum]
  | a :: r => by
    have := dsum_len f hf r
    have := hf a
    simp only [List.map_cons, dsum, List.length_cons]; omega
theorem bound {H : Type} {l : List (DataW H)} (hk : Rows.uptoSmall H l = true) : dbulkAll l ≤ 1048576 := by
  rw [← bulkAll_eq]
  unfold Rows.uptoSmall at hk
  exact of_decide_eq_true hk
end Go.Proofs.YtdfndbegifdejaaDoorMine
