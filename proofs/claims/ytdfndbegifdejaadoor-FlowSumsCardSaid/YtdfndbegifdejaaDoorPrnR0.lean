/- Small words. -/
import Derived.Test.YtdfndbegifdejaaDoorPrt
namespace Go.Proofs.YtdfndbegifdejaaDoor.GD
set_option linter.unusedVariables false
set_option linter.unusedSimpArgs false
open Go.RowKit Go.Proofs.YtdfndbegifdejaaDoorW.PrintWords
theorem ba_ext {a b : ByteArray} (h : a.data.toList = b.data.toList) : a = b := by
  obtain ⟨⟨x⟩⟩ := a
  obtain ⟨⟨y⟩⟩ := b
  simp at h
  rw [h]
theorem ba_mk {a : ByteArray} {l : List UInt8} (h : a.data.toList = l) : a = ⟨l.toArray⟩ := ba_ext (by simpa using h)
theorem itoa_len (n : Int) (hn : InI n) : (Lib.itoa n).length ≤ 21 := Lib.itoa_length_le n hn.lo hn.hi
theorem mono_le {α : Type} {f : Nat → Option α} (h : ∀ k, LeO (f k) (f (k + 1))) : ∀ {a b : Nat}, a ≤ b → ∀ {r}, f a = some r → f b = some r := by
  intro a b hab r hr
  obtain ⟨d, rfl⟩ : ∃ d, b = a + d := ⟨b - a, by omega⟩
  clear hab
  induction d with
  | zero => exact hr
  | succ d ih => exact h _ _ ih
theorem wn {n m : Nat} (h : n < m) (hm : m ≤ 140737488355328) : wrap64 ((n : Int) + 1) = ((n + 1 : Nat) : Int) := by unfold wrap64; omega
end Go.Proofs.YtdfndbegifdejaaDoor.GD
