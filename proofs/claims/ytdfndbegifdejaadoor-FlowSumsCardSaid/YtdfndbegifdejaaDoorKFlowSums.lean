/- What the arguments of the law FlowSums read as. -/
import Derived.Test.YtdfndbegifdejaaDoorGDx0
import Derived.Test.YtdfndbegifdejaaDoorOpens
namespace Go.Proofs.YtdfndbegifdejaaDoor.GD
set_option linter.unusedVariables false
open Go.RowKit Go.Proofs.YtdfndbegifdejaaDoorW.PrintWords Go.Proofs.YtdfndbegifdejaaDoorMine
theorem cells_3 : Tryd.prog.cellsOf 3 = 1 := by kernel_rfl
theorem cells_9 : Tryd.prog.cellsOf 9 = 1 := by kernel_rfl
theorem cells_32 : Tryd.prog.cellsOf 32 = 3 := by kernel_rfl
structure WF32 (x : S32) : Prop where
  d0 : (Lit.int .i64 x.f0).wf = true
  d1 : x.f1.size ≤ reachBytes
  d2 : (Lit.int .i64 x.f2).wf = true
def bk32 (x : S32) : Nat := 1 + (x.f1.size + 1) + 1
theorem opens32 (N : Nat) : Opens Tryd.prog 32 k32 WF32 bk32 N := by
  refine Opens.mono (N := N + 1) ?_ (by omega)
  have hF : OpensF Tryd.prog 0 _ (Kd.pair (Kd.int .i64) (Kd.pair Kd.string (Kd.int .i64))) _ _ N := (opensF_cons (f := { name := "Day", type := 3, offset := 0, embedded := false, tag := "", pkgPath := "", byteOffset := 0 }) rfl (opens_int Tryd.underlying3 cells_3 N) (opensF_cons (f := { name := "Cur", type := 9, offset := 1, embedded := false, tag := "", pkgPath := "", byteOffset := 8 }) rfl (opens_string Tryd.underlying9 cells_9 N) (opensF_last (f := { name := "Amount", type := 3, offset := 2, embedded := false, tag := "", pkgPath := "", byteOffset := 24 }) rfl (opens_int Tryd.underlying3 cells_3 N))))
  exact opens_struct Tryd.underlying32 cells_32 hF (fun x : S32 => (x.f0, x.f1, x.f2)) (fun p => ⟨p.1, p.2.1, p.2.2⟩) (fun _ => rfl) WF32 bk32 (fun a h => ⟨h.1, h.2.1, h.2.2⟩) (fun a => by simp only [bk32]; omega)
theorem cells_22 : Tryd.prog.cellsOf 22 = 1 := by kernel_rfl
theorem bytes_32 : Tryd.prog.bytesOf 32 = 32 := by kernel_rfl
def WF22 (l : (List S32)) : Prop := l.length * 32 ≤ reachBytes ∧ ∀ a ∈ l, WF32 a
def bk22 (l : (List S32)) : Nat := dsum (l.map (fun a => bk32 a)) + 1
theorem opens22 (N : Nat) : Opens Tryd.prog 22 (Kd.slice 32 k32) WF22 bk22 N := by
  have h := Opens.mono (N := N + 1) (opens_slice Tryd.underlying22 cells_22 (opens32 N)) (show N ≤ N + 1 by omega)
  rw [bytes_32] at h
  exact h
end Go.Proofs.YtdfndbegifdejaaDoor.GD
