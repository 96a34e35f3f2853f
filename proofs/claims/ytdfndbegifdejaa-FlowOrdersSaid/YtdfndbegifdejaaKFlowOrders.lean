/- What the arguments of the law FlowOrders read as. -/
import Derived.Test.YtdfndbegifdejaaGOrdersx0
import Derived.Test.YtdfndbegifdejaaOpens
namespace Go.Proofs.Ytdfndbegifdejaa.GOrders
set_option linter.unusedVariables false
open Go.RowKit Go.Proofs.YtdfndbegifdejaaW.PrintWords Go.Proofs.YtdfndbegifdejaaMine
theorem cells_3 : Try.prog.cellsOf 3 = 1 := by kernel_rfl
theorem cells_9 : Try.prog.cellsOf 9 = 1 := by kernel_rfl
theorem cells_32 : Try.prog.cellsOf 32 = 3 := by kernel_rfl
structure S32 where
  f0 : Int
  f1 : ByteArray
  f2 : Int
def k32 : Kd S32 := Kd.iso (Kd.pair (Kd.int .i64) (Kd.pair Kd.string (Kd.int .i64))) (fun x : S32 => (x.f0, x.f1, x.f2))
theorem k32_open {w : World} {x : S32} {cs : List Value} (h : k32.K w x cs) : cs = [.int .i64 x.f0, .string x.f1, .int .i64 x.f2] := by
  obtain ⟨_, _, rfl, rfl, ⟨_, _, rfl, rfl, rfl⟩⟩ := h
  exact rfl
structure WF32 (x : S32) : Prop where
  d0 : (Lit.int .i64 x.f0).wf = true
  d1 : x.f1.size ≤ reachBytes
  d2 : (Lit.int .i64 x.f2).wf = true
def bk32 (x : S32) : Nat := 1 + (x.f1.size + 1) + 1
theorem opens32 (N : Nat) : Opens Try.prog 32 k32 WF32 bk32 N := by
  refine Opens.mono (N := N + 1) ?_ (by omega)
  have hF : OpensF Try.prog 0 _ (Kd.pair (Kd.int .i64) (Kd.pair Kd.string (Kd.int .i64))) _ _ N := (opensF_cons (f := { name := "Day", type := 3, offset := 0, embedded := false, tag := "", pkgPath := "", byteOffset := 0 }) rfl (opens_int Try.underlying3 cells_3 N) (opensF_cons (f := { name := "Cur", type := 9, offset := 1, embedded := false, tag := "", pkgPath := "", byteOffset := 8 }) rfl (opens_string Try.underlying9 cells_9 N) (opensF_last (f := { name := "Amount", type := 3, offset := 2, embedded := false, tag := "", pkgPath := "", byteOffset := 24 }) rfl (opens_int Try.underlying3 cells_3 N))))
  exact opens_struct Try.underlying32 cells_32 hF (fun x : S32 => (x.f0, x.f1, x.f2)) (fun p => ⟨p.1, p.2.1, p.2.2⟩) (fun _ => rfl) WF32 bk32 (fun a h => ⟨h.1, h.2.1, h.2.2⟩) (fun a => by simp only [bk32]; omega)
end Go.Proofs.Ytdfndbegifdejaa.GOrders
