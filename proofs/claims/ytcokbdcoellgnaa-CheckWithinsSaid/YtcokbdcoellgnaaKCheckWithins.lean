/- What the arguments of the law CheckWithins read as. -/
import Derived.Test.YtcokbdcoellgnaaGWithinsx0
import Derived.Test.YtcokbdcoellgnaaOpens
namespace Go.Proofs.Ytcokbdcoellgnaa.GWithins
set_option linter.unusedVariables false
open Go.RowKit Go.Proofs.YtcokbdcoellgnaaW.PrintWords Go.Proofs.YtcokbdcoellgnaaMine
theorem cells_3 : Try.prog.cellsOf 3 = 1 := by kernel_rfl
theorem cells_23 : Try.prog.cellsOf 23 = 7 := by kernel_rfl
structure S23 where
  f0 : Int
  f1 : Int
  f2 : Int
  f3 : Int
  f4 : Int
  f5 : Int
  f6 : Int
def k23 : Kd S23 := Kd.iso (Kd.pair (Kd.int .i64) (Kd.pair (Kd.int .i64) (Kd.pair (Kd.int .i64) (Kd.pair (Kd.int .i64) (Kd.pair (Kd.int .i64) (Kd.pair (Kd.int .i64) (Kd.int .i64))))))) (fun x : S23 => (x.f0, x.f1, x.f2, x.f3, x.f4, x.f5, x.f6))
theorem k23_open {w : World} {x : S23} {cs : List Value} (h : k23.K w x cs) : cs = [.int .i64 x.f0, .int .i64 x.f1, .int .i64 x.f2, .int .i64 x.f3, .int .i64 x.f4, .int .i64 x.f5, .int .i64 x.f6] := by
  obtain ⟨_, _, rfl, rfl, ⟨_, _, rfl, rfl, ⟨_, _, rfl, rfl, ⟨_, _, rfl, rfl, ⟨_, _, rfl, rfl, ⟨_, _, rfl, rfl, rfl⟩⟩⟩⟩⟩⟩ := h
  exact rfl
structure WF23 (x : S23) : Prop where
  d0 : (Lit.int .i64 x.f0).wf = true
  d1 : (Lit.int .i64 x.f1).wf = true
  d2 : (Lit.int .i64 x.f2).wf = true
  d3 : (Lit.int .i64 x.f3).wf = true
  d4 : (Lit.int .i64 x.f4).wf = true
  d5 : (Lit.int .i64 x.f5).wf = true
  d6 : (Lit.int .i64 x.f6).wf = true
def bk23 (x : S23) : Nat := 1 + 1 + 1 + 1 + 1 + 1 + 1
theorem opens23 (N : Nat) : Opens Try.prog 23 k23 WF23 bk23 N := by
  refine Opens.mono (N := N + 1) ?_ (by omega)
  have hF : OpensF Try.prog 0 _ (Kd.pair (Kd.int .i64) (Kd.pair (Kd.int .i64) (Kd.pair (Kd.int .i64) (Kd.pair (Kd.int .i64) (Kd.pair (Kd.int .i64) (Kd.pair (Kd.int .i64) (Kd.int .i64))))))) _ _ N := (opensF_cons (f := { name := "Depth", type := 3, offset := 0, embedded := false, tag := "", pkgPath := "", byteOffset := 0 }) rfl (opens_int Try.underlying3 cells_3 N) (opensF_cons (f := { name := "Horizon", type := 3, offset := 1, embedded := false, tag := "", pkgPath := "", byteOffset := 8 }) rfl (opens_int Try.underlying3 cells_3 N) (opensF_cons (f := { name := "Actions", type := 3, offset := 2, embedded := false, tag := "", pkgPath := "", byteOffset := 16 }) rfl (opens_int Try.underlying3 cells_3 N) (opensF_cons (f := { name := "Nodes", type := 3, offset := 3, embedded := false, tag := "", pkgPath := "", byteOffset := 24 }) rfl (opens_int Try.underlying3 cells_3 N) (opensF_cons (f := { name := "Cells", type := 3, offset := 4, embedded := false, tag := "", pkgPath := "", byteOffset := 32 }) rfl (opens_int Try.underlying3 cells_3 N) (opensF_cons (f := { name := "Names", type := 3, offset := 5, embedded := false, tag := "", pkgPath := "", byteOffset := 40 }) rfl (opens_int Try.underlying3 cells_3 N) (opensF_last (f := { name := "Bytes", type := 3, offset := 6, embedded := false, tag := "", pkgPath := "", byteOffset := 48 }) rfl (opens_int Try.underlying3 cells_3 N))))))))
  exact opens_struct Try.underlying23 cells_23 hF (fun x : S23 => (x.f0, x.f1, x.f2, x.f3, x.f4, x.f5, x.f6)) (fun p => ⟨p.1, p.2.1, p.2.2.1, p.2.2.2.1, p.2.2.2.2.1, p.2.2.2.2.2.1, p.2.2.2.2.2.2⟩) (fun _ => rfl) WF23 bk23 (fun a h => ⟨h.1, h.2.1, h.2.2.1, h.2.2.2.1, h.2.2.2.2.1, h.2.2.2.2.2.1, h.2.2.2.2.2.2⟩) (fun a => by simp only [bk23]; omega)
end Go.Proofs.Ytcokbdcoellgnaa.GWithins
