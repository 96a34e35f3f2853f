import Derived.Test.YtkfbkjcdngipcaaTfe
import Derived.Laws.Cover3
section
namespace Go.Proofs.YtkfbkjcdngipcaaW.PrintWords
open Go.RowKit
set_option linter.unusedVariables false
namespace Kd
section
variable {P : Program} {ops : Array Oper} {rest : List Oper} {o : Oper} {a : Act} {Q : Exit → Act → World → Prop} {α : Type}
theorem R_make0 (d : Kd α) {w0 W : World} (base e : Nat) (hgd : o.guard = none) {N : Tmp} (hd : o.dst = some N) (t : TypeId) (x y : Operand) (ho : o.op = .makeSlice t x y) (n : Nat) (hx : a.eval x = .int .i64 0) (hy : a.eval y = .int .i64 (n : Int))
    (ht : P.underlying t = some (.slice e)) (z : Value) (bytes : Nat) (hinfo : (P.info? e).map (fun i => (i.zero, i.size, i.bytes)) = some (some z, d.sz, bytes)) (hb0 : 0 < bytes)
    (hl : n * bytes ≤ 281474976710656) (HB : Below base w0 W) (hbase : base ≤ W.heap.size)
    (h : ∀ g w1, g = W.heap.size → d.R e w1 base (fun _ => True) (.slice (some ⟨g, 0, none⟩) 0 n) [] → Below base w0 w1 → Below W.heap.size W w1 → wpList P ops Q rest (a.put o.dst (.slice (some ⟨g, 0, none⟩) 0 n)) w1) : wpList P ops Q (o :: rest) a W := by
  obtain ⟨i0, hi, hzz⟩ := Option.map_eq_some_iff.1 hinfo
  simp only [Prod.mk.injEq] at hzz
  obtain ⟨hz0, hz1, hz2⟩ := hzz
  have hm : n ≤ 281474976710656 := Nat.le_trans (Nat.le_mul_of_pos_right _ hb0) hl
  have hr := run_make (P := P) W t e i0 z ht hi hz0 .i64 .i64 0 (n : Int) (by omega) (by omega)
    (by
      have h3 : ((i0.bytes * n : Nat) : Int) ≤ 281474976710656 := by rw [hz2, Nat.mul_comm]; omega
      rwa [Int.natCast_mul] at h3) (by omega)
  simp only [Int.toNat_natCast] at hr
  rw [hz1] at hr
  refine event_run hgd (v := .slice (some ⟨W.heap.size, 0, none⟩) 0 n) (w1 := W.alloc (.cells (madeCells z.cells (n * d.sz)) e)) ?_ (h _ _ rfl ⟨fun k hk => trivial, [], ⟨by simp, .inr ⟨W.heap.size, n, madeCells z.cells (n * d.sz), rfl, hbase, heap_alloc_new W _, Nat.zero_le _, by simp [maxLen]; omega, size_madeCells _ _, by simp⟩⟩, ⟨by simp, fun j p hj => by simp at hj⟩⟩ (HB.alloc hbase _) (below_alloc (Below.refl _ _) _))
  simp [execOp, ho, hx, hy, hr]
theorem cut_event {W : World} (hgd : o.guard = none) (t e : TypeId) (s x : Operand) (ho : o.op = .slice t s none (some x) none) (ht : P.underlying t = some (.slice e)) (hi : (P.info? e).isSome = true) (A : Option Addr) (n c : Nat) (m : Nat)
    (hs : a.eval s = .slice A n c) (hx : a.eval x = .int .i64 (m : Int)) (hm : m ≤ c)
    (h : wpList P ops Q rest (a.put o.dst (.slice A m c)) W) : wpList P ops Q (o :: rest) a W := by
  obtain ⟨i, hinf⟩ := Option.isSome_iff_exists.1 hi
  have hel : P.elem t = e := by simp [Program.elem, ht]
  have hu : P.underlying t = some (.slice (P.elem t)) := by rw [hel]; exact ht
  have ha : (A.map fun x => x.add 0) = A := by cases A <;> simp [Addr.add]
  have hr := run_slice_h W t A n c hu .i64 (m : Int) (by omega) (by omega)
  rw [hel] at hr
  refine event_run hgd (v := .slice A m c) (w1 := W) ?_ h
  simp [execOp, ho, hs, hx, run_sliceAt_slice (P := P) (w := W) (h := hu), hr, sizeOf, typeInfo, hinf, sliced, Result.andThen, ha]
end
end Kd
theorem eql_nil {P : Program} (w : World) (t e : TypeId) (a : Option Addr) (l c : Nat) (h : P.underlying t = some (.slice e)) : (binOp .eql t (.slice a l c) (.slice none 0 0)).run P w = .ok (.bool a.isNone) w := by
  simp only [binOp]
  simp [run_equal_slice_nil w t e a l c h]
theorem neq_nil {P : Program} (w : World) (t e : TypeId) (a : Option Addr) (l c : Nat) (h : P.underlying t = some (.slice e)) : (binOp .neq t (.slice a l c) (.slice none 0 0)).run P w = .ok (.bool (!a.isNone)) w := by
  simp only [binOp]
  simp [run_equal_slice_nil w t e a l c h]
end Go.Proofs.YtkfbkjcdngipcaaW.PrintWords
namespace Go.Proofs.Ytkfbkjcdngipcaa.PTreeEquals
open Go.RowKit Go.Proofs.YtkfbkjcdngipcaaW.PrintWords
theorem nil24 (w : World) (a : Option Addr) (l c : Nat) : (binOp .eql 24 (.slice a l c) (.slice none 0 0)).run Try.prog w = .ok (.bool a.isNone) w := eql_nil w _ _ a l c Try.underlying24
theorem nnil24 (w : World) (a : Option Addr) (l c : Nat) : (binOp .neq 24 (.slice a l c) (.slice none 0 0)).run Try.prog w = .ok (.bool (!a.isNone)) w := neq_nil w _ _ a l c Try.underlying24
theorem nil25 (w : World) (a : Option Addr) (l c : Nat) : (binOp .eql 25 (.slice a l c) (.slice none 0 0)).run Try.prog w = .ok (.bool a.isNone) w := eql_nil w _ _ a l c Try.underlying25
theorem nnil25 (w : World) (a : Option Addr) (l c : Nat) : (binOp .neq 25 (.slice a l c) (.slice none 0 0)).run Try.prog w = .ok (.bool (!a.isNone)) w := neq_nil w _ _ a l c Try.underlying25
theorem nil26 (w : World) (a : Option Addr) (l c : Nat) : (binOp .eql 26 (.slice a l c) (.slice none 0 0)).run Try.prog w = .ok (.bool a.isNone) w := eql_nil w _ _ a l c Try.underlying26
theorem nnil26 (w : World) (a : Option Addr) (l c : Nat) : (binOp .neq 26 (.slice a l c) (.slice none 0 0)).run Try.prog w = .ok (.bool (!a.isNone)) w := neq_nil w _ _ a l c Try.underlying26
theorem nil31 (w : World) (a : Option Addr) (l c : Nat) : (binOp .eql 31 (.slice a l c) (.slice none 0 0)).run Try.prog w = .ok (.bool a.isNone) w := eql_nil w _ _ a l c Try.underlying31
theorem nnil31 (w : World) (a : Option Addr) (l c : Nat) : (binOp .neq 31 (.slice a l c) (.slice none 0 0)).run Try.prog w = .ok (.bool (!a.isNone)) w := neq_nil w _ _ a l c Try.underlying31
theorem nil32 (w : World) (a : Option Addr) (l c : Nat) : (binOp .eql 32 (.slice a l c) (.slice none 0 0)).run Try.prog w = .ok (.bool a.isNone) w := eql_nil w _ _ a l c Try.underlying32
theorem nnil32 (w : World) (a : Option Addr) (l c : Nat) : (binOp .neq 32 (.slice a l c) (.slice none 0 0)).run Try.prog w = .ok (.bool (!a.isNone)) w := neq_nil w _ _ a l c Try.underlying32
end Go.Proofs.Ytkfbkjcdngipcaa.PTreeEquals
end
