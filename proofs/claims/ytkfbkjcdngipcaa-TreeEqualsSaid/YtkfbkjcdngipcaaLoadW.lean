import Derived.Test.YtkfbkjcdngipcaaPTreeEqualsx0
import Derived.Laws.Cells
namespace Go.Proofs.Ytkfbkjcdngipcaa.PTreeEquals
open Go.RowKit Go.Proofs.YtkfbkjcdngipcaaW.PrintWords Go.Proofs.YtkfbkjcdngipcaaW.PrintLast Go.Proofs.YtkfbkjcdngipcaaW.PrintMore
set_option linter.unusedVariables false
section
variable {P : Program} {ops : Array Oper} {rest : List Oper} {o : Oper} {a : Act} {Q : Exit → Act → World → Prop}
/-- A struct of several cells is loaded at once. -/
theorem load_event {W : World} (hgd : o.guard = none) {t : TypeId} {p : Operand} (ho : o.op = .load t p) {ad : Addr} (hp : a.eval p = .pointer (some ad)) {d : TypeDesc} (hu : P.underlying t = some d) (hd : ∃ fs, d = .struct fs) (cs : List Value) (hi0 : (P.info? t).map (fun i => i.size) = some cs.length) (hcs : ∀ j v, cs[j]? = some v → W.cell? (ad.add j) = some v)
    (h : wpList P ops Q rest (a.put o.dst (.agg cs.toArray)) W) : wpList P ops Q (o :: rest) a W := by
  obtain ⟨fs, rfl⟩ := hd
  obtain ⟨i, hi, hs⟩ := Option.map_eq_some_iff.1 hi0
  refine Kd.event_run hgd ?_ h
  have hl := run_loadCells_list (P := P) W ad cs hcs
  simp [execOp, ho, hp, Instr.loadAt, loadVar, isAgg, run_underlying hu, sizeOf, typeInfo, hi, hs, hl, Instr.sureAddr, Result.andThen]
end
theorem size34 : (Try.prog.info? 34).map (fun i => i.size) = some 23 := by kernel_rfl
theorem size54 : (Try.prog.info? 54).map (fun i => i.size) = some 5 := by kernel_rfl
end Go.Proofs.Ytkfbkjcdngipcaa.PTreeEquals
