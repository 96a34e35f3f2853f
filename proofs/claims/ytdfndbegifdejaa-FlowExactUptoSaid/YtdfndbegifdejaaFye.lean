import Derived.Test.YtdfndbegifdejaaFyd
import Derived.Laws.Cells
import Derived.Laws.Cover3
import Derived.Laws.CopyRow
import Derived.Laws.Rows
section
namespace Go.Proofs.YtdfndbegifdejaaW.PrintWords
open Go.RowKit
set_option linter.unusedVariables false
section
variable {P : Program} {ops : Array Oper} {rest : List Oper} {o : Oper} {a : Act} {Q : Exit → Act → World → Prop}
theorem load_event {W : World} (hgd : o.guard = none) {t : TypeId} {p : Operand} (ho : o.op = .load t p) {ad : Addr} (hp : a.eval p = .pointer (some ad)) {d : TypeDesc} (hu : P.underlying t = some d) (hd : ∃ fs, d = .struct fs) (cs : List Value) (hi0 : (P.info? t).map (fun i => i.size) = some cs.length) (hcs : ∀ j v, cs[j]? = some v → W.cell? (ad.add j) = some v)
  (h : wpList P ops Q rest (a.put o.dst (.agg cs.toArray)) W) : wpList P ops Q (o :: rest) a W := by
 obtain ⟨fs, rfl⟩ := hd
 obtain ⟨i, hi, hs⟩ := Option.map_eq_some_iff.1 hi0
 refine Kd.event_run hgd ?_ h
 have hl := run_loadCells_list (P := P) W ad cs hcs
 simp [execOp, ho, hp, Instr.loadAt, loadVar, isAgg, run_underlying hu, sizeOf, typeInfo, hi, hs, hl, Instr.sureAddr, Result.andThen]
end
end Go.Proofs.YtdfndbegifdejaaW.PrintWords
namespace Go.Proofs.YtdfndbegifdejaaW.PrintWords
open Go.RowKit
set_option linter.unusedVariables false
namespace Kd
section
variable {P : Program} {ops : Array Oper} {rest : List Oper} {o : Oper} {a : Act} {Q : Exit → Act → World → Prop} {α : Type}
end
end Kd
end Go.Proofs.YtdfndbegifdejaaW.PrintWords
namespace Go.Proofs.Ytdfndbegifdejaa.PTreeEquals
open Go.RowKit Go.Proofs.YtdfndbegifdejaaW.PrintWords
end Go.Proofs.Ytdfndbegifdejaa.PTreeEquals
namespace Go.Proofs.YtdfndbegifdejaaW.PrintWords
open Go.RowKit
set_option linter.unusedVariables false
structure Other (g : Nat) (w w1 : World) : Prop where
  os : w1.os = w.os
  tape : w1.tape = w.tape
  output : w1.output = w.output
  size : w1.heap.size = w.heap.size
  block : ∀ k, k ≠ g → w1.heap[k]? = w.heap[k]?
theorem Other.set (w : World) (g : Nat) (cs : Array Value) : Other g w (w.setRow g cs) := ⟨rfl, rfl, rfl, setRow_size w g cs, fun k hk => setRow_other w g k cs hk⟩
theorem Other.below {B g : Nat} {u w w1 : World} (h : Other g w w1) (hb : Below B u w) (hg : B ≤ g) : Below B u w1 :=
 ⟨h.os.trans hb.os, h.tape.trans hb.tape, h.output.trans hb.output, by rw [h.size]; exact hb.size, fun k hk => (h.block k (by omega)).trans (hb.block k hk)⟩
theorem Other.blk {g k : Nat} {w w1 : World} {o : Obj} (h : Other g w w1) (hb : w.heap[k]? = some o) (hk : k ≠ g) : w1.heap[k]? = some o := (h.block k hk).trans hb
def CSat (w : World) (ad : Addr) (cs : List Value) : Prop := ∀ j v, cs[j]? = some v → w.cell? (ad.add j) = some v
theorem CSat.below {w w1 : World} {ad : Addr} {cs : List Value} (h : CSat w ad cs) (hb : Below w.heap.size w w1) : CSat w1 ad cs := fun j v hj => (hb.cell (World.block_lt_of_cell? _ _ (h j v hj))).trans (h j v hj)
section
variable {P : Program} {o : Oper} {a : Act}
theorem ld_run {W : World} {t : TypeId} {p : Operand} (ho : o.op = .load t p) {ad : Addr} (hp : a.eval p = .pointer (some ad)) {d : TypeDesc} (hu : P.underlying t = some d) (hd : match d with | .struct _ => False | .array _ _ => False | _ => True) (v : Value) (hc : W.cell? ad = some v) :
  (execOp a.eval o).run P W = .ok (.value v) W := by
 cases d <;> first | exact hd.elim | simp [execOp, ho, hp, Instr.loadAt, loadVar, isAgg, run_underlying hu, Instr.sureAddr, Result.andThen, run_load, hc]
theorem lds_run {W : World} {t : TypeId} {p : Operand} (ho : o.op = .load t p) {ad : Addr} (hp : a.eval p = .pointer (some ad)) {d : TypeDesc} (hu : P.underlying t = some d) (hd : ∃ fs, d = .struct fs) (cs : List Value) (hi0 : (P.info? t).map (fun i => i.size) = some cs.length) (hcs : ∀ j v, cs[j]? = some v → W.cell? (ad.add j) = some v) :
  (execOp a.eval o).run P W = .ok (.value (.agg cs.toArray)) W := by
 obtain ⟨fs, rfl⟩ := hd
 obtain ⟨i, hi, hs⟩ := Option.map_eq_some_iff.1 hi0
 have hl := run_loadCells_list (P := P) W ad cs hcs
 simp [execOp, ho, hp, Instr.loadAt, loadVar, isAgg, run_underlying hu, sizeOf, typeInfo, hi, hs, hl, Instr.sureAddr, Result.andThen]
theorem blk_cs {W : World} {g j n : Nat} {cur : Array Value} {ty : TypeId} (hb : W.heap[g]? = some (.cells cur ty (0, 0))) (cs : List Value) (he : (cur.toList.drop j).take n = cs) : ∀ q v, cs[q]? = some v → W.cell? ((⟨g, j, none⟩ : Addr).add q) = some v := by
 intro q v hq
 have h1 : (⟨g, j, none⟩ : Addr).add q = ⟨g, j + q, none⟩ := by unfold Addr.add; split <;> simp_all
 rw [h1, blk_cell hb (j + q)]
 subst he
 rw [List.getElem?_take] at hq
 split at hq
 ·rw [List.getElem?_drop] at hq; simpa using hq
 ·cases hq
theorem ldb_run {W : World} {t : TypeId} {p : Operand} (ho : o.op = .load t p) {g j : Nat} (hp : a.eval p = .pointer (some ⟨g, j, none⟩)) {d : TypeDesc} (hu : P.underlying t = some d) (hd : ∃ fs, d = .struct fs)
 {cur : Array Value} {ty : TypeId} (hb : W.heap[g]? = some (.cells cur ty (0, 0))) (n : Nat) (hi : (P.info? t).map (fun i => i.size) = some n) (cs : List Value) (he : (cur.toList.drop j).take n = cs) (hn : cs.length = n) :
 (execOp a.eval o).run P W = .ok (.value (.agg cs.toArray)) W := lds_run ho hp hu hd cs (by rw [hi, hn]) (blk_cs hb cs he)
theorem st_run {W : World} {t : TypeId} {p v : Operand} (ho : o.op = .store t p v) {g j : Nat} (hp : a.eval p = .pointer (some ⟨g, j, none⟩)) {u : Value} (hv : a.eval v = u)
  {cur : Array Value} {ty : TypeId} (hb : W.heap[g]? = some (.cells cur ty (0, 0))) (n : Nat) (hi : (P.info? t).map (fun i => i.size) = some n) (hn : u.cells.toList.length = n) (hfit : j + n ≤ cur.size) (h1 : ∀ x ∈ u.cells.toList, x.oneCell' = true) (cur' : Array Value)
  (he : (cur.toList.take j ++ u.cells.toList ++ cur.toList.drop (j + n)).toArray = cur') :
  ∃ W1, (execOp a.eval o).run P W = .ok .skip W1 ∧ W1.heap[g]? = some (.cells cur' ty (0, 0)) ∧ Other g W W1 := by
 subst hn
 subst he
 have hst := run_storeCells_at P g j ty u.cells.toList 0 cur W hb (by omega) h1
 simp only [Nat.add_zero] at hst
 obtain ⟨i, hinf, hsz⟩ := Option.map_eq_some_iff.1 hi
 refine ⟨W.setRow g _, ?_, setRow_heap W g cur _ ty _ hb, Other.set W g _⟩
 have hz : u.cells.size = i.size := by rw [hsz]; simp
 simp [execOp, ho, hp, hv, Instr.storeAt, Instr.sureAddr, storeVar, sizeOf, typeInfo, hinf, hz, hst, Result.andThen]
end
section
variable {P : Program} {ops : Array Oper} {rest : List Oper} {o : Oper} {a : Act} {Q : Exit → Act → World → Prop}
theorem st_event {W : World} (hgd : o.guard = none) (hN : o.dst = none) {t : TypeId} {p v : Operand} (ho : o.op = .store t p v) {g j : Nat} (hp : a.eval p = .pointer (some ⟨g, j, none⟩)) {u : Value} (hv : a.eval v = u)
  {cur : Array Value} {ty : TypeId} (hb : W.heap[g]? = some (.cells cur ty (0, 0))) (n : Nat) (hi : (P.info? t).map (fun i => i.size) = some n) (hn : u.cells.toList.length = n) (hfit : j + n ≤ cur.size) (h1 : ∀ x ∈ u.cells.toList, x.oneCell' = true) (cur' : Array Value)
  (he : (cur.toList.take j ++ u.cells.toList ++ cur.toList.drop (j + n)).toArray = cur')
  (h : ∀ W1, W1.heap[g]? = some (.cells cur' ty (0, 0)) → Other g W W1 → wpList P ops Q rest a W1) : wpList P ops Q (o :: rest) a W := by
 obtain ⟨W1, hrun, h2, h3⟩ := st_run (P := P) (W := W) ho hp hv hb n hi hn hfit h1 cur' he
 refine wpList_plain hgd fun K hK => ?_
 unfold Oper.wp
 rw [hrun]
 show K (a.put o.dst undef) W1
 rw [hN]
 exact hK _ _ (h W1 h2 h3)
theorem ld_event {W : World} (hgd : o.guard = none) {t : TypeId} {p : Operand} (ho : o.op = .load t p) {ad : Addr} (hp : a.eval p = .pointer (some ad)) {d : TypeDesc} (hu : P.underlying t = some d) (hd : match d with | .struct _ => False | .array _ _ => False | _ => True) (v : Value) (hc : W.cell? ad = some v)
 (h : wpList P ops Q rest (a.put o.dst v) W) : wpList P ops Q (o :: rest) a W := Kd.event_run hgd (ld_run ho hp hu hd v hc) h
theorem ldb_event {W : World} (hgd : o.guard = none) {t : TypeId} {p : Operand} (ho : o.op = .load t p) {g j : Nat} (hp : a.eval p = .pointer (some ⟨g, j, none⟩)) {d : TypeDesc} (hu : P.underlying t = some d) (hd : ∃ fs, d = .struct fs)
 {cur : Array Value} {ty : TypeId} (hb : W.heap[g]? = some (.cells cur ty (0, 0))) (n : Nat) (hi : (P.info? t).map (fun i => i.size) = some n) (cs : List Value) (he : (cur.toList.drop j).take n = cs) (hn : cs.length = n)
 (h : wpList P ops Q rest (a.put o.dst (.agg cs.toArray)) W) : wpList P ops Q (o :: rest) a W := Kd.event_run hgd (ldb_run ho hp hu hd hb n hi cs he hn) h
theorem stw_event {W : World} (hgd : o.guard = none) (hN : o.dst = none) {t : TypeId} {p v : Operand} (ho : o.op = .store t p v) {g : Nat} (hp : a.eval p = .pointer (some ⟨g, 0, none⟩)) {cs : List Value} (hv : a.eval v = .agg cs.toArray)
  {cur : Array Value} {ty : TypeId} (hb : W.heap[g]? = some (.cells cur ty (0, 0))) (hi : (P.info? t).map (fun i => i.size) = some cs.length) (hc : cur.size = cs.length) (h1 : ∀ x ∈ cs, x.oneCell' = true)
  (h : ∀ W1, W1.heap[g]? = some (.cells cs.toArray ty (0, 0)) → Other g W W1 → wpList P ops Q rest a W1) : wpList P ops Q (o :: rest) a W :=
 st_event hgd hN ho (j := 0) hp hv hb cs.length hi (by simp [Value.cells]) (by omega) (by simpa [Value.cells] using h1) cs.toArray (by simp [Value.cells, ← hc]) h
theorem ldw_event {W : World} (hgd : o.guard = none) {t : TypeId} {p : Operand} (ho : o.op = .load t p) {g : Nat} (hp : a.eval p = .pointer (some ⟨g, 0, none⟩)) {d : TypeDesc} (hu : P.underlying t = some d) (hd : ∃ fs, d = .struct fs)
  {cs : List Value} {ty : TypeId} (hb : W.heap[g]? = some (.cells cs.toArray ty (0, 0))) (hi : (P.info? t).map (fun i => i.size) = some cs.length)
  (h : wpList P ops Q rest (a.put o.dst (.agg cs.toArray)) W) : wpList P ops Q (o :: rest) a W :=
 ldb_event hgd ho hp hu hd (j := 0) hb cs.length hi cs (by simp) rfl h
end
end Go.Proofs.YtdfndbegifdejaaW.PrintWords
end
