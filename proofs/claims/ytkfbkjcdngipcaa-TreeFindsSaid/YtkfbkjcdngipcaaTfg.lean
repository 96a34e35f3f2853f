import Derived.Test.YtkfbkjcdngipcaaTff
import Derived.Laws.CopyRow
import Derived.Laws.Rows
section
namespace Go.Proofs.YtkfbkjcdngipcaaW.PrintWords
open Go.RowKit
set_option linter.unusedVariables false
structure Other (g : Nat) (w w1 : World) : Prop where
  os : w1.os = w.os
  tape : w1.tape = w.tape
  output : w1.output = w.output
  size : w1.heap.size = w.heap.size
  block : ∀ k, k ≠ g → w1.heap[k]? = w.heap[k]?
theorem Other.set (w : World) (g : Nat) (cs : Array Value) : Other g w (w.setRow g cs) := ⟨rfl, rfl, rfl, setRow_size w g cs, fun k hk => setRow_other w g k cs hk⟩
theorem Other.below {B g : Nat} {u w w1 : World} (h : Other g w w1) (hb : Below B u w) (hg : B ≤ g) : Below B u w1 :=
  ⟨h.os.trans hb.os, h.tape.trans hb.tape, h.output.trans hb.output, by rw [h.size]; exact hb.size, fun k hk => (h.block k (by omega)).trans (hb.block k hk)⟩
theorem Other.blk {g k : Nat} {w w1 : World} {o : Obj} (h : Other g w w1) (hb : w.heap[k]? = some o) (hk : k ≠ g) : w1.heap[k]? = some o := (h.block k hk).trans hb
def CSat (w : World) (ad : Addr) (cs : List Value) : Prop := ∀ j v, cs[j]? = some v → w.cell? (ad.add j) = some v
theorem CSat.below {w w1 : World} {ad : Addr} {cs : List Value} (h : CSat w ad cs) (hb : Below w.heap.size w w1) : CSat w1 ad cs := fun j v hj => (hb.cell (World.block_lt_of_cell? _ _ (h j v hj))).trans (h j v hj)
theorem CSat.of_get {w : World} {ad : Addr} {n : Nat} {cs : List Value} (h : ∀ j v, cs[j]? = some v → w.cell? (ad.add (n + j)) = some v) (k : Nat) (hk : 0 < k) : CSat w ⟨(ad.add n).block, (ad.add n).off + k, none⟩ (cs.drop k) := by
  intro j v hj
  rw [List.getElem?_drop] at hj
  have h1 := h (k + j) v hj
  rw [add_field _ _ _ (by omega)] at h1
  have h2 : (⟨(ad.add n).block, (ad.add n).off + k, none⟩ : Addr).add j = ⟨(ad.add n).block, (ad.add n).off + (k + j), none⟩ := by
    unfold Addr.add
    by_cases hj0 : j = 0
    · subst hj0; simp
    · simp [hj0, Nat.add_assoc]
  rw [h2]
  exact h1
section
variable {P : Program} {o : Oper} {a : Act}
theorem ld_run {W : World} {t : TypeId} {p : Operand} (ho : o.op = .load t p) {ad : Addr} (hp : a.eval p = .pointer (some ad)) {d : TypeDesc} (hu : P.underlying t = some d) (hd : match d with | .struct _ => False | .array _ _ => False | _ => True) (v : Value) (hc : W.cell? ad = some v) :
    (execOp a.eval o).run P W = .ok (.value v) W := by
  cases d <;> first | exact hd.elim | simp [execOp, ho, hp, Instr.loadAt, loadVar, isAgg, run_underlying hu, Instr.sureAddr, Result.andThen, run_load, hc]
theorem lds_run {W : World} {t : TypeId} {p : Operand} (ho : o.op = .load t p) {ad : Addr} (hp : a.eval p = .pointer (some ad)) {d : TypeDesc} (hu : P.underlying t = some d) (hd : ∃ fs, d = .struct fs) (cs : List Value) (hi0 : (P.info? t).map (fun i => i.size) = some cs.length) (hcs : ∀ j v, cs[j]? = some v → W.cell? (ad.add j) = some v) :
    (execOp a.eval o).run P W = .ok (.value (.agg cs.toArray)) W := by
  obtain ⟨fs, rfl⟩ := hd
  obtain ⟨i, hi, hs⟩ := Option.map_eq_some_iff.1 hi0
  have hl := run_loadCells_list (P := P) W ad cs hcs
  simp [execOp, ho, hp, Instr.loadAt, loadVar, isAgg, run_underlying hu, sizeOf, typeInfo, hi, hs, hl, Instr.sureAddr, Result.andThen]
theorem blk_cs {W : World} {g j n : Nat} {cur : Array Value} {ty : TypeId} (hb : W.heap[g]? = some (.cells cur ty (0, 0))) (cs : List Value) (he : (cur.toList.drop j).take n = cs) : ∀ q v, cs[q]? = some v → W.cell? ((⟨g, j, none⟩ : Addr).add q) = some v := by
  intro q v hq
  have h1 : (⟨g, j, none⟩ : Addr).add q = ⟨g, j + q, none⟩ := by unfold Addr.add; split <;> simp_all
  rw [h1, blk_cell hb (j + q)]
  subst he
  rw [List.getElem?_take] at hq
  split at hq
  · rw [List.getElem?_drop] at hq; simpa using hq
  · cases hq
theorem ldb_run {W : World} {t : TypeId} {p : Operand} (ho : o.op = .load t p) {g j : Nat} (hp : a.eval p = .pointer (some ⟨g, j, none⟩)) {d : TypeDesc} (hu : P.underlying t = some d) (hd : ∃ fs, d = .struct fs)
    {cur : Array Value} {ty : TypeId} (hb : W.heap[g]? = some (.cells cur ty (0, 0))) (n : Nat) (hi : (P.info? t).map (fun i => i.size) = some n) (cs : List Value) (he : (cur.toList.drop j).take n = cs) (hn : cs.length = n) :
    (execOp a.eval o).run P W = .ok (.value (.agg cs.toArray)) W := lds_run ho hp hu hd cs (by rw [hi, hn]) (blk_cs hb cs he)
theorem st_run {W : World} {t : TypeId} {p v : Operand} (ho : o.op = .store t p v) {g j : Nat} (hp : a.eval p = .pointer (some ⟨g, j, none⟩)) {u : Value} (hv : a.eval v = u)
    {cur : Array Value} {ty : TypeId} (hb : W.heap[g]? = some (.cells cur ty (0, 0))) (n : Nat) (hi : (P.info? t).map (fun i => i.size) = some n) (hn : u.cells.toList.length = n) (hfit : j + n ≤ cur.size) (h1 : ∀ x ∈ u.cells.toList, x.oneCell' = true) (cur' : Array Value)
    (he : (cur.toList.take j ++ u.cells.toList ++ cur.toList.drop (j + n)).toArray = cur') :
    ∃ W1, (execOp a.eval o).run P W = .ok .skip W1 ∧ W1.heap[g]? = some (.cells cur' ty (0, 0)) ∧ Other g W W1 := by
  subst hn
  subst he
  have hst := run_storeCells_at P g j ty u.cells.toList 0 cur W hb (by omega) h1
  simp only [Nat.add_zero] at hst
  obtain ⟨i, hinf, hsz⟩ := Option.map_eq_some_iff.1 hi
  refine ⟨W.setRow g _, ?_, setRow_heap W g cur _ ty _ hb, Other.set W g _⟩
  have hz : u.cells.size = i.size := by rw [hsz]; simp
  simp [execOp, ho, hp, hv, Instr.storeAt, Instr.sureAddr, storeVar, sizeOf, typeInfo, hinf, hz, hst, Result.andThen]
end
section
variable {P : Program} {ops : Array Oper} {rest : List Oper} {o : Oper} {a : Act} {Q : Exit → Act → World → Prop}
theorem st_event {W : World} (hgd : o.guard = none) (hN : o.dst = none) {t : TypeId} {p v : Operand} (ho : o.op = .store t p v) {g j : Nat} (hp : a.eval p = .pointer (some ⟨g, j, none⟩)) {u : Value} (hv : a.eval v = u)
    {cur : Array Value} {ty : TypeId} (hb : W.heap[g]? = some (.cells cur ty (0, 0))) (n : Nat) (hi : (P.info? t).map (fun i => i.size) = some n) (hn : u.cells.toList.length = n) (hfit : j + n ≤ cur.size) (h1 : ∀ x ∈ u.cells.toList, x.oneCell' = true) (cur' : Array Value)
    (he : (cur.toList.take j ++ u.cells.toList ++ cur.toList.drop (j + n)).toArray = cur')
    (h : ∀ W1, W1.heap[g]? = some (.cells cur' ty (0, 0)) → Other g W W1 → wpList P ops Q rest a W1) : wpList P ops Q (o :: rest) a W := by
  obtain ⟨W1, hrun, h2, h3⟩ := st_run (P := P) (W := W) ho hp hv hb n hi hn hfit h1 cur' he
  refine wpList_plain hgd fun K hK => ?_
  unfold Oper.wp
  rw [hrun]
  show K (a.put o.dst undef) W1
  rw [hN]
  exact hK _ _ (h W1 h2 h3)
theorem st_step {W : World} {Kc : Act → World → Prop} (hw : Region.wanted o (yielded ops a.tmps) = true) (hN : o.dst = none) {t : TypeId} {p v : Operand} (ho : o.op = .store t p v) {g j : Nat} (hp : a.eval p = .pointer (some ⟨g, j, none⟩)) {u : Value} (hv : a.eval v = u)
    {cur : Array Value} {ty : TypeId} (hb : W.heap[g]? = some (.cells cur ty (0, 0))) (n : Nat) (hi : (P.info? t).map (fun i => i.size) = some n) (hn : u.cells.toList.length = n) (hfit : j + n ≤ cur.size) (h1 : ∀ x ∈ u.cells.toList, x.oneCell' = true) (cur' : Array Value)
    (he : (cur.toList.take j ++ u.cells.toList ++ cur.toList.drop (j + n)).toArray = cur')
    (h : ∀ W1, W1.heap[g]? = some (.cells cur' ty (0, 0)) → Other g W W1 → Kc (a.put o.dst undef) W1) : if Region.wanted o (yielded ops a.tmps) = true then Oper.wp P o a W Kc Q else Kc (a.put none undef) W := by
  obtain ⟨W1, hrun, h2, h3⟩ := st_run (P := P) (W := W) ho hp hv hb n hi hn hfit h1 cur' he
  rw [if_pos hw]
  unfold Oper.wp
  rw [hrun]
  exact h W1 h2 h3
theorem ld_event {W : World} (hgd : o.guard = none) {t : TypeId} {p : Operand} (ho : o.op = .load t p) {ad : Addr} (hp : a.eval p = .pointer (some ad)) {d : TypeDesc} (hu : P.underlying t = some d) (hd : match d with | .struct _ => False | .array _ _ => False | _ => True) (v : Value) (hc : W.cell? ad = some v)
    (h : wpList P ops Q rest (a.put o.dst v) W) : wpList P ops Q (o :: rest) a W := Kd.event_run hgd (ld_run ho hp hu hd v hc) h
theorem ldb_event {W : World} (hgd : o.guard = none) {t : TypeId} {p : Operand} (ho : o.op = .load t p) {g j : Nat} (hp : a.eval p = .pointer (some ⟨g, j, none⟩)) {d : TypeDesc} (hu : P.underlying t = some d) (hd : ∃ fs, d = .struct fs)
    {cur : Array Value} {ty : TypeId} (hb : W.heap[g]? = some (.cells cur ty (0, 0))) (n : Nat) (hi : (P.info? t).map (fun i => i.size) = some n) (cs : List Value) (he : (cur.toList.drop j).take n = cs) (hn : cs.length = n)
    (h : wpList P ops Q rest (a.put o.dst (.agg cs.toArray)) W) : wpList P ops Q (o :: rest) a W := Kd.event_run hgd (ldb_run ho hp hu hd hb n hi cs he hn) h
theorem stw_event {W : World} (hgd : o.guard = none) (hN : o.dst = none) {t : TypeId} {p v : Operand} (ho : o.op = .store t p v) {g : Nat} (hp : a.eval p = .pointer (some ⟨g, 0, none⟩)) {cs : List Value} (hv : a.eval v = .agg cs.toArray)
    {cur : Array Value} {ty : TypeId} (hb : W.heap[g]? = some (.cells cur ty (0, 0))) (hi : (P.info? t).map (fun i => i.size) = some cs.length) (hc : cur.size = cs.length) (h1 : ∀ x ∈ cs, x.oneCell' = true)
    (h : ∀ W1, W1.heap[g]? = some (.cells cs.toArray ty (0, 0)) → Other g W W1 → wpList P ops Q rest a W1) : wpList P ops Q (o :: rest) a W :=
  st_event hgd hN ho (j := 0) hp hv hb cs.length hi (by simp [Value.cells]) (by omega) (by simpa [Value.cells] using h1) cs.toArray (by simp [Value.cells, ← hc]) h
theorem ldw_event {W : World} (hgd : o.guard = none) {t : TypeId} {p : Operand} (ho : o.op = .load t p) {g : Nat} (hp : a.eval p = .pointer (some ⟨g, 0, none⟩)) {d : TypeDesc} (hu : P.underlying t = some d) (hd : ∃ fs, d = .struct fs)
    {cs : List Value} {ty : TypeId} (hb : W.heap[g]? = some (.cells cs.toArray ty (0, 0))) (hi : (P.info? t).map (fun i => i.size) = some cs.length)
    (h : wpList P ops Q rest (a.put o.dst (.agg cs.toArray)) W) : wpList P ops Q (o :: rest) a W :=
  ldb_event hgd ho hp hu hd (j := 0) hb cs.length hi cs (by simp) rfl h
end
end Go.Proofs.YtkfbkjcdngipcaaW.PrintWords
end
section
namespace Go.Proofs.YtkfbkjcdngipcaaW.PrintWords
open Go.RowKit
set_option linter.unusedVariables false
namespace Kd
section
variable {α : Type} {e : Nat} {d d' : Kd α} {z : α} {w : World} {xs : List α} {cs : List Value}
theorem sB_one (h : (sliceB e d z).K w xs cs) : ∃ v, cs = [v] := by
  rcases h with ⟨c, rfl, _⟩ | ⟨A, c, rfl, _⟩ <;> exact ⟨_, rfl⟩
theorem C_pre {A : Option Addr} {n : Nat} {ys : List α} (h : d.C w A (xs.length + n) (xs ++ ys)) : d.C w A xs.length xs := by
  have hl := h.1
  rw [List.length_append] at hl
  have h2 : d.C w A (xs ++ ys).length (xs ++ ys) := by rw [List.length_append, hl]; exact h
  have := C_take (m := xs.length) h2 (by simp)
  rwa [List.take_left] at this
theorem sB_read {v : Value} (h : (sliceB e d z).K w xs [v]) : ∃ A c, v = .slice A xs.length c ∧ xs.length ≤ c ∧ d.C w A xs.length xs ∧ ((A = none ∧ xs = []) ∨ ∃ ad, A = some ad ∧ xs.length + 1 ≤ c ∧ d.C w A (xs.length + 1) (xs ++ [z])) := by
  rcases h with ⟨c, h1, rfl⟩ | ⟨A, c, h1, hl, hc⟩
  · injection h1 with h1
    exact ⟨none, c, h1, Nat.zero_le _, C_nil d w, .inl ⟨rfl, rfl⟩⟩
  · injection h1 with h1
    obtain ⟨ad, hA, _⟩ := hc.2.2 (Nat.succ_pos _)
    exact ⟨A, c, h1, by omega, C_pre hc, .inr ⟨ad, hA, hl, hc⟩⟩
theorem sB_slice {w2 : World} (hs : d.sz = d'.sz) (hd : ∀ w x cs, d.K w x cs → d'.K w x cs) (h : (sliceB e d z).K w xs cs) : (slice e d').K w xs cs := by
  obtain ⟨v, rfl⟩ := sB_one h
  obtain ⟨A, c, rfl, hl, hc, _⟩ := sB_read h
  exact ⟨A, c, rfl, hl, C_imp hs hd hc⟩
end
section
variable {α : Type} {F : Kd α → Kd α} {sz : Nat} {E : List Nat} {hs : ∀ n, (upto F sz E n).sz = sz} {hE : ∀ n q, q ∈ (upto F sz E n).E → q ∈ E} {e : Nat} {z : α} {w : World} {xs : List α} {cs : List Value}
theorem sB_fix {n : Nat} (h : (sliceB e (upto F sz E n) z).K w xs cs) : (sliceB e (fix F sz E hs hE) z).K w xs cs := by
  rcases h with h | ⟨A, c, rfl, hl, hc⟩
  · exact .inl h
  · exact .inr ⟨A, c, rfl, hl, fix_C hc⟩
theorem sB_backM (hm : Mono F) {base : Nat} {ok : Nat → Prop} (h : (sliceB e (fix F sz E hs hE) z).M w base ok xs cs) : ∃ n, (sliceB e (upto F sz E n) z).M w base ok xs cs := by
  rcases h with h | ⟨A, c, rfl, hc⟩
  · exact ⟨0, .inl h⟩
  · obtain ⟨n, hn⟩ := fix_R_back hm hc
    exact ⟨n, .inr ⟨A, c, rfl, hn⟩⟩
end
def Fr {α : Type} (d : Kd α) (b : Nat) (w : World) (x : α) (cs : List Value) : Prop := d.M w b (fun k => b ≤ k) x cs
section
variable {α : Type} {d : Kd α} {b b' base : Nat} {w w1 : World} {x : α} {cs : List Value}
theorem Fr.of {ok : Nat → Prop} (h : d.M w b ok x cs) : Fr d b w x cs := d.M_mono (fun k hk => hk.2.1) (d.M_bound h)
theorem Fr.lower (h : Fr d b w x cs) (hb : b' ≤ b) : Fr d b' w x cs := d.M_mono (fun k hk => Nat.le_trans hb hk) (d.M_lower hb h)
theorem Fr.below (h : Fr d b w x cs) (hb : Below w.heap.size w w1) : Fr d b w1 x cs := M_below h hb
theorem Fr.other {g : Nat} (h : Fr d b w x cs) (ho : Other g w w1) (hg : g < b) : Fr d b w1 x cs := M_step h (fun k hk _ => ho.block k (by omega))
theorem Fr.grown {row : Option Nat} (h : Fr d b w x cs) (ho : w.grownBy w1 row) (hg : ∀ k, row = some k → k < b) : Fr d b w1 x cs := M_step h (fun k hk hlt => ho.block k hlt (fun he => by have := hg k he.symm; omega))
theorem Fr.typed {row : Option Nat} {e : Nat} (h : Fr d b w x cs) (hg : w.grownBy w1 row) (hv : ∀ k, row = some k → ∃ cells, w.heap[k]? = some (.cells cells e (0, 0))) (ht : ∀ q, q ∈ d.E → q ≠ e) : Fr d b w1 x cs := by
  have h1 := d.M_bound h
  refine d.M_mono (fun k hk => hk.1) (d.M_move (fun k hk => ?_) h1)
  obtain ⟨_, _, hlt, q, hq, cells, hc⟩ := hk
  refine hg.block k hlt (fun he => ?_)
  obtain ⟨cells', hc'⟩ := hv k he.symm
  rw [hc] at hc'
  injection hc' with hc'
  injection hc' with _ h2
  exact ht q hq h2
theorem Fr.K (h : Fr d b w x cs) : d.K w x cs := d.K_of_M h
end
end Kd
end Go.Proofs.YtkfbkjcdngipcaaW.PrintWords
namespace Go.Proofs.Ytkfbkjcdngipcaa.PTreeEquals
open Go.RowKit Go.Proofs.YtkfbkjcdngipcaaW.PrintWords Go.Proofs.YtkfbkjcdngipcaaW.PrintLast Go.Proofs.YtkfbkjcdngipcaaW.PrintMore
theorem k54B_mkM (w : World) (base : Nat) (ok : Nat → Prop) (x : S54) {v3 : Value} (g3 : (Kd.sliceB 23 k23 b23).M w base ok x.f3 [v3]) {v4 : Value} (g4 : (Kd.sliceB 54 k54B b54).M w base ok x.f4 [v4]) : k54B.M w base ok x [.int .i64 x.f0, .int .i64 x.f1, .string x.f2, v3, v4] := by
  obtain ⟨n4, r4⟩ := Kd.sB_backM mono54B g4
  exact ⟨n4 + 1, ⟨[.int .i64 x.f0], [.int .i64 x.f1, .string x.f2, v3, v4], rfl, rfl, ⟨[.int .i64 x.f1], [.string x.f2, v3, v4], rfl, rfl, ⟨[.string x.f2], [v3, v4], rfl, rfl, ⟨[v3], [v4], rfl, g3, r4⟩⟩⟩⟩⟩
theorem k54B_open {w : World} {x : S54} {cs : List Value} (h : k54B.K w x cs) : ∃ v3 v4, cs = [.int .i64 x.f0, .int .i64 x.f1, .string x.f2, v3, v4] ∧ (Kd.sliceB 23 k23 b23).K w x.f3 [v3] ∧ (Kd.sliceB 54 k54B b54).K w x.f4 [v4] := by
  obtain ⟨n, h⟩ := h
  cases n with
  | zero => exact h.elim
  | succ n =>
    obtain ⟨_, _, rfl, rfl, ⟨_, _, rfl, rfl, ⟨_, _, rfl, rfl, ⟨_, _, rfl, g3, g4⟩⟩⟩⟩ := h
    obtain ⟨v3, rfl⟩ := Kd.sB_one g3
    obtain ⟨v4, rfl⟩ := Kd.sB_one g4
    exact ⟨v3, v4, rfl, g3, Kd.sB_fix g4⟩
theorem k54B_K : ∀ n w x cs, (Kd.upto F54B 5 [23, 54] n).K w x cs → k54.K w x cs
  | 0, _, _, _, h => h.elim
  | n + 1, w, x, cs, h => by
    obtain ⟨_, _, rfl, rfl, ⟨_, _, rfl, rfl, ⟨_, _, rfl, rfl, ⟨_, _, rfl, g3, g4⟩⟩⟩⟩ := h
    obtain ⟨A3, c3, rfl, l3, h3⟩ := Kd.sB_slice (w2 := w) (d' := k23) rfl (fun _ _ _ h => h) g3
    obtain ⟨A4, c4, rfl, l4, h4⟩ := Kd.sB_slice (w2 := w) (d' := k54) (sz54B n) (k54B_K n) g4
    exact k54_mk w x l3 h3 l4 h4
theorem k54B_read {w : World} {x : S54} {cs : List Value} (h : k54B.K w x cs) : k54.K w x cs := by
  obtain ⟨n, h⟩ := h
  exact k54B_K n w x cs h
theorem k34B_mkM (w : World) (base : Nat) (ok : Nat → Prop) (x : S34) {v21 : Value} (g21 : (Kd.sliceB 54 k54B b54).M w base ok x.f7 [v21]) {v22 : Value} (g22 : (Kd.sliceB 34 k34B b34).M w base ok x.f8 [v22]) : k34B.M w base ok x [.int .i64 x.f0, .string x.f1, .string x.f2, .string x.f3, .int .i64 x.f4, .int .i64 x.f5.f0, .int .i64 x.f5.f1, .int .i64 x.f5.f2, .int .i64 x.f6.f0, .int .i64 x.f6.f1, .int .i64 x.f6.f2, .int .i64 x.f6.f3, .int .i64 x.f6.f4.f0, .int .i64 x.f6.f4.f1, .int .i64 x.f6.f4.f2, .int .i64 x.f6.f5.f0, .int .i64 x.f6.f5.f1, .int .i64 x.f6.f5.f2, .int .i64 x.f6.f6.f0, .int .i64 x.f6.f6.f1, .int .i64 x.f6.f7, v21, v22] := by
  obtain ⟨n22, r22⟩ := Kd.sB_backM mono34B g22
  exact ⟨n22 + 1, ⟨[.int .i64 x.f0], [.string x.f1, .string x.f2, .string x.f3, .int .i64 x.f4, .int .i64 x.f5.f0, .int .i64 x.f5.f1, .int .i64 x.f5.f2, .int .i64 x.f6.f0, .int .i64 x.f6.f1, .int .i64 x.f6.f2, .int .i64 x.f6.f3, .int .i64 x.f6.f4.f0, .int .i64 x.f6.f4.f1, .int .i64 x.f6.f4.f2, .int .i64 x.f6.f5.f0, .int .i64 x.f6.f5.f1, .int .i64 x.f6.f5.f2, .int .i64 x.f6.f6.f0, .int .i64 x.f6.f6.f1, .int .i64 x.f6.f7, v21, v22], rfl, rfl, ⟨[.string x.f1], [.string x.f2, .string x.f3, .int .i64 x.f4, .int .i64 x.f5.f0, .int .i64 x.f5.f1, .int .i64 x.f5.f2, .int .i64 x.f6.f0, .int .i64 x.f6.f1, .int .i64 x.f6.f2, .int .i64 x.f6.f3, .int .i64 x.f6.f4.f0, .int .i64 x.f6.f4.f1, .int .i64 x.f6.f4.f2, .int .i64 x.f6.f5.f0, .int .i64 x.f6.f5.f1, .int .i64 x.f6.f5.f2, .int .i64 x.f6.f6.f0, .int .i64 x.f6.f6.f1, .int .i64 x.f6.f7, v21, v22], rfl, rfl, ⟨[.string x.f2], [.string x.f3, .int .i64 x.f4, .int .i64 x.f5.f0, .int .i64 x.f5.f1, .int .i64 x.f5.f2, .int .i64 x.f6.f0, .int .i64 x.f6.f1, .int .i64 x.f6.f2, .int .i64 x.f6.f3, .int .i64 x.f6.f4.f0, .int .i64 x.f6.f4.f1, .int .i64 x.f6.f4.f2, .int .i64 x.f6.f5.f0, .int .i64 x.f6.f5.f1, .int .i64 x.f6.f5.f2, .int .i64 x.f6.f6.f0, .int .i64 x.f6.f6.f1, .int .i64 x.f6.f7, v21, v22], rfl, rfl, ⟨[.string x.f3], [.int .i64 x.f4, .int .i64 x.f5.f0, .int .i64 x.f5.f1, .int .i64 x.f5.f2, .int .i64 x.f6.f0, .int .i64 x.f6.f1, .int .i64 x.f6.f2, .int .i64 x.f6.f3, .int .i64 x.f6.f4.f0, .int .i64 x.f6.f4.f1, .int .i64 x.f6.f4.f2, .int .i64 x.f6.f5.f0, .int .i64 x.f6.f5.f1, .int .i64 x.f6.f5.f2, .int .i64 x.f6.f6.f0, .int .i64 x.f6.f6.f1, .int .i64 x.f6.f7, v21, v22], rfl, rfl, ⟨[.int .i64 x.f4], [.int .i64 x.f5.f0, .int .i64 x.f5.f1, .int .i64 x.f5.f2, .int .i64 x.f6.f0, .int .i64 x.f6.f1, .int .i64 x.f6.f2, .int .i64 x.f6.f3, .int .i64 x.f6.f4.f0, .int .i64 x.f6.f4.f1, .int .i64 x.f6.f4.f2, .int .i64 x.f6.f5.f0, .int .i64 x.f6.f5.f1, .int .i64 x.f6.f5.f2, .int .i64 x.f6.f6.f0, .int .i64 x.f6.f6.f1, .int .i64 x.f6.f7, v21, v22], rfl, rfl, ⟨[.int .i64 x.f5.f0, .int .i64 x.f5.f1, .int .i64 x.f5.f2], [.int .i64 x.f6.f0, .int .i64 x.f6.f1, .int .i64 x.f6.f2, .int .i64 x.f6.f3, .int .i64 x.f6.f4.f0, .int .i64 x.f6.f4.f1, .int .i64 x.f6.f4.f2, .int .i64 x.f6.f5.f0, .int .i64 x.f6.f5.f1, .int .i64 x.f6.f5.f2, .int .i64 x.f6.f6.f0, .int .i64 x.f6.f6.f1, .int .i64 x.f6.f7, v21, v22], rfl, (k23_mkM w base ok x.f5 ), ⟨[.int .i64 x.f6.f0, .int .i64 x.f6.f1, .int .i64 x.f6.f2, .int .i64 x.f6.f3, .int .i64 x.f6.f4.f0, .int .i64 x.f6.f4.f1, .int .i64 x.f6.f4.f2, .int .i64 x.f6.f5.f0, .int .i64 x.f6.f5.f1, .int .i64 x.f6.f5.f2, .int .i64 x.f6.f6.f0, .int .i64 x.f6.f6.f1, .int .i64 x.f6.f7], [v21, v22], rfl, (k30_mkM w base ok x.f6 ), ⟨[v21], [v22], rfl, g21, r22⟩⟩⟩⟩⟩⟩⟩⟩⟩
theorem k34B_open {w : World} {x : S34} {cs : List Value} (h : k34B.K w x cs) : ∃ v21 v22, cs = [.int .i64 x.f0, .string x.f1, .string x.f2, .string x.f3, .int .i64 x.f4, .int .i64 x.f5.f0, .int .i64 x.f5.f1, .int .i64 x.f5.f2, .int .i64 x.f6.f0, .int .i64 x.f6.f1, .int .i64 x.f6.f2, .int .i64 x.f6.f3, .int .i64 x.f6.f4.f0, .int .i64 x.f6.f4.f1, .int .i64 x.f6.f4.f2, .int .i64 x.f6.f5.f0, .int .i64 x.f6.f5.f1, .int .i64 x.f6.f5.f2, .int .i64 x.f6.f6.f0, .int .i64 x.f6.f6.f1, .int .i64 x.f6.f7, v21, v22] ∧ (Kd.sliceB 54 k54B b54).K w x.f7 [v21] ∧ (Kd.sliceB 34 k34B b34).K w x.f8 [v22] := by
  obtain ⟨n, h⟩ := h
  cases n with
  | zero => exact h.elim
  | succ n =>
    obtain ⟨_, _, rfl, rfl, ⟨_, _, rfl, rfl, ⟨_, _, rfl, rfl, ⟨_, _, rfl, rfl, ⟨_, _, rfl, rfl, ⟨_, _, rfl, s5, ⟨_, _, rfl, s8, ⟨_, _, rfl, g21, g22⟩⟩⟩⟩⟩⟩⟩⟩ := h
    obtain rfl := k23_open s5
    obtain rfl := k30_open s8
    obtain ⟨v21, rfl⟩ := Kd.sB_one g21
    obtain ⟨v22, rfl⟩ := Kd.sB_one g22
    exact ⟨v21, v22, rfl, g21, Kd.sB_fix g22⟩
theorem k34B_K : ∀ n w x cs, (Kd.upto F34B 23 [23, 34, 54] n).K w x cs → k34.K w x cs
  | 0, _, _, _, h => h.elim
  | n + 1, w, x, cs, h => by
    obtain ⟨_, _, rfl, rfl, ⟨_, _, rfl, rfl, ⟨_, _, rfl, rfl, ⟨_, _, rfl, rfl, ⟨_, _, rfl, rfl, ⟨_, _, rfl, s5, ⟨_, _, rfl, s8, ⟨_, _, rfl, g21, g22⟩⟩⟩⟩⟩⟩⟩⟩ := h
    obtain rfl := k23_open s5
    obtain rfl := k30_open s8
    obtain ⟨A21, c21, rfl, l21, h21⟩ := Kd.sB_slice (w2 := w) (d := k54B) (d' := k54) rfl (fun _ _ _ h => k54B_read h) g21
    obtain ⟨A22, c22, rfl, l22, h22⟩ := Kd.sB_slice (w2 := w) (d' := k34) (sz34B n) (k34B_K n) g22
    exact k34_mk w x l21 h21 l22 h22
theorem k34B_read {w : World} {x : S34} {cs : List Value} (h : k34B.K w x cs) : k34.K w x cs := by
  obtain ⟨n, h⟩ := h
  exact k34B_K n w x cs h
def b56 : S56 := ⟨⟨#[98, 101, 104, 105, 110, 100]⟩, [], z54⟩
def k56B : Kd S56 := Kd.iso (Kd.pair Kd.string (Kd.pair (Kd.sliceB 9 Kd.string ⟨#[98, 101, 104, 105, 110, 100]⟩) k54B)) (fun x : S56 => (x.f0, x.f1, x.f2))
theorem k56B_read {w : World} {x : S56} {cs : List Value} (h : k56B.K w x cs) : k56.K w x cs := by
  obtain ⟨_, _, rfl, rfl, ⟨_, _, rfl, g1, g2⟩⟩ := h
  obtain ⟨A1, c1, rfl, l1, h1⟩ := Kd.sB_slice (w2 := w) (d' := Kd.string) rfl (fun _ _ _ h => h) g1
  obtain ⟨A5, c5, A6, c6, rfl, l5, g5, l6, g6⟩ := k54_open (k54B_read g2)
  exact k56_mk w x l1 h1 l5 g5 l6 g6
theorem k56B_mkM (w : World) (base : Nat) (ok : Nat → Prop) (x : S56) {v1 : Value} (g1 : (Kd.sliceB 9 Kd.string ⟨#[98, 101, 104, 105, 110, 100]⟩).M w base ok x.f1 [v1]) {cs : List Value} (g2 : k54B.M w base ok x.f2 cs) : k56B.M w base ok x (.string x.f0 :: v1 :: cs) :=
  ⟨[.string x.f0], v1 :: cs, rfl, rfl, ⟨[v1], cs, rfl, g1, g2⟩⟩
theorem k56B_open {w : World} {x : S56} {cs : List Value} (h : k56B.K w x cs) : ∃ v1 ds, cs = .string x.f0 :: v1 :: ds ∧ (Kd.sliceB 9 Kd.string ⟨#[98, 101, 104, 105, 110, 100]⟩).K w x.f1 [v1] ∧ k54B.K w x.f2 ds := by
  obtain ⟨_, _, rfl, rfl, ⟨_, _, rfl, g1, g2⟩⟩ := h
  obtain ⟨v1, rfl⟩ := Kd.sB_one g1
  exact ⟨v1, _, rfl, g1, g2⟩
end Go.Proofs.Ytkfbkjcdngipcaa.PTreeEquals
end
section
namespace Go.Proofs.Ytkfbkjcdngipcaa.PTreeEquals
open Go.RowKit Go.Proofs.YtkfbkjcdngipcaaW.PrintWords Go.Proofs.YtkfbkjcdngipcaaW.PrintLast Go.Proofs.YtkfbkjcdngipcaaW.PrintMore
attribute [local go_sem] nil24 nil25 nil26 nil31 nil32 nnil24 nnil25 nnil26 nnil31 nnil32 max2_int min2_int max_two min_two max_three min_three max_four min_four
set_option linter.unusedVariables false
set_option linter.unusedSimpArgs false
theorem info23 : (Try.prog.info? 23).map (fun i => (i.zero, i.size, i.bytes)) = some (some (.agg #[.int .i64 0, .int .i64 0, .int .i64 0]), 3, 24) := by kernel_rfl
theorem info9 : (Try.prog.info? 9).map (fun i => (i.zero, i.size, i.bytes)) = some (some (.string ⟨#[]⟩), 1, 16) := by kernel_rfl
def b9 : ByteArray := ⟨#[98, 101, 104, 105, 110, 100]⟩
set_option maxHeartbeats 4000000 in
set_option maxRecDepth 100000 in
theorem dates.calls (A : Option Addr) (c : Nat) (l : List S23) (w : World) (hr : Kd.C k23 w A l.length l) (hc : l.length ≤ c) (hl : l.length * 24 ≤ 140737488351232) :
    Calls Try.prog 18 #[.slice A l.length c] w fun e w' => ∃ v, e = .returned v ∧ Kd.Fr (Kd.sliceB 23 k23 b23) w.heap.size w' l [v] ∧ Below w.heap.size w w' := by
  have hu23 := Try.underlying23
  have HR := Aside0.mk hr
  have HL := Aside0.mk hl
  have HB := Aside0.mk (Below.refl w.heap.size w)
  have hn : l.length < 9223372036854775807 := by omega
  cases A with
  | none =>
    have h0 : l = [] := by
      rcases Nat.eq_zero_or_pos l.length with h | h
      · exact List.eq_nil_of_length_eq_zero h
      · obtain ⟨ad, he, _⟩ := hr.2.2 h
        cases he
    clear hr
    subst h0
    go_enter Try.func18, Try.ntmps18
    go_wp2
    go_ret
    exact ⟨_, rfl, Kd.Fr.of (ok := fun _ => True) (.inl ⟨rfl, rfl⟩), by repeat (first | (with_reducible first | exact HB.out | apply below_alloc | apply pw_below_drewN | apply below_drew1) | exact HB.out)⟩
  | some ad =>
  clear hr hl
  go_enter Try.func18, Try.ntmps18
  go_upto_region 6 with (first | ((with_reducible refine gate_dst (N := 9) rfl ?_); refine Kd.R_make0 k23 (w0 := w) w.heap.size 23 rfl (N := 9) rfl 24 (.const (.int .i64 0)) (.tmp 8) rfl (l.length + 1) rfl (by first | rfl | (go_simp; done) | (go_simp; rfl)) Try.underlying24 (.agg #[.int .i64 0, .int .i64 0, .int .i64 0]) 24 info23 (by decide) (by have := HL.out; omega) (by repeat (first | (with_reducible first | exact HB.out | apply below_alloc | apply pw_below_drewN | apply below_drew1) | exact HB.out)) (below_size (by repeat (first | (with_reducible first | exact HB.out | apply below_alloc | apply pw_below_drewN | apply below_drew1) | exact HB.out))) ?_; intro g w3 hg ho hb hb2; have n0_ := Aside0.mk hb; have n1_ := Aside0.mk ho; clear HB; have HB := n0_; have HO := n1_; clear n0_ n1_ hb hb2 ho hg) | ((with_reducible refine gate_builtin (b := .append) (xs := #[.tmp 10, .tmp 11]) rfl ?_); at_builtin; refine Kd.R_append_rows k23 (w0 := w) w.heap.size rfl (.tmp 10) (.tmp 11) 24 23 (.agg #[.int .i64 0, .int .i64 0, .int .i64 0]) 24 rfl Try.underlying24 info23 rfl (by decide) (by decide) (.slice (some ⟨g, 0, none⟩) 0 (l.length + 1)) [] l _ _ _ (fun _ => True) (fun _ => False) rfl rfl ?aO ?aR (fun _ _ h => h) (fun _ h => h.elim) ?aF ?aB ?aS ?aL ?_; (case aR => exact (Kd.C_below HR.out (by repeat (first | (with_reducible first | exact HB.out | apply below_alloc | apply pw_below_drewN | apply below_drew1) | exact HB.out)))); (case aB => exact (by repeat (first | (with_reducible first | exact HB.out | apply below_alloc | apply pw_below_drewN | apply below_drew1) | exact HB.out))); (case aF => exact (fun _ _ => trivial)); (case aO => exact HO.out); (case aS => exact (below_size (by repeat (first | (with_reducible first | exact HB.out | apply below_alloc | apply pw_below_drewN | apply below_drew1) | exact HB.out)))); (case aL => (try simp only [List.length_nil, Nat.zero_add]); have := HL.out; omega); intro v5 w4 ho hb hg hat; have n0_ := Aside0.mk hb; have n1_ := Aside0.mk ho; clear HB; clear HO; have HB := n0_; have HO := n1_; clear n0_ n1_; clear ho hb hg hat) | ((with_reducible refine gate_builtin (b := .append) (xs := #[.tmp 13, .tmp 15]) rfl ?_); at_builtin; refine Kd.R_append k23 (w0 := w) w.heap.size rfl (.tmp 13) (.tmp 15) 24 23 (.agg #[.int .i64 0, .int .i64 0, .int .i64 0]) 24 rfl Try.underlying24 info23 rfl (by decide) (by decide) v5 ([] ++ l) b23 [.int .i64 (-5), .int .i64 0, .int .i64 0] (fun _ => True) (fun _ => False) rfl (by first | rfl | (go_simp; done) | (go_simp; rfl)) ?aP (fun _ hk => hk.elim) ?aF ?aO ?aB ?aS ?aL ?_; (case aP => exact k23_mkM _ _ _ b23); (case aB => exact (by repeat (first | (with_reducible first | exact HB.out | apply below_alloc | apply pw_below_drewN | apply below_drew1) | exact HB.out))); (case aF => exact (fun _ _ => trivial)); (case aO => exact (by (with_reducible repeat (first | apply Kd.R_alloc | apply Kd.R_drewN | apply Kd.R_drew)); exact HO.out)); (case aS => exact (below_size (by repeat (first | (with_reducible first | exact HB.out | apply below_alloc | apply pw_below_drewN | apply below_drew1) | exact HB.out)))); (case aL => (try simp only [List.nil_append]); have := HL.out; omega); intro v6 w5 ho hb hg hat; have n0_ := Aside0.mk hb; have n1_ := Aside0.mk ho; clear HB; clear HO; have HB := n0_; have HO := n1_; clear n0_ n1_; clear ho hb hg hat))
  obtain ⟨A', c', rfl, hlc, _⟩ := Kd.R_reads HO.out
  have HO1 := HO.out
  clear HO
  simp only [List.nil_append, List.length_append, List.length_singleton] at HO1 hlc
  go_wp2_with (((with_reducible refine gate_dst (N := 20) rfl ?_); refine Kd.cut_event rfl 24 23 (.tmp 17) (.tmp 19) rfl Try.underlying24 (by kernel_rfl) (A') (_) (c') (l.length) rfl (by first | rfl | (go_simp; done) | (go_simp; rfl)) (by omega) ?_))
  go_ret
  exact ⟨_, rfl, Kd.Fr.of (ok := fun _ => True) (.inr ⟨A', c', rfl, HO1⟩), HB.out⟩
set_option maxHeartbeats 4000000 in
set_option maxRecDepth 100000 in
theorem names.calls (A : Option Addr) (c : Nat) (l : List ByteArray) (w : World) (hr : Kd.C Kd.string w A l.length l) (hc : l.length ≤ c) (hl : l.length * 16 ≤ 140737488351232) :
    Calls Try.prog 19 #[.slice A l.length c] w fun e w' => ∃ v, e = .returned v ∧ Kd.Fr (Kd.sliceB 9 Kd.string b9) w.heap.size w' l [v] ∧ Below w.heap.size w w' := by
  have hu9 := Try.underlying9
  have HR := Aside0.mk hr
  have HL := Aside0.mk hl
  have HB := Aside0.mk (Below.refl w.heap.size w)
  have hn : l.length < 9223372036854775807 := by omega
  cases A with
  | none =>
    have h0 : l = [] := by
      rcases Nat.eq_zero_or_pos l.length with h | h
      · exact List.eq_nil_of_length_eq_zero h
      · obtain ⟨ad, he, _⟩ := hr.2.2 h
        cases he
    clear hr
    subst h0
    go_enter Try.func19, Try.ntmps19
    go_wp2
    go_ret
    exact ⟨_, rfl, Kd.Fr.of (ok := fun _ => True) (.inl ⟨rfl, rfl⟩), by repeat (first | (with_reducible first | exact HB.out | apply below_alloc | apply pw_below_drewN | apply below_drew1) | exact HB.out)⟩
  | some ad =>
  clear hr hl
  go_enter Try.func19, Try.ntmps19
  go_upto_region 6 with (first | ((with_reducible refine gate_dst (N := 9) rfl ?_); refine Kd.R_make0 Kd.string (w0 := w) w.heap.size 9 rfl (N := 9) rfl 25 (.const (.int .i64 0)) (.tmp 8) rfl (l.length + 1) rfl (by first | rfl | (go_simp; done) | (go_simp; rfl)) Try.underlying25 (.string ⟨#[]⟩) 16 info9 (by decide) (by have := HL.out; omega) (by repeat (first | (with_reducible first | exact HB.out | apply below_alloc | apply pw_below_drewN | apply below_drew1) | exact HB.out)) (below_size (by repeat (first | (with_reducible first | exact HB.out | apply below_alloc | apply pw_below_drewN | apply below_drew1) | exact HB.out))) ?_; intro g w3 hg ho hb hb2; have n0_ := Aside0.mk hb; have n1_ := Aside0.mk ho; clear HB; have HB := n0_; have HO := n1_; clear n0_ n1_ hb hb2 ho hg) | ((with_reducible refine gate_builtin (b := .append) (xs := #[.tmp 10, .tmp 11]) rfl ?_); at_builtin; refine Kd.R_append_rows Kd.string (w0 := w) w.heap.size rfl (.tmp 10) (.tmp 11) 25 9 (.string ⟨#[]⟩) 16 rfl Try.underlying25 info9 rfl (by decide) (by decide) (.slice (some ⟨g, 0, none⟩) 0 (l.length + 1)) [] l _ _ _ (fun _ => True) (fun _ => False) rfl rfl ?aO ?aR (fun _ _ h => h) (fun _ h => h.elim) ?aF ?aB ?aS ?aL ?_; (case aR => exact (Kd.C_below HR.out (by repeat (first | (with_reducible first | exact HB.out | apply below_alloc | apply pw_below_drewN | apply below_drew1) | exact HB.out)))); (case aB => exact (by repeat (first | (with_reducible first | exact HB.out | apply below_alloc | apply pw_below_drewN | apply below_drew1) | exact HB.out))); (case aF => exact (fun _ _ => trivial)); (case aO => exact HO.out); (case aS => exact (below_size (by repeat (first | (with_reducible first | exact HB.out | apply below_alloc | apply pw_below_drewN | apply below_drew1) | exact HB.out)))); (case aL => (try simp only [List.length_nil, Nat.zero_add]); have := HL.out; omega); intro v5 w4 ho hb hg hat; have n0_ := Aside0.mk hb; have n1_ := Aside0.mk ho; clear HB; clear HO; have HB := n0_; have HO := n1_; clear n0_ n1_; clear ho hb hg hat) | ((with_reducible refine gate_builtin (b := .append) (xs := #[.tmp 13, .tmp 14]) rfl ?_); at_builtin; refine Kd.R_append Kd.string (w0 := w) w.heap.size rfl (.tmp 13) (.tmp 14) 25 9 (.string ⟨#[]⟩) 16 rfl Try.underlying25 info9 rfl (by decide) (by decide) v5 ([] ++ l) b9 [.string b9] (fun _ => True) (fun _ => False) rfl (by first | rfl | (go_simp; done) | (go_simp; rfl)) ?aP (fun _ hk => hk.elim) ?aF ?aO ?aB ?aS ?aL ?_; (case aP => exact rfl); (case aB => exact (by repeat (first | (with_reducible first | exact HB.out | apply below_alloc | apply pw_below_drewN | apply below_drew1) | exact HB.out))); (case aF => exact (fun _ _ => trivial)); (case aO => exact (by (with_reducible repeat (first | apply Kd.R_alloc | apply Kd.R_drewN | apply Kd.R_drew)); exact HO.out)); (case aS => exact (below_size (by repeat (first | (with_reducible first | exact HB.out | apply below_alloc | apply pw_below_drewN | apply below_drew1) | exact HB.out)))); (case aL => (try simp only [List.nil_append]); have := HL.out; omega); intro v6 w5 ho hb hg hat; have n0_ := Aside0.mk hb; have n1_ := Aside0.mk ho; clear HB; clear HO; have HB := n0_; have HO := n1_; clear n0_ n1_; clear ho hb hg hat))
  obtain ⟨A', c', rfl, hlc, _⟩ := Kd.R_reads HO.out
  have HO1 := HO.out
  clear HO
  simp only [List.nil_append, List.length_append, List.length_singleton] at HO1 hlc
  go_wp2_with (((with_reducible refine gate_dst (N := 19) rfl ?_); refine Kd.cut_event rfl 25 9 (.tmp 16) (.tmp 18) rfl Try.underlying25 (by kernel_rfl) (A') (_) (c') (l.length) rfl (by first | rfl | (go_simp; done) | (go_simp; rfl)) (by omega) ?_))
  go_ret
  exact ⟨_, rfl, Kd.Fr.of (ok := fun _ => True) (.inr ⟨A', c', rfl, HO1⟩), HB.out⟩
end Go.Proofs.Ytkfbkjcdngipcaa.PTreeEquals
end
section
namespace Go.Proofs.Ytkfbkjcdngipcaa.PTreeEquals
open Go.RowKit Go.Proofs.YtkfbkjcdngipcaaW.PrintWords Go.Proofs.YtkfbkjcdngipcaaW.PrintLast Go.Proofs.YtkfbkjcdngipcaaW.PrintMore
attribute [local go_sem] nil24 nil25 nil26 nil31 nil32 nnil24 nnil25 nnil26 nnil31 nnil32 max2_int min2_int max_two min_two max_three min_three max_four min_four
set_option linter.unusedVariables false
set_option linter.unusedSimpArgs false
theorem size24 : (Try.prog.info? 24).map (fun i => i.size) = some 1 := by kernel_rfl
theorem size31 : (Try.prog.info? 31).map (fun i => i.size) = some 1 := by kernel_rfl
def ExprsOK (l : List S54) : Prop := ∀ (A : Option Addr) (c : Nat) (w : World), Kd.C k54 w A l.length l → l.length ≤ c → Calls Try.prog 34 #[.slice A l.length c] w fun e w' => ∃ v, e = .returned v ∧ Kd.Fr (Kd.sliceB 54 k54B b54) w.heap.size w' l [v] ∧ Below w.heap.size w w'
theorem ExprsOK.calls {l : List S54} (h : ExprsOK l) (A : Option Addr) (c : Nat) (w : World) (hr : Kd.C k54 w A l.length l) (hc : l.length ≤ c) : Calls Try.prog 34 #[.slice A l.length c] w fun e w' => ∃ v, e = .returned v ∧ Kd.Fr (Kd.sliceB 54 k54B b54) w.heap.size w' l [v] ∧ Below w.heap.size w w' := h A c w hr hc
set_option maxHeartbeats 8000000 in
set_option maxRecDepth 100000 in
theorem expr.calls (a0 a1 : Int) (a2 : ByteArray) (l3 : List S23) (l4 : List S54) (hk : ExprsOK l4) (A3 : Option Addr) (c3 : Nat) (A4 : Option Addr) (c4 : Nat) (w : World) (hr3 : Kd.C k23 w A3 l3.length l3) (hc3 : l3.length ≤ c3) (hl3 : l3.length * 24 ≤ 140737488351232) (hr4 : Kd.C k54 w A4 l4.length l4) (hc4 : l4.length ≤ c4) :
    Calls Try.prog 21 #[.agg #[.int .i64 a0, .int .i64 a1, .string a2, .slice A3 l3.length c3, .slice A4 l4.length c4]] w fun e w' => ∃ v3 v4, e = .returned (.agg #[.int .i64 a0, .int .i64 a1, .string a2, v3, v4]) ∧ Kd.Fr (Kd.sliceB 23 k23 b23) w.heap.size w' l3 [v3] ∧ Kd.Fr (Kd.sliceB 54 k54B b54) w.heap.size w' l4 [v4] ∧ Below w.heap.size w w' := by
  have hu54 := Try.underlying54
  have hu24 := Try.underlying24
  have hu31 := Try.underlying31
  have HR3 := Aside0.mk hr3
  have HC3 := Aside0.mk hc3
  have HL3 := Aside0.mk hl3
  have HR4 := Aside0.mk hr4
  have HC4 := Aside0.mk hc4
  clear hr3 hc3 hl3 hr4 hc4
  have HB := Aside0.mk (Below.refl w.heap.size w)
  go_enter Try.func21, Try.ntmps21
  go_upto_region 2 with (first | ((with_reducible refine gate_dst (N := 1) rfl ?_); (try (refine gate_guard (by rfl) ?_; dsimp only)); refine box_event ?hg (N := 1) ?hd (cs := #[.int .i64 a0, .int .i64 a1, .string a2, .slice A3 l3.length c3, .slice A4 l4.length c4]) (t := 54) ?hr ?_; (case hd => rfl); (case hg => rfl); (case hr => first | (go_simp; done) | (go_simp; rfl)); intro g1 hg wv1_ hbox hb; have n0_ := Aside0.mk (below_step HB.out hb); have n1_ := Aside0.mk (hbox); have n2_ := Aside0.mk ((show w.heap.size ≤ g1 by rw [hg]; exact below_size HB.out)); clear HB; have HB := n0_; have BK1 := n1_; have ORD := n2_; clear n0_ n1_ n2_; clear hb hbox hg) | ((with_reducible refine gate_dst (N := 2) rfl ?_); (try (refine gate_guard (by rfl) ?_; dsimp only)); refine box_event ?hg (N := 2) ?hd (cs := #[.int .i64 0, .int .i64 0, .string ⟨#[]⟩, .slice none 0 0, .slice none 0 0]) (t := 54) ?hr ?_; (case hd => rfl); (case hg => rfl); (case hr => first | (go_simp; done) | (go_simp; rfl)); intro g2 hg wv2_ hbox hb; have n0_ := Aside0.mk (below_step HB.out hb); have n1_ := Aside0.mk (blk_below BK1.out hb); have n2_ := Aside0.mk (hbox); have n3_ := Aside0.mk (And.intro ORD.out (show g1 < g2 by rw [hg]; exact blk_lt BK1.out)); clear HB BK1 ORD; have HB := n0_; have BK1 := n1_; have BK2 := n2_; have ORD := n3_; clear n0_ n1_ n2_ n3_; clear hb hbox hg) | ((with_reducible refine gate_dst (N := 4) rfl ?_); (try (refine gate_guard (by rfl) ?_; dsimp only)); refine ldb_event rfl rfl (by first | rfl | (go_simp; done) | (go_simp; rfl)) Try.underlying54 ⟨_, rfl⟩ BK1.out 5 size54 [.int .i64 a0, .int .i64 a1, .string a2, .slice A3 l3.length c3, .slice A4 l4.length c4] rfl rfl ?_) | ((with_reducible refine gate_dst (N := 3) rfl ?_); (try (refine gate_guard (by rfl) ?_; dsimp only)); refine box_event ?hg (N := 3) ?hd (cs := #[.int .i64 0, .int .i64 0, .string ⟨#[]⟩, .slice none 0 0, .slice none 0 0]) (t := 54) ?hr ?_; (case hd => rfl); (case hg => rfl); (case hr => first | (go_simp; done) | (go_simp; rfl)); intro g3 hg wv3_ hbox hb; have n0_ := Aside0.mk (below_step HB.out hb); have n1_ := Aside0.mk (blk_below BK1.out hb); have n2_ := Aside0.mk (blk_below BK2.out hb); have n3_ := Aside0.mk (hbox); have n4_ := Aside0.mk (And.intro ORD.out (show g2 < g3 by rw [hg]; exact blk_lt BK2.out)); clear HB BK1 BK2 ORD; have HB := n0_; have BK1 := n1_; have BK2 := n2_; have BK3 := n3_; have ORD := n4_; clear n0_ n1_ n2_ n3_ n4_; clear hb hbox hg) | ((with_reducible refine gate_store (t := 54) (p := 3) rfl ?_); refine st_event rfl rfl rfl (g := g3) (j := 0) (by first | rfl | (go_simp; done) | (go_simp; rfl)) (u := .agg #[.int .i64 a0, .int .i64 a1, .string a2, .slice A3 l3.length c3, .slice A4 l4.length c4]) (by first | rfl | (go_simp; done) | (go_simp; rfl)) BK3.out 5 size54 rfl (by simp) (by intro x hx; simp [Value.cells] at hx; rcases hx with rfl | rfl | rfl | rfl | rfl <;> rfl) #[.int .i64 a0, .int .i64 a1, .string a2, .slice A3 l3.length c3, .slice A4 l4.length c4] rfl ?_; intro wv4_ hbk ho; have n0_ := Aside0.mk (Other.below ho HB.out (by have := ORD.out; omega)); have n1_ := Aside0.mk (Other.blk ho BK1.out (by have := ORD.out; omega)); have n2_ := Aside0.mk (Other.blk ho BK2.out (by have := ORD.out; omega)); have n3_ := Aside0.mk (hbk); clear HB BK1 BK2 BK3; have HB := n0_; have BK1 := n1_; have BK2 := n2_; have BK3 := n3_; clear n0_ n1_ n2_ n3_; clear hbk ho))
  go_upto_region 3 with (first | ((with_reducible refine gate_dst (N := 6) rfl ?_); (try (refine gate_guard (by rfl) ?_; dsimp only)); refine ld_event rfl rfl (by first | rfl | (go_simp; done) | (go_simp; rfl)) Try.underlying24 trivial (.slice A3 l3.length c3) ((blk_cell BK1.out 3).trans rfl) ?_) | ((with_reducible refine gate_callee (f := 18) rfl ?_); (try (refine gate_guard (by rfl) ?_; dsimp only)); refine goesL_ (some 7) rfl rfl Try.func18 (by kernel_rfl) rfl #[.slice A3 l3.length c3] rfl (by (try simp only [List.map_toArray, List.map_cons, List.map_nil]); first | done | rfl) ?_; (with_reducible refine (dates.calls A3 c3 l3 _ (Kd.C_below HR3.out HB.out) HC3.out HL3.out).mono ?_); rintro e wv5_ ⟨v3, rfl, hF, hb⟩; obtain ⟨B3, d3, rfl, _, _, _⟩ := Kd.sB_read (Kd.Fr.K hF); refine ⟨_, rfl, ?_⟩; have n0_ := Aside0.mk (below_step HB.out hb); have n1_ := Aside0.mk (blk_below BK1.out hb); have n2_ := Aside0.mk (blk_below BK2.out hb); have n3_ := Aside0.mk (blk_below BK3.out hb); have n4_ := Aside0.mk (Kd.Fr.lower (b' := g3 + 1) hF (blk_lt BK3.out)); clear HB BK1 BK2 BK3; have HB := n0_; have BK1 := n1_; have BK2 := n2_; have BK3 := n3_; have FR3 := n4_; clear n0_ n1_ n2_ n3_ n4_; clear hb hF) | ((with_reducible refine gate_store (t := 24) (p := 8) rfl ?_); refine st_event rfl rfl rfl (g := g3) (j := 3) (by first | rfl | (go_simp; done) | (go_simp; rfl)) (u := (.slice B3 l3.length d3)) (by first | rfl | (go_simp; done) | (go_simp; rfl)) BK3.out 1 size24 rfl (by simp) (by intro x hx; simp [Value.cells] at hx; rcases hx with rfl <;> rfl) #[.int .i64 a0, .int .i64 a1, .string a2, (.slice B3 l3.length d3), .slice A4 l4.length c4] rfl ?_; intro wv6_ hbk ho; have n0_ := Aside0.mk (Other.below ho HB.out (by have := ORD.out; omega)); have n1_ := Aside0.mk (Other.blk ho BK1.out (by have := ORD.out; omega)); have n2_ := Aside0.mk (Other.blk ho BK2.out (by have := ORD.out; omega)); have n3_ := Aside0.mk (hbk); have n4_ := Aside0.mk (Kd.Fr.other FR3.out ho (by have := ORD.out; omega)); clear HB BK1 BK2 BK3 FR3; have HB := n0_; have BK1 := n1_; have BK2 := n2_; have BK3 := n3_; have FR3 := n4_; clear n0_ n1_ n2_ n3_ n4_; clear hbk ho))
  go_upto_region 4 with (first | ((with_reducible refine gate_dst (N := 10) rfl ?_); (try (refine gate_guard (by rfl) ?_; dsimp only)); refine ld_event rfl rfl (by first | rfl | (go_simp; done) | (go_simp; rfl)) Try.underlying31 trivial (.slice A4 l4.length c4) ((blk_cell BK1.out 4).trans rfl) ?_) | ((with_reducible refine gate_callee (f := 34) rfl ?_); (try (refine gate_guard (by rfl) ?_; dsimp only)); refine goesL_ (some 11) rfl rfl Try.func34 (by kernel_rfl) rfl #[.slice A4 l4.length c4] rfl (by (try simp only [List.map_toArray, List.map_cons, List.map_nil]); first | done | rfl) ?_; (with_reducible refine (ExprsOK.calls hk A4 c4 _ (Kd.C_below HR4.out HB.out) HC4.out).mono ?_); rintro e wv7_ ⟨v4, rfl, hF, hb⟩; obtain ⟨B4, d4, rfl, _, _, _⟩ := Kd.sB_read (Kd.Fr.K hF); refine ⟨_, rfl, ?_⟩; have n0_ := Aside0.mk (below_step HB.out hb); have n1_ := Aside0.mk (blk_below BK1.out hb); have n2_ := Aside0.mk (blk_below BK2.out hb); have n3_ := Aside0.mk (blk_below BK3.out hb); have n4_ := Aside0.mk (Kd.Fr.below FR3.out hb); have n5_ := Aside0.mk (Kd.Fr.lower (b' := g3 + 1) hF (blk_lt BK3.out)); clear HB BK1 BK2 BK3 FR3; have HB := n0_; have BK1 := n1_; have BK2 := n2_; have BK3 := n3_; have FR3 := n4_; have FR4 := n5_; clear n0_ n1_ n2_ n3_ n4_ n5_; clear hb hF) | ((with_reducible refine gate_store (t := 31) (p := 12) rfl ?_); refine st_event rfl rfl rfl (g := g3) (j := 4) (by first | rfl | (go_simp; done) | (go_simp; rfl)) (u := (.slice B4 l4.length d4)) (by first | rfl | (go_simp; done) | (go_simp; rfl)) BK3.out 1 size31 rfl (by simp) (by intro x hx; simp [Value.cells] at hx; rcases hx with rfl <;> rfl) #[.int .i64 a0, .int .i64 a1, .string a2, (.slice B3 l3.length d3), (.slice B4 l4.length d4)] rfl ?_; intro wv8_ hbk ho; have n0_ := Aside0.mk (Other.below ho HB.out (by have := ORD.out; omega)); have n1_ := Aside0.mk (Other.blk ho BK1.out (by have := ORD.out; omega)); have n2_ := Aside0.mk (Other.blk ho BK2.out (by have := ORD.out; omega)); have n3_ := Aside0.mk (hbk); have n4_ := Aside0.mk (Kd.Fr.other FR3.out ho (by have := ORD.out; omega)); have n5_ := Aside0.mk (Kd.Fr.other FR4.out ho (by have := ORD.out; omega)); clear HB BK1 BK2 BK3 FR3 FR4; have HB := n0_; have BK1 := n1_; have BK2 := n2_; have BK3 := n3_; have FR3 := n4_; have FR4 := n5_; clear n0_ n1_ n2_ n3_ n4_ n5_; clear hbk ho))
  go_wp2_with (first | ((with_reducible refine gate_dst (N := 13) rfl ?_); (try (refine gate_guard (by rfl) ?_; dsimp only)); refine ldb_event rfl rfl (by first | rfl | (go_simp; done) | (go_simp; rfl)) Try.underlying54 ⟨_, rfl⟩ BK3.out 5 size54 [.int .i64 a0, .int .i64 a1, .string a2, (.slice B3 l3.length d3), (.slice B4 l4.length d4)] rfl rfl ?_) | ((with_reducible refine gate_store (t := 54) (p := 2) rfl ?_); refine st_event rfl rfl rfl (g := g2) (j := 0) (by first | rfl | (go_simp; done) | (go_simp; rfl)) (u := .agg #[.int .i64 a0, .int .i64 a1, .string a2, (.slice B3 l3.length d3), (.slice B4 l4.length d4)]) (by first | rfl | (go_simp; done) | (go_simp; rfl)) BK2.out 5 size54 rfl (by simp) (by intro x hx; simp [Value.cells] at hx; rcases hx with rfl | rfl | rfl | rfl | rfl <;> rfl) #[.int .i64 a0, .int .i64 a1, .string a2, (.slice B3 l3.length d3), (.slice B4 l4.length d4)] rfl ?_; intro wv9_ hbk ho; have n0_ := Aside0.mk (Other.below ho HB.out (by have := ORD.out; omega)); have n1_ := Aside0.mk (Other.blk ho BK1.out (by have := ORD.out; omega)); have n2_ := Aside0.mk (hbk); have n3_ := Aside0.mk (Other.blk ho BK3.out (by have := ORD.out; omega)); have n4_ := Aside0.mk (Kd.Fr.other FR3.out ho (by have := ORD.out; omega)); have n5_ := Aside0.mk (Kd.Fr.other FR4.out ho (by have := ORD.out; omega)); clear HB BK1 BK2 BK3 FR3 FR4; have HB := n0_; have BK1 := n1_; have BK2 := n2_; have BK3 := n3_; have FR3 := n4_; have FR4 := n5_; clear n0_ n1_ n2_ n3_ n4_ n5_; clear hbk ho))
  (try simp only [Exit.inBlock, Exit.then])
  refine bodyPost_ret (results_cell_row rfl _ _ g2 54 #[.int .i64 a0, .int .i64 a1, .string a2, (.slice B3 l3.length d3), (.slice B4 l4.length d4)] (0, 0) _ rfl BK2.out Try.underlying54 rfl size54) rfl ?_
  exact ⟨_, _, rfl, Kd.Fr.lower FR3.out (by have := ORD.out; omega), Kd.Fr.lower FR4.out (by have := ORD.out; omega), HB.out⟩
theorem info54 : (Try.prog.info? 54).map (fun i => (i.zero, i.size, i.bytes)) = some (some (.agg #[.int .i64 0, .int .i64 0, .string ⟨#[]⟩, .slice none 0 0, .slice none 0 0]), 5, 80) := by kernel_rfl
theorem take_next {l : List S54} {i : Int} (h0 : 0 ≤ i) (h1 : i < l.length) : l.take i.toNat ++ [rd_T54 l i] = l.take (i + 1).toNat := by
  have h : (i + 1).toNat = i.toNat + 1 := by omega
  have hl : i.toNat < l.length := by omega
  rw [h, List.take_add_one, List.getElem?_eq_getElem hl]
  simp [rd_T54, hl]
set_option maxHeartbeats 8000000 in
set_option maxRecDepth 100000 in
theorem exprs.of (l : List S54) (hl : l.length * 80 ≤ 140737488351232) (hs : ∀ x ∈ l, ExprsOK x.f4 ∧ x.f3.length * 24 ≤ 140737488351232) : ExprsOK l := by
  intro A c w hr hc
  have hu54 := Try.underlying54
  have hu24 := Try.underlying24
  have hu31 := Try.underlying31
  have HR := Aside0.mk hr
  have HL := Aside0.mk hl
  have HS := Aside0.mk hs
  have hn : l.length < 4611686018427387904 := by omega
  have HB := Aside0.mk (Below.refl w.heap.size w)
  cases A with
  | none =>
    have h0 : l = [] := by
      rcases Nat.eq_zero_or_pos l.length with h | h
      · exact List.eq_nil_of_length_eq_zero h
      · obtain ⟨ad, he, _⟩ := hr.2.2 h
        cases he
    clear hr hs
    subst h0
    go_enter Try.func34, Try.ntmps34
    go_wp2
    go_ret
    exact ⟨_, rfl, Kd.Fr.of (ok := fun _ => True) (.inl ⟨rfl, rfl⟩), by repeat (first | (with_reducible first | exact HB.out | apply below_alloc | apply pw_below_drewN | apply below_drew1) | exact HB.out)⟩
  | some ad =>
  clear hr hl hs
  go_enter Try.func34, Try.ntmps34
  go_upto_region 4 with (((with_reducible refine gate_dst (N := 10) rfl ?_); refine Kd.R_make0 k54B (w0 := w) w.heap.size 54 rfl (N := 10) rfl 31 (.const (.int .i64 0)) (.tmp 9) rfl (l.length + 1) rfl (by first | rfl | (go_simp; done) | (go_simp; rfl)) Try.underlying31 (.agg #[.int .i64 0, .int .i64 0, .string ⟨#[]⟩, .slice none 0 0, .slice none 0 0]) 80 info54 (by decide) (by have := HL.out; omega) (by repeat (first | (with_reducible first | exact HB.out | apply below_alloc | apply pw_below_drewN | apply below_drew1) | exact HB.out)) (below_size (by repeat (first | (with_reducible first | exact HB.out | apply below_alloc | apply pw_below_drewN | apply below_drew1) | exact HB.out))) ?_; intro g w3 hg ho hb hb2; have n0_ := Aside0.mk hb; have n1_ := Aside0.mk ho; clear HB; have HB := n0_; have HO := n1_; clear n0_ n1_ hb hb2 ho hg))
  go_wp2
  go_loopg [3, 4] l.length (fun kq v3 v4 w' => ∃ (i_ : Int) (xs : List S54) (u_ : Value), u_ = v3 ∧ v4 = .int .i64 i_ ∧ Aside0 (0 ≤ i_ ∧ i_ + (kq : Int) = (l.length : Int)) ∧ Aside0 (xs = l.take i_.toNat) ∧ Aside0 (Kd.R k54B 54 w' w.heap.size (fun _ => True) u_ xs) ∧ Aside0 (Below w.heap.size w w'))
  case atStart => exact ⟨0, [], _, rfl, rfl, ⟨by omega, by omega⟩, ⟨rfl⟩, HO, HB⟩
  case round =>
    clear HO HB
    obtain ⟨i_, xs, u_, rfl, rfl, HQ, HX, HO, HB⟩ := hrel
    have HXL := Aside0.mk (show xs.length ≤ l.length ∧ (xs.length : Int) = i_ by rw [HX.out, List.length_take]; have := HQ.out; omega)
    have HLT := Aside0.mk (Kd.R_lt HO.out)
    have HSZ := Aside0.mk (below_size HB.out)
    by_cases c_ : i_ < (l.length : Int)
    · have cb : decide (i_ < (l.length : Int)) = true := decide_eq_true c_
      have p_ : 0 ≤ i_ := HQ.out.1
      obtain ⟨ad1, cv_, e_, _, hK_, hc0_⟩ := Kd.C_get HR.out z54 i_ p_ c_
      cases e_
      obtain ⟨B3, d3, B4, d4, rfl, hl3, hi3, hl4, hi4⟩ := k54_open hK_
      have HCS := Aside0.mk (show ∀ j v, ([.int .i64 (rd_T54 l i_).f0, .int .i64 (rd_T54 l i_).f1, .string (rd_T54 l i_).f2, .slice B3 (rd_T54 l i_).f3.length d3, .slice B4 (rd_T54 l i_).f4.length d4] : List Value)[j]? = some v → wr.cell? ((ad.add (i_.toNat * 5)).add j) = some v from fun j v hj => by have h1 := hc0_ j v hj; have h2 := (HB.out.cell (World.block_lt_of_cell? w _ h1)).trans h1; rw [World_add_add]; exact h2)
      have HE3 := Aside0.mk (show Kd.C k23 w B3 (rd_T54 l i_).f3.length (rd_T54 l i_).f3 from hi3)
      have HE3c := Aside0.mk (show (rd_T54 l i_).f3.length ≤ d3 from hl3)
      have HE4 := Aside0.mk (show Kd.C k54 w B4 (rd_T54 l i_).f4.length (rd_T54 l i_).f4 from hi4)
      have HE4c := Aside0.mk (show (rd_T54 l i_).f4.length ≤ d4 from hl4)
      have HM := Aside0.mk (rd_mem54 p_ c_)
      clear hK_ hc0_ hi3 hi4 hl3 hl4
      have HC_ := Aside0.mk c_
      have HTN := Aside0.mk (take_next p_ c_)
      replace p_ := eq_true p_
      replace c_ := eq_true c_
      go_wp2_with (first | ((with_reducible refine gate_dst (N := 21) rfl ?_); refine load_event (t := 54) (p := .tmp 20) (ad := ad.add (i_.toNat * 5)) rfl rfl (by first | rfl | (go_simp; done) | (go_simp; rfl)) Try.underlying54 ⟨_, rfl⟩ [.int .i64 (rd_T54 l i_).f0, .int .i64 (rd_T54 l i_).f1, .string (rd_T54 l i_).f2, .slice B3 (rd_T54 l i_).f3.length d3, .slice B4 (rd_T54 l i_).f4.length d4] size54 HCS.out ?_) | ((with_reducible refine gate_callee (f := 21) rfl ?_); (try (refine gate_guard (by rfl) ?_; dsimp only)); refine goesL_ (some 22) rfl rfl Try.func21 (by kernel_rfl) rfl #[.agg #[.int .i64 (rd_T54 l i_).f0, .int .i64 (rd_T54 l i_).f1, .string (rd_T54 l i_).f2, .slice B3 (rd_T54 l i_).f3.length d3, .slice B4 (rd_T54 l i_).f4.length d4]] rfl (by (try simp only [List.map_toArray, List.map_cons, List.map_nil]); first | done | rfl) ?_; (with_reducible refine (expr.calls _ _ _ (rd_T54 l i_).f3 (rd_T54 l i_).f4 (HS.out _ HM.out).1 B3 d3 B4 d4 _ (Kd.C_below HE3.out HB.out) HE3c.out (HS.out _ HM.out).2 (Kd.C_below HE4.out HB.out) HE4c.out).mono ?_); rintro e wv1_ ⟨u3, u4, rfl, hF3, hF4, hb⟩; have HF3 := Aside0.mk hF3; have HF4 := Aside0.mk hF4; refine ⟨_, rfl, ?_⟩; have n0_ := Aside0.mk (below_step HB.out hb); have n1_ := Aside0.mk (Kd.R_below HO.out hb); clear HB HO; have HB := n0_; have HO := n1_; clear n0_ n1_; clear hb hF3 hF4) | ((with_reducible refine gate_builtin (b := .append) (xs := #[.tmp 17, .tmp 23]) rfl ?_); at_builtin; refine Kd.R_append k54B (w0 := w) w.heap.size rfl (.tmp 17) (.tmp 23) 31 54 (.agg #[.int .i64 0, .int .i64 0, .string ⟨#[]⟩, .slice none 0 0, .slice none 0 0]) 80 rfl Try.underlying31 info54 rfl (by decide) (by decide) u_ xs (rd_T54 l i_) [.int .i64 (rd_T54 l i_).f0, .int .i64 (rd_T54 l i_).f1, .string (rd_T54 l i_).f2, u3, u4] (fun _ => True) (fun k => wr.heap.size ≤ k) rfl (by first | rfl | (go_simp; done) | (go_simp; rfl)) ?aP (fun k hk => ⟨trivial, fun he => by have := HLT.out k he.symm; omega⟩) (fun _ _ => trivial) ?aO ?aB ?aS ?aL ?_; (case aP => exact k54B_mkM _ _ _ (rd_T54 l i_) (Kd.M_lower _ HSZ.out HF3.out) (Kd.M_lower _ HSZ.out HF4.out)); (case aB => exact (by repeat (first | (with_reducible first | exact HB.out | apply below_alloc | apply pw_below_drewN | apply below_drew1) | exact HB.out))); (case aO => exact (by (with_reducible repeat (first | apply Kd.R_alloc | apply Kd.R_drewN | apply Kd.R_drew)); exact HO.out)); (case aS => exact (below_size (by repeat (first | (with_reducible first | exact HB.out | apply below_alloc | apply pw_below_drewN | apply below_drew1) | exact HB.out)))); (case aL => have := HXL.out; have := HL.out; have := HQ.out; omega); intro va_ wa_ ho hb hg hat; have n0_ := Aside0.mk hb; have n1_ := Aside0.mk ho; clear HB; clear HO; have HB := n0_; have HO := n1_; clear n0_ n1_; clear ho hb hg hat))
      go_roundg (gk - 1)
      case measure => have := HQ.out; have := HC_.out; omega
      case rel => exact ⟨i_ + 1, xs ++ [(rd_T54 l i_)], _, rfl, by rw [show wrap64 (i_ + 1) = i_ + 1 from by have := HQ.out; have := HC_.out; unfold wrap64; omega], ⟨by have := HQ.out; have := HC_.out; omega⟩, ⟨by rw [HX.out]; exact HTN.out⟩, HO, HB⟩
    · have cb : decide (i_ < (l.length : Int)) = false := decide_eq_false c_
      have hxe : xs = l := by rw [HX.out, List.take_of_length_le (by have := HQ.out; omega)]
      clear HX c_
      go_upto_region 9 with (((with_reducible refine gate_builtin (b := .append) (xs := #[.tmp 25, .tmp 27]) rfl ?_); at_builtin; refine Kd.R_append k54B (w0 := w) w.heap.size rfl (.tmp 25) (.tmp 27) 31 54 (.agg #[.int .i64 0, .int .i64 0, .string ⟨#[]⟩, .slice none 0 0, .slice none 0 0]) 80 rfl Try.underlying31 info54 rfl (by decide) (by decide) u_ xs b54 [.int .i64 (-5), .int .i64 0, .string ⟨#[]⟩, .slice none 0 0, .slice none 0 0] (fun _ => True) (fun _ => False) rfl (by first | rfl | (go_simp; done) | (go_simp; rfl)) ?aP (fun _ hk => hk.elim) (fun _ _ => trivial) ?aO ?aB ?aS ?aL ?_; (case aP => exact k54B_mkM _ _ _ b54 (.inl ⟨rfl, rfl⟩) (.inl ⟨rfl, rfl⟩)); (case aB => exact (by repeat (first | (with_reducible first | exact HB.out | apply below_alloc | apply pw_below_drewN | apply below_drew1) | exact HB.out))); (case aO => exact (by (with_reducible repeat (first | apply Kd.R_alloc | apply Kd.R_drewN | apply Kd.R_drew)); exact HO.out)); (case aS => exact (below_size (by repeat (first | (with_reducible first | exact HB.out | apply below_alloc | apply pw_below_drewN | apply below_drew1) | exact HB.out)))); (case aL => have := HXL.out; have := HL.out; have := HQ.out; omega); intro va_ wa_ ho hb hg hat; have n0_ := Aside0.mk hb; have n1_ := Aside0.mk ho; clear HB; clear HO; have HB := n0_; have HO := n1_; clear n0_ n1_; clear ho hb hg hat))
      subst hxe
      obtain ⟨A', c', rfl, hlc, _⟩ := Kd.R_reads HO.out
      have HO1 := HO.out
      clear HO
      simp only [List.length_append, List.length_singleton] at HO1 hlc
      go_wp2_with (((with_reducible refine gate_dst (N := 32) rfl ?_); refine Kd.cut_event rfl 31 54 (.tmp 29) (.tmp 31) rfl Try.underlying31 (by kernel_rfl) (A') (_) (c') (l.length) rfl (by first | rfl | (go_simp; done) | (go_simp; rfl)) (by omega) ?_))
      go_ret
      exact ⟨_, rfl, Kd.Fr.of (ok := fun _ => True) (.inr ⟨A', c', rfl, HO1⟩), HB.out⟩
end Go.Proofs.Ytkfbkjcdngipcaa.PTreeEquals
end
section
namespace Go.Proofs.Ytkfbkjcdngipcaa.PTreeEquals
open Go.RowKit Go.Proofs.YtkfbkjcdngipcaaW.PrintWords Go.Proofs.YtkfbkjcdngipcaaW.PrintLast Go.Proofs.YtkfbkjcdngipcaaW.PrintMore
attribute [local go_sem] nil24 nil25 nil26 nil31 nil32 nnil24 nnil25 nnil26 nnil31 nnil32 max2_int min2_int max_two min_two max_three min_three max_four min_four
set_option linter.unusedVariables false
set_option linter.unusedSimpArgs false
def ConOK (l7 : List S54) (l8 : List S34) : Prop := ∀ (a0 : Int) (a1 a2 a3 : ByteArray) (a4 a5 a6 a7 a8 a9 a10 a11 a12 a13 a14 a15 a16 a17 a18 a19 a20 : Int) (A7 : Option Addr) (c7 : Nat) (A8 : Option Addr) (c8 : Nat) (w : World), Kd.C k54 w A7 l7.length l7 → l7.length ≤ c7 → Kd.C k34 w A8 l8.length l8 → l8.length ≤ c8 → Calls Try.prog 20 #[.agg #[.int .i64 a0, .string a1, .string a2, .string a3, .int .i64 a4, .int .i64 a5, .int .i64 a6, .int .i64 a7, .int .i64 a8, .int .i64 a9, .int .i64 a10, .int .i64 a11, .int .i64 a12, .int .i64 a13, .int .i64 a14, .int .i64 a15, .int .i64 a16, .int .i64 a17, .int .i64 a18, .int .i64 a19, .int .i64 a20, .slice A7 l7.length c7, .slice A8 l8.length c8]] w fun e w' => ∃ v7 v8, e = .returned (.agg #[.int .i64 a0, .string a1, .string a2, .string a3, .int .i64 a4, .int .i64 a5, .int .i64 a6, .int .i64 a7, .int .i64 a8, .int .i64 a9, .int .i64 a10, .int .i64 a11, .int .i64 a12, .int .i64 a13, .int .i64 a14, .int .i64 a15, .int .i64 a16, .int .i64 a17, .int .i64 a18, .int .i64 a19, .int .i64 a20, v7, v8]) ∧ Kd.Fr (Kd.sliceB 54 k54B b54) w.heap.size w' l7 [v7] ∧ Kd.Fr (Kd.sliceB 34 k34B b34) w.heap.size w' l8 [v8] ∧ Below w.heap.size w w'
theorem ConOK.calls {l7 : List S54} {l8 : List S34} (h : ConOK l7 l8) (a0 : Int) (a1 a2 a3 : ByteArray) (a4 a5 a6 a7 a8 a9 a10 a11 a12 a13 a14 a15 a16 a17 a18 a19 a20 : Int) (A7 : Option Addr) (c7 : Nat) (A8 : Option Addr) (c8 : Nat) (w : World) (hr7 : Kd.C k54 w A7 l7.length l7) (hc7 : l7.length ≤ c7) (hr8 : Kd.C k34 w A8 l8.length l8) (hc8 : l8.length ≤ c8) : Calls Try.prog 20 #[.agg #[.int .i64 a0, .string a1, .string a2, .string a3, .int .i64 a4, .int .i64 a5, .int .i64 a6, .int .i64 a7, .int .i64 a8, .int .i64 a9, .int .i64 a10, .int .i64 a11, .int .i64 a12, .int .i64 a13, .int .i64 a14, .int .i64 a15, .int .i64 a16, .int .i64 a17, .int .i64 a18, .int .i64 a19, .int .i64 a20, .slice A7 l7.length c7, .slice A8 l8.length c8]] w fun e w' => ∃ v7 v8, e = .returned (.agg #[.int .i64 a0, .string a1, .string a2, .string a3, .int .i64 a4, .int .i64 a5, .int .i64 a6, .int .i64 a7, .int .i64 a8, .int .i64 a9, .int .i64 a10, .int .i64 a11, .int .i64 a12, .int .i64 a13, .int .i64 a14, .int .i64 a15, .int .i64 a16, .int .i64 a17, .int .i64 a18, .int .i64 a19, .int .i64 a20, v7, v8]) ∧ Kd.Fr (Kd.sliceB 54 k54B b54) w.heap.size w' l7 [v7] ∧ Kd.Fr (Kd.sliceB 34 k34B b34) w.heap.size w' l8 [v8] ∧ Below w.heap.size w w' := h a0 a1 a2 a3 a4 a5 a6 a7 a8 a9 a10 a11 a12 a13 a14 a15 a16 a17 a18 a19 a20 A7 c7 A8 c8 w hr7 hc7 hr8 hc8
theorem info34 : (Try.prog.info? 34).map (fun i => (i.zero, i.size, i.bytes)) = some (some (.agg #[.int .i64 0, .string ⟨#[]⟩, .string ⟨#[]⟩, .string ⟨#[]⟩, .int .i64 0, .int .i64 0, .int .i64 0, .int .i64 0, .int .i64 0, .int .i64 0, .int .i64 0, .int .i64 0, .int .i64 0, .int .i64 0, .int .i64 0, .int .i64 0, .int .i64 0, .int .i64 0, .int .i64 0, .int .i64 0, .int .i64 0, .slice none 0 0, .slice none 0 0]), 23, 240) := by kernel_rfl
theorem size32 : (Try.prog.info? 32).map (fun i => i.size) = some 1 := by kernel_rfl
theorem take_next34 {l : List S34} {i : Int} (h0 : 0 ≤ i) (h1 : i < l.length) : l.take i.toNat ++ [rd_T34 l i] = l.take (i + 1).toNat := by
  have h : (i + 1).toNat = i.toNat + 1 := by omega
  have hl : i.toNat < l.length := by omega
  rw [h, List.take_add_one, List.getElem?_eq_getElem hl]
  simp [rd_T34, hl]
set_option maxHeartbeats 16000000 in
set_option maxRecDepth 100000 in
theorem con.of (l7 : List S54) (l8 : List S34) (h7 : ExprsOK l7) (hl8 : l8.length * 240 ≤ 140737488351232) (hs : ∀ x ∈ l8, ConOK x.f7 x.f8) : ConOK l7 l8 := by
  intro a0 a1 a2 a3 a4 a5 a6 a7 a8 a9 a10 a11 a12 a13 a14 a15 a16 a17 a18 a19 a20 A7 c7 A8 c8 w hr7 hc7 hr8 hc8
  have hu54 := Try.underlying54
  have hu34 := Try.underlying34
  have hu31 := Try.underlying31
  have hu32 := Try.underlying32
  have HR7 := Aside0.mk hr7
  have HC7 := Aside0.mk hc7
  have HR8 := Aside0.mk hr8
  have HC8 := Aside0.mk hc8
  have HL8 := Aside0.mk hl8
  have HS := Aside0.mk hs
  have hn : l8.length < 4611686018427387904 := by omega
  have HB := Aside0.mk (Below.refl w.heap.size w)
  cases A8 with
  | none =>
    have h0 : l8 = [] := by
      rcases Nat.eq_zero_or_pos l8.length with h | h
      · exact List.eq_nil_of_length_eq_zero h
      · obtain ⟨ad, he, _⟩ := hr8.2.2 h
        cases he
    clear hr7 hc7 hr8 hc8 hl8 hs
    subst h0
    go_enter Try.func20, Try.ntmps20
    go_upto_region 2 with (first | ((with_reducible refine gate_dst (N := 1) rfl ?_); (try (refine gate_guard (by rfl) ?_; dsimp only)); refine box_event ?hg (N := 1) ?hd (cs := #[.int .i64 a0, .string a1, .string a2, .string a3, .int .i64 a4, .int .i64 a5, .int .i64 a6, .int .i64 a7, .int .i64 a8, .int .i64 a9, .int .i64 a10, .int .i64 a11, .int .i64 a12, .int .i64 a13, .int .i64 a14, .int .i64 a15, .int .i64 a16, .int .i64 a17, .int .i64 a18, .int .i64 a19, .int .i64 a20, .slice A7 l7.length c7, .slice none ([] : List S34).length c8]) (t := 34) ?hr ?_; (case hd => rfl); (case hg => rfl); (case hr => first | (go_simp; done) | (go_simp; rfl)); intro g1 hg wv1_ hbox hb; have n0_ := Aside0.mk (below_step HB.out hb); have n1_ := Aside0.mk (hbox); have n2_ := Aside0.mk ((show w.heap.size ≤ g1 by rw [hg]; exact below_size HB.out)); clear HB; have HB := n0_; have BK1 := n1_; have ORD := n2_; clear n0_ n1_ n2_; clear hb hbox hg) | ((with_reducible refine gate_dst (N := 2) rfl ?_); (try (refine gate_guard (by rfl) ?_; dsimp only)); refine box_event ?hg (N := 2) ?hd (cs := #[.int .i64 0, .string ⟨#[]⟩, .string ⟨#[]⟩, .string ⟨#[]⟩, .int .i64 0, .int .i64 0, .int .i64 0, .int .i64 0, .int .i64 0, .int .i64 0, .int .i64 0, .int .i64 0, .int .i64 0, .int .i64 0, .int .i64 0, .int .i64 0, .int .i64 0, .int .i64 0, .int .i64 0, .int .i64 0, .int .i64 0, .slice none 0 0, .slice none 0 0]) (t := 34) ?hr ?_; (case hd => rfl); (case hg => rfl); (case hr => first | (go_simp; done) | (go_simp; rfl)); intro g2 hg wv2_ hbox hb; have n0_ := Aside0.mk (below_step HB.out hb); have n1_ := Aside0.mk (blk_below BK1.out hb); have n2_ := Aside0.mk (hbox); have n3_ := Aside0.mk (And.intro ORD.out (show g1 < g2 by rw [hg]; exact blk_lt BK1.out)); clear HB BK1 ORD; have HB := n0_; have BK1 := n1_; have BK2 := n2_; have ORD := n3_; clear n0_ n1_ n2_ n3_; clear hb hbox hg) | ((with_reducible refine gate_dst (N := 5) rfl ?_); (try (refine gate_guard (by rfl) ?_; dsimp only)); refine ldb_event rfl rfl (by first | rfl | (go_simp; done) | (go_simp; rfl)) Try.underlying34 ⟨_, rfl⟩ BK1.out 23 size34 [.int .i64 a0, .string a1, .string a2, .string a3, .int .i64 a4, .int .i64 a5, .int .i64 a6, .int .i64 a7, .int .i64 a8, .int .i64 a9, .int .i64 a10, .int .i64 a11, .int .i64 a12, .int .i64 a13, .int .i64 a14, .int .i64 a15, .int .i64 a16, .int .i64 a17, .int .i64 a18, .int .i64 a19, .int .i64 a20, .slice A7 l7.length c7, .slice none ([] : List S34).length c8] rfl rfl ?_) | ((with_reducible refine gate_dst (N := 3) rfl ?_); (try (refine gate_guard (by rfl) ?_; dsimp only)); refine box_event ?hg (N := 3) ?hd (cs := #[.int .i64 0, .string ⟨#[]⟩, .string ⟨#[]⟩, .string ⟨#[]⟩, .int .i64 0, .int .i64 0, .int .i64 0, .int .i64 0, .int .i64 0, .int .i64 0, .int .i64 0, .int .i64 0, .int .i64 0, .int .i64 0, .int .i64 0, .int .i64 0, .int .i64 0, .int .i64 0, .int .i64 0, .int .i64 0, .int .i64 0, .slice none 0 0, .slice none 0 0]) (t := 34) ?hr ?_; (case hd => rfl); (case hg => rfl); (case hr => first | (go_simp; done) | (go_simp; rfl)); intro g3 hg wv3_ hbox hb; have n0_ := Aside0.mk (below_step HB.out hb); have n1_ := Aside0.mk (blk_below BK1.out hb); have n2_ := Aside0.mk (blk_below BK2.out hb); have n3_ := Aside0.mk (hbox); have n4_ := Aside0.mk (And.intro ORD.out (show g2 < g3 by rw [hg]; exact blk_lt BK2.out)); clear HB BK1 BK2 ORD; have HB := n0_; have BK1 := n1_; have BK2 := n2_; have BK3 := n3_; have ORD := n4_; clear n0_ n1_ n2_ n3_ n4_; clear hb hbox hg) | ((with_reducible refine gate_store (t := 34) (p := 3) rfl ?_); refine st_event rfl rfl rfl (g := g3) (j := 0) (by first | rfl | (go_simp; done) | (go_simp; rfl)) (u := .agg #[.int .i64 a0, .string a1, .string a2, .string a3, .int .i64 a4, .int .i64 a5, .int .i64 a6, .int .i64 a7, .int .i64 a8, .int .i64 a9, .int .i64 a10, .int .i64 a11, .int .i64 a12, .int .i64 a13, .int .i64 a14, .int .i64 a15, .int .i64 a16, .int .i64 a17, .int .i64 a18, .int .i64 a19, .int .i64 a20, .slice A7 l7.length c7, .slice none ([] : List S34).length c8]) (by first | rfl | (go_simp; done) | (go_simp; rfl)) BK3.out 23 size34 rfl (by simp) (by intro x hx; simp [Value.cells] at hx; rcases hx with rfl | rfl | rfl | rfl | rfl | rfl | rfl | rfl | rfl | rfl | rfl | rfl | rfl | rfl | rfl | rfl | rfl | rfl | rfl | rfl | rfl | rfl | rfl <;> rfl) #[.int .i64 a0, .string a1, .string a2, .string a3, .int .i64 a4, .int .i64 a5, .int .i64 a6, .int .i64 a7, .int .i64 a8, .int .i64 a9, .int .i64 a10, .int .i64 a11, .int .i64 a12, .int .i64 a13, .int .i64 a14, .int .i64 a15, .int .i64 a16, .int .i64 a17, .int .i64 a18, .int .i64 a19, .int .i64 a20, .slice A7 l7.length c7, .slice none ([] : List S34).length c8] rfl ?_; intro wv4_ hbk ho; have n0_ := Aside0.mk (Other.below ho HB.out (by have := ORD.out; omega)); have n1_ := Aside0.mk (Other.blk ho BK1.out (by have := ORD.out; omega)); have n2_ := Aside0.mk (Other.blk ho BK2.out (by have := ORD.out; omega)); have n3_ := Aside0.mk (hbk); clear HB BK1 BK2 BK3; have HB := n0_; have BK1 := n1_; have BK2 := n2_; have BK3 := n3_; clear n0_ n1_ n2_ n3_; clear hbk ho))
    go_upto_region 3 with (first | ((with_reducible refine gate_dst (N := 7) rfl ?_); (try (refine gate_guard (by rfl) ?_; dsimp only)); refine ld_event rfl rfl (by first | rfl | (go_simp; done) | (go_simp; rfl)) Try.underlying31 trivial (.slice A7 l7.length c7) ((blk_cell BK1.out 21).trans rfl) ?_) | ((with_reducible refine gate_callee (f := 34) rfl ?_); (try (refine gate_guard (by rfl) ?_; dsimp only)); refine goesL_ (some 8) rfl rfl Try.func34 (by kernel_rfl) rfl #[.slice A7 l7.length c7] rfl (by (try simp only [List.map_toArray, List.map_cons, List.map_nil]); first | done | rfl) ?_; (with_reducible refine (ExprsOK.calls h7 A7 c7 _ (Kd.C_below HR7.out HB.out) HC7.out).mono ?_); rintro e wv5_ ⟨v7, rfl, hF, hb⟩; obtain ⟨B7, d7, rfl, _, _, _⟩ := Kd.sB_read (Kd.Fr.K hF); refine ⟨_, rfl, ?_⟩; have n0_ := Aside0.mk (below_step HB.out hb); have n1_ := Aside0.mk (blk_below BK1.out hb); have n2_ := Aside0.mk (blk_below BK2.out hb); have n3_ := Aside0.mk (blk_below BK3.out hb); have n4_ := Aside0.mk (Kd.Fr.lower (b' := g3 + 1) hF (blk_lt BK3.out)); clear HB BK1 BK2 BK3; have HB := n0_; have BK1 := n1_; have BK2 := n2_; have BK3 := n3_; have FR7 := n4_; clear n0_ n1_ n2_ n3_ n4_; clear hb hF) | ((with_reducible refine gate_store (t := 31) (p := 9) rfl ?_); refine st_event rfl rfl rfl (g := g3) (j := 21) (by first | rfl | (go_simp; done) | (go_simp; rfl)) (u := (.slice B7 l7.length d7)) (by first | rfl | (go_simp; done) | (go_simp; rfl)) BK3.out 1 size31 rfl (by simp) (by intro x hx; simp [Value.cells] at hx; rcases hx with rfl <;> rfl) #[.int .i64 a0, .string a1, .string a2, .string a3, .int .i64 a4, .int .i64 a5, .int .i64 a6, .int .i64 a7, .int .i64 a8, .int .i64 a9, .int .i64 a10, .int .i64 a11, .int .i64 a12, .int .i64 a13, .int .i64 a14, .int .i64 a15, .int .i64 a16, .int .i64 a17, .int .i64 a18, .int .i64 a19, .int .i64 a20, (.slice B7 l7.length d7), .slice none ([] : List S34).length c8] rfl ?_; intro wv6_ hbk ho; have n0_ := Aside0.mk (Other.below ho HB.out (by have := ORD.out; omega)); have n1_ := Aside0.mk (Other.blk ho BK1.out (by have := ORD.out; omega)); have n2_ := Aside0.mk (Other.blk ho BK2.out (by have := ORD.out; omega)); have n3_ := Aside0.mk (hbk); have n4_ := Aside0.mk (Kd.Fr.other FR7.out ho (by have := ORD.out; omega)); clear HB BK1 BK2 BK3 FR7; have HB := n0_; have BK1 := n1_; have BK2 := n2_; have BK3 := n3_; have FR7 := n4_; clear n0_ n1_ n2_ n3_ n4_; clear hbk ho))
    go_upto_region 4 with (first | ((with_reducible refine gate_store (t := 32) (p := 10) rfl ?_); refine st_event rfl rfl rfl (g := g3) (j := 22) (by first | rfl | (go_simp; done) | (go_simp; rfl)) (u := .slice none 0 0) (by first | rfl | (go_simp; done) | (go_simp; rfl)) BK3.out 1 size32 rfl (by simp) (by intro x hx; simp [Value.cells] at hx; rcases hx with rfl <;> rfl) #[.int .i64 a0, .string a1, .string a2, .string a3, .int .i64 a4, .int .i64 a5, .int .i64 a6, .int .i64 a7, .int .i64 a8, .int .i64 a9, .int .i64 a10, .int .i64 a11, .int .i64 a12, .int .i64 a13, .int .i64 a14, .int .i64 a15, .int .i64 a16, .int .i64 a17, .int .i64 a18, .int .i64 a19, .int .i64 a20, (.slice B7 l7.length d7), .slice none 0 0] rfl ?_; intro wv7_ hbk ho; have n0_ := Aside0.mk (Other.below ho HB.out (by have := ORD.out; omega)); have n1_ := Aside0.mk (Other.blk ho BK1.out (by have := ORD.out; omega)); have n2_ := Aside0.mk (Other.blk ho BK2.out (by have := ORD.out; omega)); have n3_ := Aside0.mk (hbk); have n4_ := Aside0.mk (Kd.Fr.other FR7.out ho (by have := ORD.out; omega)); clear HB BK1 BK2 BK3 FR7; have HB := n0_; have BK1 := n1_; have BK2 := n2_; have BK3 := n3_; have FR7 := n4_; clear n0_ n1_ n2_ n3_ n4_; clear hbk ho))
    go_wp2_with (first | ((with_reducible refine gate_dst (N := 12) rfl ?_); (try (refine gate_guard (by rfl) ?_; dsimp only)); refine ld_event rfl rfl (by first | rfl | (go_simp; done) | (go_simp; rfl)) Try.underlying32 trivial (.slice none ([] : List S34).length c8) ((blk_cell BK1.out 22).trans rfl) ?_) | ((with_reducible refine gate_dst (N := 51) rfl ?_); (try (refine gate_guard (by rfl) ?_; dsimp only)); refine ldb_event rfl rfl (by first | rfl | (go_simp; done) | (go_simp; rfl)) Try.underlying34 ⟨_, rfl⟩ BK3.out 23 size34 [.int .i64 a0, .string a1, .string a2, .string a3, .int .i64 a4, .int .i64 a5, .int .i64 a6, .int .i64 a7, .int .i64 a8, .int .i64 a9, .int .i64 a10, .int .i64 a11, .int .i64 a12, .int .i64 a13, .int .i64 a14, .int .i64 a15, .int .i64 a16, .int .i64 a17, .int .i64 a18, .int .i64 a19, .int .i64 a20, (.slice B7 l7.length d7), .slice none 0 0] rfl rfl ?_) | ((with_reducible refine gate_store (t := 34) (p := 2) rfl ?_); refine st_event rfl rfl rfl (g := g2) (j := 0) (by first | rfl | (go_simp; done) | (go_simp; rfl)) (u := .agg #[.int .i64 a0, .string a1, .string a2, .string a3, .int .i64 a4, .int .i64 a5, .int .i64 a6, .int .i64 a7, .int .i64 a8, .int .i64 a9, .int .i64 a10, .int .i64 a11, .int .i64 a12, .int .i64 a13, .int .i64 a14, .int .i64 a15, .int .i64 a16, .int .i64 a17, .int .i64 a18, .int .i64 a19, .int .i64 a20, (.slice B7 l7.length d7), .slice none 0 0]) (by first | rfl | (go_simp; done) | (go_simp; rfl)) BK2.out 23 size34 rfl (by simp) (by intro x hx; simp [Value.cells] at hx; rcases hx with rfl | rfl | rfl | rfl | rfl | rfl | rfl | rfl | rfl | rfl | rfl | rfl | rfl | rfl | rfl | rfl | rfl | rfl | rfl | rfl | rfl | rfl | rfl <;> rfl) #[.int .i64 a0, .string a1, .string a2, .string a3, .int .i64 a4, .int .i64 a5, .int .i64 a6, .int .i64 a7, .int .i64 a8, .int .i64 a9, .int .i64 a10, .int .i64 a11, .int .i64 a12, .int .i64 a13, .int .i64 a14, .int .i64 a15, .int .i64 a16, .int .i64 a17, .int .i64 a18, .int .i64 a19, .int .i64 a20, (.slice B7 l7.length d7), .slice none 0 0] rfl ?_; intro wv8_ hbk ho; have n0_ := Aside0.mk (Other.below ho HB.out (by have := ORD.out; omega)); have n1_ := Aside0.mk (Other.blk ho BK1.out (by have := ORD.out; omega)); have n2_ := Aside0.mk (hbk); have n3_ := Aside0.mk (Other.blk ho BK3.out (by have := ORD.out; omega)); have n4_ := Aside0.mk (Kd.Fr.other FR7.out ho (by have := ORD.out; omega)); clear HB BK1 BK2 BK3 FR7; have HB := n0_; have BK1 := n1_; have BK2 := n2_; have BK3 := n3_; have FR7 := n4_; clear n0_ n1_ n2_ n3_ n4_; clear hbk ho))
    (try simp only [Exit.inBlock, Exit.then])
    refine bodyPost_ret (results_cell_row rfl _ _ g2 34 #[.int .i64 a0, .string a1, .string a2, .string a3, .int .i64 a4, .int .i64 a5, .int .i64 a6, .int .i64 a7, .int .i64 a8, .int .i64 a9, .int .i64 a10, .int .i64 a11, .int .i64 a12, .int .i64 a13, .int .i64 a14, .int .i64 a15, .int .i64 a16, .int .i64 a17, .int .i64 a18, .int .i64 a19, .int .i64 a20, (.slice B7 l7.length d7), .slice none 0 0] (0, 0) _ rfl BK2.out Try.underlying34 rfl size34) rfl ?_
    exact ⟨_, _, rfl, Kd.Fr.lower FR7.out (by have := ORD.out; omega), Kd.Fr.of (ok := fun _ => True) (.inl ⟨rfl, rfl⟩), HB.out⟩
  | some ad =>
  clear hr7 hc7 hr8 hc8 hl8 hs
  go_enter Try.func20, Try.ntmps20
  go_upto_region 2 with (first | ((with_reducible refine gate_dst (N := 1) rfl ?_); (try (refine gate_guard (by rfl) ?_; dsimp only)); refine box_event ?hg (N := 1) ?hd (cs := #[.int .i64 a0, .string a1, .string a2, .string a3, .int .i64 a4, .int .i64 a5, .int .i64 a6, .int .i64 a7, .int .i64 a8, .int .i64 a9, .int .i64 a10, .int .i64 a11, .int .i64 a12, .int .i64 a13, .int .i64 a14, .int .i64 a15, .int .i64 a16, .int .i64 a17, .int .i64 a18, .int .i64 a19, .int .i64 a20, .slice A7 l7.length c7, .slice (some ad) l8.length c8]) (t := 34) ?hr ?_; (case hd => rfl); (case hg => rfl); (case hr => first | (go_simp; done) | (go_simp; rfl)); intro g1 hg wv1_ hbox hb; have n0_ := Aside0.mk (below_step HB.out hb); have n1_ := Aside0.mk (hbox); have n2_ := Aside0.mk ((show w.heap.size ≤ g1 by rw [hg]; exact below_size HB.out)); clear HB; have HB := n0_; have BK1 := n1_; have ORD := n2_; clear n0_ n1_ n2_; clear hb hbox hg) | ((with_reducible refine gate_dst (N := 2) rfl ?_); (try (refine gate_guard (by rfl) ?_; dsimp only)); refine box_event ?hg (N := 2) ?hd (cs := #[.int .i64 0, .string ⟨#[]⟩, .string ⟨#[]⟩, .string ⟨#[]⟩, .int .i64 0, .int .i64 0, .int .i64 0, .int .i64 0, .int .i64 0, .int .i64 0, .int .i64 0, .int .i64 0, .int .i64 0, .int .i64 0, .int .i64 0, .int .i64 0, .int .i64 0, .int .i64 0, .int .i64 0, .int .i64 0, .int .i64 0, .slice none 0 0, .slice none 0 0]) (t := 34) ?hr ?_; (case hd => rfl); (case hg => rfl); (case hr => first | (go_simp; done) | (go_simp; rfl)); intro g2 hg wv2_ hbox hb; have n0_ := Aside0.mk (below_step HB.out hb); have n1_ := Aside0.mk (blk_below BK1.out hb); have n2_ := Aside0.mk (hbox); have n3_ := Aside0.mk (And.intro ORD.out (show g1 < g2 by rw [hg]; exact blk_lt BK1.out)); clear HB BK1 ORD; have HB := n0_; have BK1 := n1_; have BK2 := n2_; have ORD := n3_; clear n0_ n1_ n2_ n3_; clear hb hbox hg) | ((with_reducible refine gate_dst (N := 5) rfl ?_); (try (refine gate_guard (by rfl) ?_; dsimp only)); refine ldb_event rfl rfl (by first | rfl | (go_simp; done) | (go_simp; rfl)) Try.underlying34 ⟨_, rfl⟩ BK1.out 23 size34 [.int .i64 a0, .string a1, .string a2, .string a3, .int .i64 a4, .int .i64 a5, .int .i64 a6, .int .i64 a7, .int .i64 a8, .int .i64 a9, .int .i64 a10, .int .i64 a11, .int .i64 a12, .int .i64 a13, .int .i64 a14, .int .i64 a15, .int .i64 a16, .int .i64 a17, .int .i64 a18, .int .i64 a19, .int .i64 a20, .slice A7 l7.length c7, .slice (some ad) l8.length c8] rfl rfl ?_) | ((with_reducible refine gate_dst (N := 3) rfl ?_); (try (refine gate_guard (by rfl) ?_; dsimp only)); refine box_event ?hg (N := 3) ?hd (cs := #[.int .i64 0, .string ⟨#[]⟩, .string ⟨#[]⟩, .string ⟨#[]⟩, .int .i64 0, .int .i64 0, .int .i64 0, .int .i64 0, .int .i64 0, .int .i64 0, .int .i64 0, .int .i64 0, .int .i64 0, .int .i64 0, .int .i64 0, .int .i64 0, .int .i64 0, .int .i64 0, .int .i64 0, .int .i64 0, .int .i64 0, .slice none 0 0, .slice none 0 0]) (t := 34) ?hr ?_; (case hd => rfl); (case hg => rfl); (case hr => first | (go_simp; done) | (go_simp; rfl)); intro g3 hg wv3_ hbox hb; have n0_ := Aside0.mk (below_step HB.out hb); have n1_ := Aside0.mk (blk_below BK1.out hb); have n2_ := Aside0.mk (blk_below BK2.out hb); have n3_ := Aside0.mk (hbox); have n4_ := Aside0.mk (And.intro ORD.out (show g2 < g3 by rw [hg]; exact blk_lt BK2.out)); clear HB BK1 BK2 ORD; have HB := n0_; have BK1 := n1_; have BK2 := n2_; have BK3 := n3_; have ORD := n4_; clear n0_ n1_ n2_ n3_ n4_; clear hb hbox hg) | ((with_reducible refine gate_store (t := 34) (p := 3) rfl ?_); refine st_event rfl rfl rfl (g := g3) (j := 0) (by first | rfl | (go_simp; done) | (go_simp; rfl)) (u := .agg #[.int .i64 a0, .string a1, .string a2, .string a3, .int .i64 a4, .int .i64 a5, .int .i64 a6, .int .i64 a7, .int .i64 a8, .int .i64 a9, .int .i64 a10, .int .i64 a11, .int .i64 a12, .int .i64 a13, .int .i64 a14, .int .i64 a15, .int .i64 a16, .int .i64 a17, .int .i64 a18, .int .i64 a19, .int .i64 a20, .slice A7 l7.length c7, .slice (some ad) l8.length c8]) (by first | rfl | (go_simp; done) | (go_simp; rfl)) BK3.out 23 size34 rfl (by simp) (by intro x hx; simp [Value.cells] at hx; rcases hx with rfl | rfl | rfl | rfl | rfl | rfl | rfl | rfl | rfl | rfl | rfl | rfl | rfl | rfl | rfl | rfl | rfl | rfl | rfl | rfl | rfl | rfl | rfl <;> rfl) #[.int .i64 a0, .string a1, .string a2, .string a3, .int .i64 a4, .int .i64 a5, .int .i64 a6, .int .i64 a7, .int .i64 a8, .int .i64 a9, .int .i64 a10, .int .i64 a11, .int .i64 a12, .int .i64 a13, .int .i64 a14, .int .i64 a15, .int .i64 a16, .int .i64 a17, .int .i64 a18, .int .i64 a19, .int .i64 a20, .slice A7 l7.length c7, .slice (some ad) l8.length c8] rfl ?_; intro wv4_ hbk ho; have n0_ := Aside0.mk (Other.below ho HB.out (by have := ORD.out; omega)); have n1_ := Aside0.mk (Other.blk ho BK1.out (by have := ORD.out; omega)); have n2_ := Aside0.mk (Other.blk ho BK2.out (by have := ORD.out; omega)); have n3_ := Aside0.mk (hbk); clear HB BK1 BK2 BK3; have HB := n0_; have BK1 := n1_; have BK2 := n2_; have BK3 := n3_; clear n0_ n1_ n2_ n3_; clear hbk ho))
  go_upto_region 3 with (first | ((with_reducible refine gate_dst (N := 7) rfl ?_); (try (refine gate_guard (by rfl) ?_; dsimp only)); refine ld_event rfl rfl (by first | rfl | (go_simp; done) | (go_simp; rfl)) Try.underlying31 trivial (.slice A7 l7.length c7) ((blk_cell BK1.out 21).trans rfl) ?_) | ((with_reducible refine gate_callee (f := 34) rfl ?_); (try (refine gate_guard (by rfl) ?_; dsimp only)); refine goesL_ (some 8) rfl rfl Try.func34 (by kernel_rfl) rfl #[.slice A7 l7.length c7] rfl (by (try simp only [List.map_toArray, List.map_cons, List.map_nil]); first | done | rfl) ?_; (with_reducible refine (ExprsOK.calls h7 A7 c7 _ (Kd.C_below HR7.out HB.out) HC7.out).mono ?_); rintro e wv5_ ⟨v7, rfl, hF, hb⟩; obtain ⟨B7, d7, rfl, _, _, _⟩ := Kd.sB_read (Kd.Fr.K hF); refine ⟨_, rfl, ?_⟩; have n0_ := Aside0.mk (below_step HB.out hb); have n1_ := Aside0.mk (blk_below BK1.out hb); have n2_ := Aside0.mk (blk_below BK2.out hb); have n3_ := Aside0.mk (blk_below BK3.out hb); have n4_ := Aside0.mk (Kd.Fr.lower (b' := g3 + 1) hF (blk_lt BK3.out)); clear HB BK1 BK2 BK3; have HB := n0_; have BK1 := n1_; have BK2 := n2_; have BK3 := n3_; have FR7 := n4_; clear n0_ n1_ n2_ n3_ n4_; clear hb hF) | ((with_reducible refine gate_store (t := 31) (p := 9) rfl ?_); refine st_event rfl rfl rfl (g := g3) (j := 21) (by first | rfl | (go_simp; done) | (go_simp; rfl)) (u := (.slice B7 l7.length d7)) (by first | rfl | (go_simp; done) | (go_simp; rfl)) BK3.out 1 size31 rfl (by simp) (by intro x hx; simp [Value.cells] at hx; rcases hx with rfl <;> rfl) #[.int .i64 a0, .string a1, .string a2, .string a3, .int .i64 a4, .int .i64 a5, .int .i64 a6, .int .i64 a7, .int .i64 a8, .int .i64 a9, .int .i64 a10, .int .i64 a11, .int .i64 a12, .int .i64 a13, .int .i64 a14, .int .i64 a15, .int .i64 a16, .int .i64 a17, .int .i64 a18, .int .i64 a19, .int .i64 a20, (.slice B7 l7.length d7), .slice (some ad) l8.length c8] rfl ?_; intro wv6_ hbk ho; have n0_ := Aside0.mk (Other.below ho HB.out (by have := ORD.out; omega)); have n1_ := Aside0.mk (Other.blk ho BK1.out (by have := ORD.out; omega)); have n2_ := Aside0.mk (Other.blk ho BK2.out (by have := ORD.out; omega)); have n3_ := Aside0.mk (hbk); have n4_ := Aside0.mk (Kd.Fr.other FR7.out ho (by have := ORD.out; omega)); clear HB BK1 BK2 BK3 FR7; have HB := n0_; have BK1 := n1_; have BK2 := n2_; have BK3 := n3_; have FR7 := n4_; clear n0_ n1_ n2_ n3_ n4_; clear hbk ho))
  go_upto_region 4 with (first | ((with_reducible refine gate_store (t := 32) (p := 10) rfl ?_); refine st_event rfl rfl rfl (g := g3) (j := 22) (by first | rfl | (go_simp; done) | (go_simp; rfl)) (u := .slice none 0 0) (by first | rfl | (go_simp; done) | (go_simp; rfl)) BK3.out 1 size32 rfl (by simp) (by intro x hx; simp [Value.cells] at hx; rcases hx with rfl <;> rfl) #[.int .i64 a0, .string a1, .string a2, .string a3, .int .i64 a4, .int .i64 a5, .int .i64 a6, .int .i64 a7, .int .i64 a8, .int .i64 a9, .int .i64 a10, .int .i64 a11, .int .i64 a12, .int .i64 a13, .int .i64 a14, .int .i64 a15, .int .i64 a16, .int .i64 a17, .int .i64 a18, .int .i64 a19, .int .i64 a20, (.slice B7 l7.length d7), .slice none 0 0] rfl ?_; intro wv7_ hbk ho; have n0_ := Aside0.mk (Other.below ho HB.out (by have := ORD.out; omega)); have n1_ := Aside0.mk (Other.blk ho BK1.out (by have := ORD.out; omega)); have n2_ := Aside0.mk (Other.blk ho BK2.out (by have := ORD.out; omega)); have n3_ := Aside0.mk (hbk); have n4_ := Aside0.mk (Kd.Fr.other FR7.out ho (by have := ORD.out; omega)); clear HB BK1 BK2 BK3 FR7; have HB := n0_; have BK1 := n1_; have BK2 := n2_; have BK3 := n3_; have FR7 := n4_; clear n0_ n1_ n2_ n3_ n4_; clear hbk ho))
  have ASZ := Aside0.mk (show g3 + 1 ≤ _ from blk_lt BK3.out)
  go_upto_region 6 with (first | ((with_reducible refine gate_dst (N := 12) rfl ?_); (try (refine gate_guard (by rfl) ?_; dsimp only)); refine ld_event rfl rfl (by first | rfl | (go_simp; done) | (go_simp; rfl)) Try.underlying32 trivial (.slice (some ad) l8.length c8) ((blk_cell BK1.out 22).trans rfl) ?_) | ((with_reducible refine gate_dst (N := 15) rfl ?_); (try (refine gate_guard (by rfl) ?_; dsimp only)); refine ld_event rfl rfl (by first | rfl | (go_simp; done) | (go_simp; rfl)) Try.underlying32 trivial (.slice (some ad) l8.length c8) ((blk_cell BK1.out 22).trans rfl) ?_) | ((with_reducible refine gate_dst (N := 18) rfl ?_); refine Kd.R_make0 k34B (g3 + 1) 34 rfl (N := 18) rfl 32 (.const (.int .i64 0)) (.tmp 17) rfl (l8.length + 1) rfl (by first | rfl | (go_simp; done) | (go_simp; rfl)) Try.underlying32 (.agg #[.int .i64 0, .string ⟨#[]⟩, .string ⟨#[]⟩, .string ⟨#[]⟩, .int .i64 0, .int .i64 0, .int .i64 0, .int .i64 0, .int .i64 0, .int .i64 0, .int .i64 0, .int .i64 0, .int .i64 0, .int .i64 0, .int .i64 0, .int .i64 0, .int .i64 0, .int .i64 0, .int .i64 0, .int .i64 0, .int .i64 0, .slice none 0 0, .slice none 0 0]) 240 info34 (by decide) (by have := HL8.out; omega) (Below.refl _ _) ASZ.out ?_; intro gr_ wv8_ hg_ hr_ hb hb2; have n0_ := Aside0.mk (below_step HB.out hb2); have n1_ := Aside0.mk (blk_below BK1.out hb2); have n2_ := Aside0.mk (blk_below BK2.out hb2); have n3_ := Aside0.mk (blk_below BK3.out hb2); have n4_ := Aside0.mk (Kd.Fr.below FR7.out hb2); have n5_ := Aside0.mk (Kd.R_mono (Kd.R_bound hr_) (fun k hk => hk.2.1)); clear HB BK1 BK2 BK3 FR7; have HB := n0_; have BK1 := n1_; have BK2 := n2_; have BK3 := n3_; have FR7 := n4_; have RO := n5_; clear n0_ n1_ n2_ n3_ n4_ n5_; clear hg_ hr_ hb hb2) | ((with_reducible refine gate_store (t := 32) (p := 19) rfl ?_); refine st_event rfl rfl rfl (g := g3) (j := 22) (by first | rfl | (go_simp; done) | (go_simp; rfl)) (u := (.slice (some ⟨gr_, 0, none⟩) 0 (l8.length + 1))) (by first | rfl | (go_simp; done) | (go_simp; rfl)) BK3.out 1 size32 rfl (by simp) (by intro x hx; simp [Value.cells] at hx; rcases hx with rfl <;> rfl) #[.int .i64 a0, .string a1, .string a2, .string a3, .int .i64 a4, .int .i64 a5, .int .i64 a6, .int .i64 a7, .int .i64 a8, .int .i64 a9, .int .i64 a10, .int .i64 a11, .int .i64 a12, .int .i64 a13, .int .i64 a14, .int .i64 a15, .int .i64 a16, .int .i64 a17, .int .i64 a18, .int .i64 a19, .int .i64 a20, (.slice B7 l7.length d7), (.slice (some ⟨gr_, 0, none⟩) 0 (l8.length + 1))] rfl ?_; intro wv9_ hbk ho; have n0_ := Aside0.mk (Other.below ho HB.out (by have := ORD.out; omega)); have n1_ := Aside0.mk (Other.blk ho BK1.out (by have := ORD.out; omega)); have n2_ := Aside0.mk (Other.blk ho BK2.out (by have := ORD.out; omega)); have n3_ := Aside0.mk (hbk); have n4_ := Aside0.mk (Kd.Fr.other FR7.out ho (by have := ORD.out; omega)); have n5_ := Aside0.mk (Kd.R_step RO.out (fun k hk_ _ => ho.block k (by have := ORD.out; omega))); clear HB BK1 BK2 BK3 FR7 RO; have HB := n0_; have BK1 := n1_; have BK2 := n2_; have BK3 := n3_; have FR7 := n4_; have RO := n5_; clear n0_ n1_ n2_ n3_ n4_ n5_; clear hbk ho))
  clear ASZ
  go_wp2
  go_loopg [4] l8.length (fun kq v4 w' => ∃ (i_ : Int) (xs : List S34) (Au_ : Option Addr) (cu_ : Nat), v4 = .int .i64 i_ ∧ Aside0 (0 ≤ i_ ∧ i_ + (kq : Int) = (l8.length : Int)) ∧ Aside0 (xs = l8.take i_.toNat) ∧ Aside0 (Kd.R k34B 34 w' (g3 + 1) (fun k => g3 + 1 ≤ k) (.slice Au_ xs.length cu_) xs) ∧ Aside0 (Kd.Fr (Kd.sliceB 54 k54B b54) (g3 + 1) w' l7 [.slice B7 l7.length d7]) ∧ Aside0 (w'.heap[g1]? = some (.cells #[.int .i64 a0, .string a1, .string a2, .string a3, .int .i64 a4, .int .i64 a5, .int .i64 a6, .int .i64 a7, .int .i64 a8, .int .i64 a9, .int .i64 a10, .int .i64 a11, .int .i64 a12, .int .i64 a13, .int .i64 a14, .int .i64 a15, .int .i64 a16, .int .i64 a17, .int .i64 a18, .int .i64 a19, .int .i64 a20, .slice A7 l7.length c7, .slice (some ad) l8.length c8] 34 (0, 0))) ∧ Aside0 (w'.heap[g2]? = some (.cells #[.int .i64 0, .string ⟨#[]⟩, .string ⟨#[]⟩, .string ⟨#[]⟩, .int .i64 0, .int .i64 0, .int .i64 0, .int .i64 0, .int .i64 0, .int .i64 0, .int .i64 0, .int .i64 0, .int .i64 0, .int .i64 0, .int .i64 0, .int .i64 0, .int .i64 0, .int .i64 0, .int .i64 0, .int .i64 0, .int .i64 0, .slice none 0 0, .slice none 0 0] 34 (0, 0))) ∧ Aside0 (w'.heap[g3]? = some (.cells #[.int .i64 a0, .string a1, .string a2, .string a3, .int .i64 a4, .int .i64 a5, .int .i64 a6, .int .i64 a7, .int .i64 a8, .int .i64 a9, .int .i64 a10, .int .i64 a11, .int .i64 a12, .int .i64 a13, .int .i64 a14, .int .i64 a15, .int .i64 a16, .int .i64 a17, .int .i64 a18, .int .i64 a19, .int .i64 a20, (.slice B7 l7.length d7), (.slice Au_ xs.length cu_)] 34 (0, 0))) ∧ Aside0 (Below w.heap.size w w'))
  case atStart => exact ⟨0, [], _, _, rfl, ⟨by omega, by omega⟩, ⟨rfl⟩, RO, FR7, BK1, BK2, BK3, HB⟩
  case round =>
    clear RO FR7 BK1 BK2 BK3 HB
    obtain ⟨i_, xs, Au_, cu_, rfl, HQ, HX, RO, FR7, BK1, BK2, BK3, HB⟩ := hrel
    have HXL := Aside0.mk (show xs.length ≤ l8.length ∧ (xs.length : Int) = i_ by rw [HX.out, List.length_take]; have := HQ.out; omega)
    by_cases c_ : i_ < (l8.length : Int)
    · have cb : decide (i_ < (l8.length : Int)) = true := decide_eq_true c_
      have p_ : 0 ≤ i_ := HQ.out.1
      obtain ⟨ad1, cv_, e_, _, hK_, hc0_⟩ := Kd.C_get HR8.out z34 i_ p_ c_
      cases e_
      obtain ⟨B7e, d7e, B8e, d8e, rfl, hl7, hi7, hl8, hi8⟩ := k34_open hK_
      have HCS := Aside0.mk (show CSat wr (ad.add (i_.toNat * 23)) [.int .i64 (rd_T34 l8 i_).f0, .string (rd_T34 l8 i_).f1, .string (rd_T34 l8 i_).f2, .string (rd_T34 l8 i_).f3, .int .i64 (rd_T34 l8 i_).f4, .int .i64 (rd_T34 l8 i_).f5.f0, .int .i64 (rd_T34 l8 i_).f5.f1, .int .i64 (rd_T34 l8 i_).f5.f2, .int .i64 (rd_T34 l8 i_).f6.f0, .int .i64 (rd_T34 l8 i_).f6.f1, .int .i64 (rd_T34 l8 i_).f6.f2, .int .i64 (rd_T34 l8 i_).f6.f3, .int .i64 (rd_T34 l8 i_).f6.f4.f0, .int .i64 (rd_T34 l8 i_).f6.f4.f1, .int .i64 (rd_T34 l8 i_).f6.f4.f2, .int .i64 (rd_T34 l8 i_).f6.f5.f0, .int .i64 (rd_T34 l8 i_).f6.f5.f1, .int .i64 (rd_T34 l8 i_).f6.f5.f2, .int .i64 (rd_T34 l8 i_).f6.f6.f0, .int .i64 (rd_T34 l8 i_).f6.f6.f1, .int .i64 (rd_T34 l8 i_).f6.f7, .slice B7e (rd_T34 l8 i_).f7.length d7e, .slice B8e (rd_T34 l8 i_).f8.length d8e] from fun j v hj => by have h1 := hc0_ j v hj; have h2 := (HB.out.cell (World.block_lt_of_cell? w _ h1)).trans h1; rw [World_add_add]; exact h2)
      have HE7 := Aside0.mk (show Kd.C k54 w B7e (rd_T34 l8 i_).f7.length (rd_T34 l8 i_).f7 from hi7)
      have HE7c := Aside0.mk (show (rd_T34 l8 i_).f7.length ≤ d7e from hl7)
      have HE8 := Aside0.mk (show Kd.C k34 w B8e (rd_T34 l8 i_).f8.length (rd_T34 l8 i_).f8 from hi8)
      have HE8c := Aside0.mk (show (rd_T34 l8 i_).f8.length ≤ d8e from hl8)
      have HM := Aside0.mk (rd_mem34 p_ c_)
      clear hK_ hc0_ hi7 hi8 hl7 hl8
      have HC_ := Aside0.mk c_
      have HTN := Aside0.mk (take_next34 p_ c_)
      replace p_ := eq_true p_
      replace c_ := eq_true c_
      go_upto_region 9 with (first | ((with_reducible refine gate_dst (N := 22) rfl ?_); (try (refine gate_guard (by rfl) ?_; dsimp only)); refine ld_event rfl rfl (by first | rfl | (go_simp; done) | (go_simp; rfl)) Try.underlying32 trivial (.slice (some ad) l8.length c8) ((blk_cell BK1.out 22).trans rfl) ?_))
      refine start_ (n := 12) (S := fun w' => w'.heap[g1]? = some (.cells #[.int .i64 a0, .string a1, .string a2, .string a3, .int .i64 a4, .int .i64 a5, .int .i64 a6, .int .i64 a7, .int .i64 a8, .int .i64 a9, .int .i64 a10, .int .i64 a11, .int .i64 a12, .int .i64 a13, .int .i64 a14, .int .i64 a15, .int .i64 a16, .int .i64 a17, .int .i64 a18, .int .i64 a19, .int .i64 a20, .slice A7 l7.length c7, .slice (some ad) l8.length c8] 34 (0, 0)) ∧ w'.heap[g2]? = some (.cells #[.int .i64 0, .string ⟨#[]⟩, .string ⟨#[]⟩, .string ⟨#[]⟩, .int .i64 0, .int .i64 0, .int .i64 0, .int .i64 0, .int .i64 0, .int .i64 0, .int .i64 0, .int .i64 0, .int .i64 0, .int .i64 0, .int .i64 0, .int .i64 0, .int .i64 0, .int .i64 0, .int .i64 0, .int .i64 0, .int .i64 0, .slice none 0 0, .slice none 0 0] 34 (0, 0)) ∧ w'.heap[g3]? = some (.cells #[.int .i64 a0, .string a1, .string a2, .string a3, .int .i64 a4, .int .i64 a5, .int .i64 a6, .int .i64 a7, .int .i64 a8, .int .i64 a9, .int .i64 a10, .int .i64 a11, .int .i64 a12, .int .i64 a13, .int .i64 a14, .int .i64 a15, .int .i64 a16, .int .i64 a17, .int .i64 a18, .int .i64 a19, .int .i64 a20, (.slice B7 l7.length d7), (.slice Au_ xs.length cu_)] 34 (0, 0)) ∧ CSat w' (ad.add (i_.toNat * 23)) [.int .i64 (rd_T34 l8 i_).f0, .string (rd_T34 l8 i_).f1, .string (rd_T34 l8 i_).f2, .string (rd_T34 l8 i_).f3, .int .i64 (rd_T34 l8 i_).f4, .int .i64 (rd_T34 l8 i_).f5.f0, .int .i64 (rd_T34 l8 i_).f5.f1, .int .i64 (rd_T34 l8 i_).f5.f2, .int .i64 (rd_T34 l8 i_).f6.f0, .int .i64 (rd_T34 l8 i_).f6.f1, .int .i64 (rd_T34 l8 i_).f6.f2, .int .i64 (rd_T34 l8 i_).f6.f3, .int .i64 (rd_T34 l8 i_).f6.f4.f0, .int .i64 (rd_T34 l8 i_).f6.f4.f1, .int .i64 (rd_T34 l8 i_).f6.f4.f2, .int .i64 (rd_T34 l8 i_).f6.f5.f0, .int .i64 (rd_T34 l8 i_).f6.f5.f1, .int .i64 (rd_T34 l8 i_).f6.f5.f2, .int .i64 (rd_T34 l8 i_).f6.f6.f0, .int .i64 (rd_T34 l8 i_).f6.f6.f1, .int .i64 (rd_T34 l8 i_).f6.f7, .slice B7e (rd_T34 l8 i_).f7.length d7e, .slice B8e (rd_T34 l8 i_).f8.length d8e]) (ds := [9, 11]) #[false, false, false, false, false, false, false, false, false, false, false, false] (by kernel_rfl) rfl rfl ⟨blk_below BK1.out (below_drew1 (Below.refl _ _)), blk_below BK2.out (below_drew1 (Below.refl _ _)), blk_below BK3.out (below_drew1 (Below.refl _ _)), CSat.below HCS.out (below_drew1 (Below.refl _ _))⟩ (fun hHeld => ?_)
      have n0_ := Aside0.mk (below_drew1 HB.out)
      have n1_ := Aside0.mk (blk_drew BK1.out)
      have n2_ := Aside0.mk (blk_drew BK2.out)
      have n3_ := Aside0.mk (blk_drew BK3.out)
      have n4_ := Aside0.mk (Kd.Fr.below FR7.out (below_drew1 (Below.refl _ _)))
      have n5_ := Aside0.mk (Kd.R_drew RO.out)
      have n6_ := Aside0.mk (CSat.below HCS.out (below_drew1 (Below.refl _ _)))
      clear HB BK1 BK2 BK3 FR7 RO HCS
      have HB := n0_
      have BK1 := n1_
      have BK2 := n2_
      have BK3 := n3_
      have FR7 := n4_
      have RO := n5_
      have HCS := n6_
      clear n0_ n1_ n2_ n3_ n4_ n5_ n6_
      generalize wr.drew = wv10_ at HB BK1 BK2 BK3 FR7 RO HCS hHeld ⊢
      refine pure_ (i := 0) (N := some 27) (v := ?_) (a' := ?_) #[true, false, false, false, false, false, false, false, false, false, false, false] rfl rfl (by kernel_rfl) (fun _ _ _ h => h) (Or.inl ⟨by rfl, ?_⟩) ?_ ?_
      rotate_left
      · intro w'
        go_simp
        with_reducible rfl
      rotate_left
      · simp only [Act.put, List.setIfInBounds_toArray, List.set_cons_zero, List.set_cons_succ, i64_w, i32_w]
        rfl
      refine pure_ (i := 2) (N := some 29) (v := ?_) (a' := ?_) #[true, false, true, false, false, false, false, false, false, false, false, false] rfl rfl (by kernel_rfl) (fun _ _ _ h => h) (Or.inl ⟨by rfl, ?_⟩) ?_ ?_
      rotate_left
      · intro w'
        go_simp
        with_reducible rfl
      rotate_left
      · simp only [Act.put, List.setIfInBounds_toArray, List.set_cons_zero, List.set_cons_succ, i64_w, i32_w]
        rfl
      refine pure_ (i := 4) (N := some 31) (v := ?_) (a' := ?_) #[true, false, true, false, true, false, false, false, false, false, false, false] rfl rfl (by kernel_rfl) (fun _ _ _ h => h) (Or.inl ⟨by rfl, ?_⟩) ?_ ?_
      rotate_left
      · intro w'
        go_simp
        with_reducible rfl
      rotate_left
      · simp only [Act.put, List.setIfInBounds_toArray, List.set_cons_zero, List.set_cons_succ, i64_w, i32_w]
        rfl
      refine take_ (i := 1) (N := some 28) (v := ?_) (a' := ?_) #[true, true, true, false, true, false, false, false, false, false, false, false] rfl rfl (by kernel_rfl) (fun _ _ _ h => h) (Or.inl ⟨by rfl, ?_⟩) hHeld ?_ ?_
      rotate_left
      · rintro w' ⟨s1, s2, s3, x0⟩
        refine Eq.trans (ld_run rfl (by first | rfl | (go_simp; done) | (go_simp; rfl)) Try.underlying32 trivial ((.slice Au_ xs.length cu_)) ((blk_cell s3 22).trans rfl)) ?_
        with_reducible rfl
      rotate_left
      · simp only [Act.put, List.setIfInBounds_toArray, List.set_cons_zero, List.set_cons_succ, i64_w, i32_w]
        rfl
      refine take_ (i := 3) (N := some 30) (v := ?_) (a' := ?_) #[true, true, true, true, true, false, false, false, false, false, false, false] rfl rfl (by kernel_rfl) (fun _ _ _ h => h) (Or.inl ⟨by rfl, ?_⟩) hHeld ?_ ?_
      rotate_left
      · rintro w' ⟨s1, s2, s3, x0⟩
        refine Eq.trans (ld_run rfl (by first | rfl | (go_simp; done) | (go_simp; rfl)) Try.underlying32 trivial (.slice (some ad) l8.length c8) ((blk_cell s1 22).trans rfl)) ?_
        with_reducible rfl
      rotate_left
      · simp only [Act.put, List.setIfInBounds_toArray, List.set_cons_zero, List.set_cons_succ, i64_w, i32_w]
        rfl
      refine pure_ (i := 5) (N := some 32) (v := ?_) (a' := ?_) #[true, true, true, true, true, true, false, false, false, false, false, false] rfl rfl (by kernel_rfl) (fun _ _ _ h => h) (Or.inl ⟨by rfl, ?_⟩) ?_ ?_
      rotate_left
      · intro w'
        go_simp
        with_reducible rfl
      rotate_left
      · simp only [Act.put, List.setIfInBounds_toArray, List.set_cons_zero, List.set_cons_succ, i64_w, i32_w]
        rfl
      refine take_ (i := 6) (N := some 33) (v := ?_) (a' := ?_) #[true, true, true, true, true, true, true, false, false, false, false, false] rfl rfl (by kernel_rfl) (fun _ _ _ h => h) (Or.inl ⟨by rfl, ?_⟩) hHeld ?_ ?_
      rotate_left
      · rintro w' ⟨s1, s2, s3, x0⟩
        refine Eq.trans (lds_run rfl (by first | rfl | (go_simp; done) | (go_simp; rfl)) Try.underlying34 ⟨_, rfl⟩ [.int .i64 (rd_T34 l8 i_).f0, .string (rd_T34 l8 i_).f1, .string (rd_T34 l8 i_).f2, .string (rd_T34 l8 i_).f3, .int .i64 (rd_T34 l8 i_).f4, .int .i64 (rd_T34 l8 i_).f5.f0, .int .i64 (rd_T34 l8 i_).f5.f1, .int .i64 (rd_T34 l8 i_).f5.f2, .int .i64 (rd_T34 l8 i_).f6.f0, .int .i64 (rd_T34 l8 i_).f6.f1, .int .i64 (rd_T34 l8 i_).f6.f2, .int .i64 (rd_T34 l8 i_).f6.f3, .int .i64 (rd_T34 l8 i_).f6.f4.f0, .int .i64 (rd_T34 l8 i_).f6.f4.f1, .int .i64 (rd_T34 l8 i_).f6.f4.f2, .int .i64 (rd_T34 l8 i_).f6.f5.f0, .int .i64 (rd_T34 l8 i_).f6.f5.f1, .int .i64 (rd_T34 l8 i_).f6.f5.f2, .int .i64 (rd_T34 l8 i_).f6.f6.f0, .int .i64 (rd_T34 l8 i_).f6.f6.f1, .int .i64 (rd_T34 l8 i_).f6.f7, .slice B7e (rd_T34 l8 i_).f7.length d7e, .slice B8e (rd_T34 l8 i_).f8.length d8e] size34 x0) ?_
        with_reducible rfl
      rotate_left
      · simp only [Act.put, List.setIfInBounds_toArray, List.set_cons_zero, List.set_cons_succ, i64_w, i32_w]
        rfl
      have HSZ := Aside0.mk (below_size HB.out)
      have HLT := Aside0.mk (Kd.R_lt RO.out)
      obtain ⟨bs_, hbs_⟩ : ∃ n, n = wv10_.heap.size := ⟨_, rfl⟩
      have HBS := Aside0.mk hbs_
      clear hbs_
      have HG3 := Aside0.mk (show g3 < bs_ by rw [HBS.out]; exact blk_lt BK3.out)
      refine one_ (i := 7) (N := some 34) #[true, true, true, true, true, true, true, true, false, false, false, false] rfl rfl (by kernel_rfl) (by decide) (fun K hK => ?_)
      refine goes_ Try.func20 (by kernel_rfl) rfl #[.agg #[.int .i64 (rd_T34 l8 i_).f0, .string (rd_T34 l8 i_).f1, .string (rd_T34 l8 i_).f2, .string (rd_T34 l8 i_).f3, .int .i64 (rd_T34 l8 i_).f4, .int .i64 (rd_T34 l8 i_).f5.f0, .int .i64 (rd_T34 l8 i_).f5.f1, .int .i64 (rd_T34 l8 i_).f5.f2, .int .i64 (rd_T34 l8 i_).f6.f0, .int .i64 (rd_T34 l8 i_).f6.f1, .int .i64 (rd_T34 l8 i_).f6.f2, .int .i64 (rd_T34 l8 i_).f6.f3, .int .i64 (rd_T34 l8 i_).f6.f4.f0, .int .i64 (rd_T34 l8 i_).f6.f4.f1, .int .i64 (rd_T34 l8 i_).f6.f4.f2, .int .i64 (rd_T34 l8 i_).f6.f5.f0, .int .i64 (rd_T34 l8 i_).f6.f5.f1, .int .i64 (rd_T34 l8 i_).f6.f5.f2, .int .i64 (rd_T34 l8 i_).f6.f6.f0, .int .i64 (rd_T34 l8 i_).f6.f6.f1, .int .i64 (rd_T34 l8 i_).f6.f7, .slice B7e (rd_T34 l8 i_).f7.length d7e, .slice B8e (rd_T34 l8 i_).f8.length d8e]] (by rfl) rfl rfl (by (try simp only [List.map_toArray, List.map_cons, List.map_nil]); first | done | rfl) ?_
      with_reducible refine (ConOK.calls (HS.out _ HM.out) _ _ _ _ _ _ _ _ _ _ _ _ _ _ _ _ _ _ _ _ _ B7e d7e B8e d8e _ (Kd.C_below HE7.out HB.out) HE7c.out (Kd.C_below HE8.out HB.out) HE8c.out).mono ?_
      rintro e wv11_ ⟨u7, u8, rfl, hF7, hF8, hb⟩
      rw [← HBS.out] at hF7 hF8
      have HF7 := Aside0.mk hF7
      have HF8 := Aside0.mk hF8
      have ASZ := Aside0.mk (Nat.le_trans (Nat.succ_le_of_lt HG3.out) (by rw [HBS.out]; exact hb.size))
      refine ⟨_, rfl, ?_⟩
      have n0_ := Aside0.mk (below_step HB.out hb)
      have n1_ := Aside0.mk (blk_below BK1.out hb)
      have n2_ := Aside0.mk (blk_below BK2.out hb)
      have n3_ := Aside0.mk (blk_below BK3.out hb)
      have n4_ := Aside0.mk (Kd.Fr.below FR7.out hb)
      have n5_ := Aside0.mk (Kd.R_below RO.out hb)
      have n6_ := Aside0.mk (CSat.below HCS.out hb)
      clear HB BK1 BK2 BK3 FR7 RO HCS
      have HB := n0_
      have BK1 := n1_
      have BK2 := n2_
      have BK3 := n3_
      have FR7 := n4_
      have RO := n5_
      have HCS := n6_
      clear n0_ n1_ n2_ n3_ n4_ n5_ n6_
      clear hb hF7 hF8
      refine hK.out _ _ ⟨BK1.out, BK2.out, BK3.out, HCS.out⟩ (fun hHeld => ?_)
      clear hK K
      refine norm_ (a' := ?_) ?_ ?_
      rotate_left
      · show Act.put _ (some 34) _ = _
        simp only [Act.put, List.setIfInBounds_toArray, List.set_cons_zero, List.set_cons_succ, i64_w, i32_w]
        rfl
      refine one_ (i := 8) (N := some 35) #[true, true, true, true, true, true, true, true, true, false, false, false] rfl rfl (by kernel_rfl) (by decide) (fun K hK => ?_)
      refine value_ (w1 := ?_) (v := ?_) (by rfl) rfl ?_ ?_
      rotate_left 2
      · go_simp
        constructor
        · rfl
        · rfl
      refine hK.out _ _ ⟨blk_below BK1.out (below_alloc (Below.refl _ _) _), blk_below BK2.out (below_alloc (Below.refl _ _) _), blk_below BK3.out (below_alloc (Below.refl _ _) _), CSat.below HCS.out (below_alloc (Below.refl _ _) _)⟩ (fun hHeld => ?_)
      clear hK K
      refine norm_ (a' := ?_) ?_ ?_
      rotate_left
      · show Act.put _ (some 35) _ = _
        simp only [Act.put, List.setIfInBounds_toArray, List.set_cons_zero, List.set_cons_succ, i64_w, i32_w]
        rfl
      refine last_ (i := 9) (N := some 36) #[true, true, true, true, true, true, true, true, true, true, false, false] rfl rfl (by kernel_rfl) (by decide) (fun K hK => ?_)
      have HRB := Aside0.mk (Kd.R_base RO.out)
      have HRT := Aside0.mk (Kd.R_typed RO.out)
      refine Kd.R_append_step k34B (g3 + 1) (by rfl) (.tmp 28) (.tmp 35) 32 34 (.agg #[.int .i64 0, .string ⟨#[]⟩, .string ⟨#[]⟩, .string ⟨#[]⟩, .int .i64 0, .int .i64 0, .int .i64 0, .int .i64 0, .int .i64 0, .int .i64 0, .int .i64 0, .int .i64 0, .int .i64 0, .int .i64 0, .int .i64 0, .int .i64 0, .int .i64 0, .int .i64 0, .int .i64 0, .int .i64 0, .int .i64 0, .slice none 0 0, .slice none 0 0]) 240 rfl Try.underlying32 info34 rfl (by decide) (by decide) (.slice Au_ xs.length cu_) xs (rd_T34 l8 i_) [.int .i64 (rd_T34 l8 i_).f0, .string (rd_T34 l8 i_).f1, .string (rd_T34 l8 i_).f2, .string (rd_T34 l8 i_).f3, .int .i64 (rd_T34 l8 i_).f4, .int .i64 (rd_T34 l8 i_).f5.f0, .int .i64 (rd_T34 l8 i_).f5.f1, .int .i64 (rd_T34 l8 i_).f5.f2, .int .i64 (rd_T34 l8 i_).f6.f0, .int .i64 (rd_T34 l8 i_).f6.f1, .int .i64 (rd_T34 l8 i_).f6.f2, .int .i64 (rd_T34 l8 i_).f6.f3, .int .i64 (rd_T34 l8 i_).f6.f4.f0, .int .i64 (rd_T34 l8 i_).f6.f4.f1, .int .i64 (rd_T34 l8 i_).f6.f4.f2, .int .i64 (rd_T34 l8 i_).f6.f5.f0, .int .i64 (rd_T34 l8 i_).f6.f5.f1, .int .i64 (rd_T34 l8 i_).f6.f5.f2, .int .i64 (rd_T34 l8 i_).f6.f6.f0, .int .i64 (rd_T34 l8 i_).f6.f6.f1, .int .i64 (rd_T34 l8 i_).f6.f7, u7, u8] (fun k => g3 + 1 ≤ k) (fun k => bs_ ≤ k) rfl (by first | rfl | (go_simp; done) | (go_simp; rfl)) ?aP (fun k hk => ⟨Nat.le_trans HG3.out hk, fun he => by have := HLT.out k he.symm; rw [← HBS.out] at this; omega⟩) ?aF ?aO (Below.refl _ _) ?aS ?aL ?_
      (case aP => exact k34B_mkM _ _ _ (rd_T34 l8 i_) (Kd.M_lower _ HG3.out HF7.out) (Kd.M_lower _ HG3.out HF8.out))
      (case aF => exact (fun k hk => Nat.le_trans ASZ.out hk))
      (case aO => exact (by (with_reducible repeat (first | apply Kd.R_alloc | apply Kd.R_drewN | apply Kd.R_drew)); exact RO.out))
      (case aS => exact ASZ.out)
      (case aL => have := HXL.out; have := HL8.out; have := HQ.out; omega)
      intro v9_ wv12_ ho hb hg hat
      obtain ⟨A9_, c9_, rfl⟩ := Kd.R_slice ho
      have n0_ := Aside0.mk (below_weaken HB.out (by have := ORD.out; omega) hb)
      have n1_ := Aside0.mk (blk_grown BK1.out hg (fun he => by have := HRB.out _ he.symm; have := ORD.out; omega))
      have n2_ := Aside0.mk (blk_grown BK2.out hg (fun he => by have := HRB.out _ he.symm; have := ORD.out; omega))
      have n3_ := Aside0.mk (blk_grown BK3.out hg (fun he => by have := HRB.out _ he.symm; have := ORD.out; omega))
      have n4_ := Aside0.mk (Kd.Fr.typed FR7.out hg HRT.out (by decide))
      have n5_ := Aside0.mk (ho)
      clear HB BK1 BK2 BK3 FR7 RO
      have HB := n0_
      have BK1 := n1_
      have BK2 := n2_
      have BK3 := n3_
      have FR7 := n4_
      have RO := n5_
      clear n0_ n1_ n2_ n3_ n4_ n5_
      clear ho hb hg hat HRB HRT
      refine hK.out _ _ ?_
      clear hK K
      refine norm_ (a' := ?_) ?_ ?_
      rotate_left
      · show Act.put _ (some 36) _ = _
        simp only [Act.put, List.setIfInBounds_toArray, List.set_cons_zero, List.set_cons_succ, i64_w, i32_w]
        rfl
      refine pure_ (i := 10) (N := some 37) (v := ?_) (a' := ?_) #[true, true, true, true, true, true, true, true, true, true, true, false] rfl rfl (by kernel_rfl) (fun _ _ _ h => h) (Or.inl ⟨by rfl, ?_⟩) ?_ ?_
      rotate_left
      · intro w'
        go_simp
        with_reducible rfl
      rotate_left
      · simp only [Act.put, List.setIfInBounds_toArray, List.set_cons_zero, List.set_cons_succ, i64_w, i32_w]
        rfl
      refine last_ (i := 11) (N := none) #[true, true, true, true, true, true, true, true, true, true, true, true] rfl rfl (by kernel_rfl) (by decide) (fun K hK => ?_)
      refine st_step (by rfl) rfl rfl (g := g3) (j := 22) (by first | rfl | (go_simp; done) | (go_simp; rfl)) (u := (.slice A9_ (xs ++ [(rd_T34 l8 i_)]).length c9_)) (by first | rfl | (go_simp; done) | (go_simp; rfl)) BK3.out 1 size32 rfl (by simp) (by intro x hx; simp [Value.cells] at hx; rcases hx with rfl <;> rfl) #[.int .i64 a0, .string a1, .string a2, .string a3, .int .i64 a4, .int .i64 a5, .int .i64 a6, .int .i64 a7, .int .i64 a8, .int .i64 a9, .int .i64 a10, .int .i64 a11, .int .i64 a12, .int .i64 a13, .int .i64 a14, .int .i64 a15, .int .i64 a16, .int .i64 a17, .int .i64 a18, .int .i64 a19, .int .i64 a20, (.slice B7 l7.length d7), (.slice A9_ (xs ++ [(rd_T34 l8 i_)]).length c9_)] rfl ?_
      intro wv13_ hbk ho
      have n0_ := Aside0.mk (Other.below ho HB.out (by have := ORD.out; omega))
      have n1_ := Aside0.mk (Other.blk ho BK1.out (by have := ORD.out; omega))
      have n2_ := Aside0.mk (Other.blk ho BK2.out (by have := ORD.out; omega))
      have n3_ := Aside0.mk (hbk)
      have n4_ := Aside0.mk (Kd.Fr.other FR7.out ho (by have := ORD.out; omega))
      have n5_ := Aside0.mk (Kd.R_step RO.out (fun k hk_ _ => ho.block k (by have := ORD.out; omega)))
      clear HB BK1 BK2 BK3 FR7 RO
      have HB := n0_
      have BK1 := n1_
      have BK2 := n2_
      have BK3 := n3_
      have FR7 := n4_
      have RO := n5_
      clear n0_ n1_ n2_ n3_ n4_ n5_
      clear hbk ho
      refine hK.out _ _ ?_
      clear hK K
      refine norm_ (a' := ?_) ?_ ?_
      rotate_left
      · show Act.put _ (none) _ = _
        simp only [Act.put, List.setIfInBounds_toArray, List.set_cons_zero, List.set_cons_succ, i64_w, i32_w]
        rfl
      refine done_ (by kernel_rfl) ?_
      go_wp2
      go_roundg (gk - 1)
      case measure => have := HQ.out; have := HC_.out; omega
      case rel => exact ⟨i_ + 1, xs ++ [(rd_T34 l8 i_)], _, _, by rw [show wrap64 (i_ + 1) = i_ + 1 from by have := HQ.out; have := HC_.out; unfold wrap64; omega], ⟨by have := HQ.out; have := HC_.out; omega⟩, ⟨by rw [HX.out]; exact HTN.out⟩, RO, FR7, BK1, BK2, BK3, HB⟩
    · have cb : decide (i_ < (l8.length : Int)) = false := decide_eq_false c_
      have hxe : xs = l8 := by rw [HX.out, List.take_of_length_le (by have := HQ.out; omega)]
      clear HX c_
      subst hxe
      have HRB := Aside0.mk (Kd.R_base RO.out)
      have HRT := Aside0.mk (Kd.R_typed RO.out)
      go_upto_region 11 with (first | ((with_reducible refine gate_dst (N := 22) rfl ?_); (try (refine gate_guard (by rfl) ?_; dsimp only)); refine ld_event rfl rfl (by first | rfl | (go_simp; done) | (go_simp; rfl)) Try.underlying32 trivial (.slice (some ad) xs.length c8) ((blk_cell BK1.out 22).trans rfl) ?_) | ((with_reducible refine gate_dst (N := 39) rfl ?_); (try (refine gate_guard (by rfl) ?_; dsimp only)); refine ld_event rfl rfl (by first | rfl | (go_simp; done) | (go_simp; rfl)) Try.underlying32 trivial ((.slice Au_ xs.length cu_)) ((blk_cell BK3.out 22).trans rfl) ?_) | ((with_reducible refine gate_builtin (b := .append) (xs := #[.tmp 39, .tmp 41]) rfl ?_); at_builtin; refine Kd.R_append k34B (g3 + 1) rfl (.tmp 39) (.tmp 41) 32 34 (.agg #[.int .i64 0, .string ⟨#[]⟩, .string ⟨#[]⟩, .string ⟨#[]⟩, .int .i64 0, .int .i64 0, .int .i64 0, .int .i64 0, .int .i64 0, .int .i64 0, .int .i64 0, .int .i64 0, .int .i64 0, .int .i64 0, .int .i64 0, .int .i64 0, .int .i64 0, .int .i64 0, .int .i64 0, .int .i64 0, .int .i64 0, .slice none 0 0, .slice none 0 0]) 240 rfl Try.underlying32 info34 rfl (by decide) (by decide) (.slice Au_ xs.length cu_) xs b34 [.int .i64 (-5), .string ⟨#[]⟩, .string ⟨#[]⟩, .string ⟨#[]⟩, .int .i64 0, .int .i64 0, .int .i64 0, .int .i64 0, .int .i64 0, .int .i64 0, .int .i64 0, .int .i64 0, .int .i64 0, .int .i64 0, .int .i64 0, .int .i64 0, .int .i64 0, .int .i64 0, .int .i64 0, .int .i64 0, .int .i64 0, .slice none 0 0, .slice none 0 0] (fun k => g3 + 1 ≤ k) (fun _ => False) rfl (by first | rfl | (go_simp; done) | (go_simp; rfl)) ?aP (fun _ hk => hk.elim) ?aF ?aO (Below.refl _ _) ?aS ?aL ?_; (case aP => exact k34B_mkM _ _ _ b34 (.inl ⟨rfl, rfl⟩) (.inl ⟨rfl, rfl⟩)); (case aF => exact (fun k hk => Nat.le_trans (blk_lt BK3.out) hk)); (case aO => exact (by (with_reducible repeat (first | apply Kd.R_alloc | apply Kd.R_drewN | apply Kd.R_drew)); exact RO.out)); (case aS => exact (blk_lt BK3.out)); (case aL => have := HXL.out; have := HL8.out; have := HQ.out; omega); intro v9_ wv10_ ho hb hg hat; obtain ⟨A9_, c9_, rfl⟩ := Kd.R_slice ho; have n0_ := Aside0.mk (below_weaken HB.out (by have := ORD.out; omega) hb); have n1_ := Aside0.mk (blk_grown BK1.out hg (fun he => by have := HRB.out _ he.symm; have := ORD.out; omega)); have n2_ := Aside0.mk (blk_grown BK2.out hg (fun he => by have := HRB.out _ he.symm; have := ORD.out; omega)); have n3_ := Aside0.mk (blk_grown BK3.out hg (fun he => by have := HRB.out _ he.symm; have := ORD.out; omega)); have n4_ := Aside0.mk (Kd.Fr.typed FR7.out hg HRT.out (by decide)); have n5_ := Aside0.mk (ho); clear HB BK1 BK2 BK3 FR7 RO; have HB := n0_; have BK1 := n1_; have BK2 := n2_; have BK3 := n3_; have FR7 := n4_; have RO := n5_; clear n0_ n1_ n2_ n3_ n4_ n5_; clear ho hb hg hat) | ((with_reducible refine gate_store (t := 32) (p := 43) rfl ?_); refine st_event rfl rfl rfl (g := g3) (j := 22) (by first | rfl | (go_simp; done) | (go_simp; rfl)) (u := (.slice A9_ (xs ++ [b34]).length c9_)) (by first | rfl | (go_simp; done) | (go_simp; rfl)) BK3.out 1 size32 rfl (by simp) (by intro x hx; simp [Value.cells] at hx; rcases hx with rfl <;> rfl) #[.int .i64 a0, .string a1, .string a2, .string a3, .int .i64 a4, .int .i64 a5, .int .i64 a6, .int .i64 a7, .int .i64 a8, .int .i64 a9, .int .i64 a10, .int .i64 a11, .int .i64 a12, .int .i64 a13, .int .i64 a14, .int .i64 a15, .int .i64 a16, .int .i64 a17, .int .i64 a18, .int .i64 a19, .int .i64 a20, (.slice B7 l7.length d7), (.slice A9_ (xs ++ [b34]).length c9_)] rfl ?_; intro wv11_ hbk ho; have n0_ := Aside0.mk (Other.below ho HB.out (by have := ORD.out; omega)); have n1_ := Aside0.mk (Other.blk ho BK1.out (by have := ORD.out; omega)); have n2_ := Aside0.mk (Other.blk ho BK2.out (by have := ORD.out; omega)); have n3_ := Aside0.mk (hbk); have n4_ := Aside0.mk (Kd.Fr.other FR7.out ho (by have := ORD.out; omega)); have n5_ := Aside0.mk (Kd.R_step RO.out (fun k hk_ _ => ho.block k (by have := ORD.out; omega))); clear HB BK1 BK2 BK3 FR7 RO; have HB := n0_; have BK1 := n1_; have BK2 := n2_; have BK3 := n3_; have FR7 := n4_; have RO := n5_; clear n0_ n1_ n2_ n3_ n4_ n5_; clear hbk ho))
      clear HRB HRT
      obtain ⟨_, _, rfl', hlc, _⟩ := Kd.R_reads RO.out
      injection rfl' with e1_ e2_ e3_
      subst e1_ e3_
      clear e2_
      have RO1 := RO.out
      clear RO
      simp only [List.length_append, List.length_singleton] at RO1 hlc BK3
      have HLC := Aside0.mk hlc
      have RO := Aside0.mk RO1
      clear hlc RO1
      go_upto_region 12 with (first | ((with_reducible refine gate_dst (N := 45) rfl ?_); (try (refine gate_guard (by rfl) ?_; dsimp only)); refine ld_event rfl rfl (by first | rfl | (go_simp; done) | (go_simp; rfl)) Try.underlying32 trivial ((.slice A9_ (xs.length + 1) c9_)) ((blk_cell BK3.out 22).trans rfl) ?_) | ((with_reducible refine gate_dst (N := 47) rfl ?_); (try (refine gate_guard (by rfl) ?_; dsimp only)); refine ld_event rfl rfl (by first | rfl | (go_simp; done) | (go_simp; rfl)) Try.underlying32 trivial (.slice (some ad) xs.length c8) ((blk_cell BK1.out 22).trans rfl) ?_) | ((with_reducible refine gate_dst (N := 49) rfl ?_); refine Kd.cut_event rfl 32 34 (.tmp 45) (.tmp 48) rfl Try.underlying32 (by kernel_rfl) (A9_) (_) (c9_) (xs.length) rfl (by first | rfl | (go_simp; done) | (go_simp; rfl)) (by have := HLC.out; omega) ?_) | ((with_reducible refine gate_store (t := 32) (p := 50) rfl ?_); refine st_event rfl rfl rfl (g := g3) (j := 22) (by first | rfl | (go_simp; done) | (go_simp; rfl)) (u := .slice A9_ xs.length c9_) (by first | rfl | (go_simp; done) | (go_simp; rfl)) BK3.out 1 size32 rfl (by simp) (by intro x hx; simp [Value.cells] at hx; rcases hx with rfl <;> rfl) #[.int .i64 a0, .string a1, .string a2, .string a3, .int .i64 a4, .int .i64 a5, .int .i64 a6, .int .i64 a7, .int .i64 a8, .int .i64 a9, .int .i64 a10, .int .i64 a11, .int .i64 a12, .int .i64 a13, .int .i64 a14, .int .i64 a15, .int .i64 a16, .int .i64 a17, .int .i64 a18, .int .i64 a19, .int .i64 a20, (.slice B7 l7.length d7), .slice A9_ xs.length c9_] rfl ?_; intro wv12_ hbk ho; have n0_ := Aside0.mk (Other.below ho HB.out (by have := ORD.out; omega)); have n1_ := Aside0.mk (Other.blk ho BK1.out (by have := ORD.out; omega)); have n2_ := Aside0.mk (Other.blk ho BK2.out (by have := ORD.out; omega)); have n3_ := Aside0.mk (hbk); have n4_ := Aside0.mk (Kd.Fr.other FR7.out ho (by have := ORD.out; omega)); have n5_ := Aside0.mk (Kd.R_step RO.out (fun k hk_ _ => ho.block k (by have := ORD.out; omega))); clear HB BK1 BK2 BK3 FR7 RO; have HB := n0_; have BK1 := n1_; have BK2 := n2_; have BK3 := n3_; have FR7 := n4_; have RO := n5_; clear n0_ n1_ n2_ n3_ n4_ n5_; clear hbk ho))
      go_wp2_with (first | ((with_reducible refine gate_dst (N := 51) rfl ?_); (try (refine gate_guard (by rfl) ?_; dsimp only)); refine ldb_event rfl rfl (by first | rfl | (go_simp; done) | (go_simp; rfl)) Try.underlying34 ⟨_, rfl⟩ BK3.out 23 size34 [.int .i64 a0, .string a1, .string a2, .string a3, .int .i64 a4, .int .i64 a5, .int .i64 a6, .int .i64 a7, .int .i64 a8, .int .i64 a9, .int .i64 a10, .int .i64 a11, .int .i64 a12, .int .i64 a13, .int .i64 a14, .int .i64 a15, .int .i64 a16, .int .i64 a17, .int .i64 a18, .int .i64 a19, .int .i64 a20, (.slice B7 l7.length d7), .slice A9_ xs.length c9_] rfl rfl ?_) | ((with_reducible refine gate_store (t := 34) (p := 2) rfl ?_); refine st_event rfl rfl rfl (g := g2) (j := 0) (by first | rfl | (go_simp; done) | (go_simp; rfl)) (u := .agg #[.int .i64 a0, .string a1, .string a2, .string a3, .int .i64 a4, .int .i64 a5, .int .i64 a6, .int .i64 a7, .int .i64 a8, .int .i64 a9, .int .i64 a10, .int .i64 a11, .int .i64 a12, .int .i64 a13, .int .i64 a14, .int .i64 a15, .int .i64 a16, .int .i64 a17, .int .i64 a18, .int .i64 a19, .int .i64 a20, (.slice B7 l7.length d7), .slice A9_ xs.length c9_]) (by first | rfl | (go_simp; done) | (go_simp; rfl)) BK2.out 23 size34 rfl (by simp) (by intro x hx; simp [Value.cells] at hx; rcases hx with rfl | rfl | rfl | rfl | rfl | rfl | rfl | rfl | rfl | rfl | rfl | rfl | rfl | rfl | rfl | rfl | rfl | rfl | rfl | rfl | rfl | rfl | rfl <;> rfl) #[.int .i64 a0, .string a1, .string a2, .string a3, .int .i64 a4, .int .i64 a5, .int .i64 a6, .int .i64 a7, .int .i64 a8, .int .i64 a9, .int .i64 a10, .int .i64 a11, .int .i64 a12, .int .i64 a13, .int .i64 a14, .int .i64 a15, .int .i64 a16, .int .i64 a17, .int .i64 a18, .int .i64 a19, .int .i64 a20, (.slice B7 l7.length d7), .slice A9_ xs.length c9_] rfl ?_; intro wv13_ hbk ho; have n0_ := Aside0.mk (Other.below ho HB.out (by have := ORD.out; omega)); have n1_ := Aside0.mk (Other.blk ho BK1.out (by have := ORD.out; omega)); have n2_ := Aside0.mk (hbk); have n3_ := Aside0.mk (Other.blk ho BK3.out (by have := ORD.out; omega)); have n4_ := Aside0.mk (Kd.Fr.other FR7.out ho (by have := ORD.out; omega)); have n5_ := Aside0.mk (Kd.R_step RO.out (fun k hk_ _ => ho.block k (by have := ORD.out; omega))); clear HB BK1 BK2 BK3 FR7 RO; have HB := n0_; have BK1 := n1_; have BK2 := n2_; have BK3 := n3_; have FR7 := n4_; have RO := n5_; clear n0_ n1_ n2_ n3_ n4_ n5_; clear hbk ho))
      (try simp only [Exit.inBlock, Exit.then])
      refine bodyPost_ret (results_cell_row rfl _ _ g2 34 #[.int .i64 a0, .string a1, .string a2, .string a3, .int .i64 a4, .int .i64 a5, .int .i64 a6, .int .i64 a7, .int .i64 a8, .int .i64 a9, .int .i64 a10, .int .i64 a11, .int .i64 a12, .int .i64 a13, .int .i64 a14, .int .i64 a15, .int .i64 a16, .int .i64 a17, .int .i64 a18, .int .i64 a19, .int .i64 a20, (.slice B7 l7.length d7), .slice A9_ xs.length c9_] (0, 0) _ rfl BK2.out Try.underlying34 rfl size34) rfl ?_
      exact ⟨_, _, rfl, Kd.Fr.lower FR7.out (by have := ORD.out; omega), Kd.Fr.lower (b := g3 + 1) (Kd.Fr.of (.inr ⟨A9_, c9_, rfl, RO.out⟩)) (by have := ORD.out; omega), HB.out⟩
end Go.Proofs.Ytkfbkjcdngipcaa.PTreeEquals
end
section
namespace Go.Proofs.Ytkfbkjcdngipcaa.PTreeEquals
open Go.RowKit Go.Proofs.YtkfbkjcdngipcaaW.PrintWords Go.Proofs.YtkfbkjcdngipcaaW.PrintLast Go.Proofs.YtkfbkjcdngipcaaW.PrintMore
attribute [local go_sem] nil24 nil25 nil26 nil31 nil32 nnil24 nnil25 nnil26 nnil31 nnil32 max2_int min2_int max_two min_two max_three min_three max_four min_four
set_option linter.unusedVariables false
set_option linter.unusedSimpArgs false
theorem info56 : (Try.prog.info? 56).map (fun i => (i.zero, i.size, i.bytes)) = some (some (.agg #[.string ⟨#[]⟩, .slice none 0 0, .int .i64 0, .int .i64 0, .string ⟨#[]⟩, .slice none 0 0, .slice none 0 0]), 7, 120) := by kernel_rfl
theorem size25 : (Try.prog.info? 25).map (fun i => i.size) = some 1 := by kernel_rfl
theorem size26 : (Try.prog.info? 26).map (fun i => i.size) = some 1 := by kernel_rfl
theorem size36 : (Try.prog.info? 36).map (fun i => i.size) = some 30 := by kernel_rfl
theorem take_next56 {l : List S56} {i : Int} (h0 : 0 ≤ i) (h1 : i < l.length) : l.take i.toNat ++ [rd_T56 l i] = l.take (i + 1).toNat := by
  have h : (i + 1).toNat = i.toNat + 1 := by omega
  have hl : i.toNat < l.length := by omega
  rw [h, List.take_add_one, List.getElem?_eq_getElem hl]
  simp [rd_T56, hl]
theorem rd_mem56 {l : List S56} {i : Int} (h0 : 0 ≤ i) (h1 : i < l.length) : rd_T56 l i ∈ l := by
  unfold rd_T56
  rw [List.getD_eq_getElem?_getD, List.getElem?_eq_getElem (show i.toNat < l.length by omega)]
  exact List.getElem_mem _
set_option maxHeartbeats 16000000 in
set_option maxRecDepth 100000 in
theorem deal.calls (d0 : ByteArray) (d1 d2 d3 : Int) (a0 : Int) (a1 a2 a3 : ByteArray) (a4 a5 a6 a7 a8 a9 a10 a11 a12 a13 a14 a15 a16 a17 a18 a19 a20 : Int) (l4 : List S23) (l5 : List ByteArray) (l6 : List S56) (l7 : List S54) (l8 : List S34) (A4 : Option Addr) (c4 : Nat) (A5 : Option Addr) (c5 : Nat) (A6 : Option Addr) (c6 : Nat) (A7 : Option Addr) (c7 : Nat) (A8 : Option Addr) (c8 : Nat) (w : World) (hr4 : Kd.C k23 w A4 l4.length l4) (hc4 : l4.length ≤ c4) (hl4 : l4.length * 24 ≤ 140737488351232) (hr5 : Kd.C Kd.string w A5 l5.length l5) (hc5 : l5.length ≤ c5) (hl5 : l5.length * 16 ≤ 140737488351232) (hr6 : Kd.C k56 w A6 l6.length l6) (hc6 : l6.length ≤ c6) (hl6 : l6.length * 120 ≤ 140737488351232) (hs : ∀ x ∈ l6, x.f1.length * 16 ≤ 140737488351232 ∧ ExprsOK x.f2.f4 ∧ x.f2.f3.length * 24 ≤ 140737488351232) (hk : ConOK l7 l8) (hr7 : Kd.C k54 w A7 l7.length l7) (hc7 : l7.length ≤ c7) (hr8 : Kd.C k34 w A8 l8.length l8) (hc8 : l8.length ≤ c8) :
    Calls Try.prog 6 #[.agg #[.string d0, .int .i64 d1, .int .i64 d2, .int .i64 d3, .slice A4 l4.length c4, .slice A5 l5.length c5, .slice A6 l6.length c6, .int .i64 a0, .string a1, .string a2, .string a3, .int .i64 a4, .int .i64 a5, .int .i64 a6, .int .i64 a7, .int .i64 a8, .int .i64 a9, .int .i64 a10, .int .i64 a11, .int .i64 a12, .int .i64 a13, .int .i64 a14, .int .i64 a15, .int .i64 a16, .int .i64 a17, .int .i64 a18, .int .i64 a19, .int .i64 a20, .slice A7 l7.length c7, .slice A8 l8.length c8]] w fun e w' => ∃ v4 v5 v6 v7 v8, e = .returned (.agg #[.string d0, .int .i64 d1, .int .i64 d2, .int .i64 d3, v4, v5, v6, .int .i64 a0, .string a1, .string a2, .string a3, .int .i64 a4, .int .i64 a5, .int .i64 a6, .int .i64 a7, .int .i64 a8, .int .i64 a9, .int .i64 a10, .int .i64 a11, .int .i64 a12, .int .i64 a13, .int .i64 a14, .int .i64 a15, .int .i64 a16, .int .i64 a17, .int .i64 a18, .int .i64 a19, .int .i64 a20, v7, v8]) ∧ Kd.Fr (Kd.sliceB 23 k23 b23) w.heap.size w' l4 [v4] ∧ Kd.Fr (Kd.sliceB 9 Kd.string b9) w.heap.size w' l5 [v5] ∧ Kd.Fr (Kd.sliceB 56 k56B b56) w.heap.size w' l6 [v6] ∧ Kd.Fr (Kd.sliceB 54 k54B b54) w.heap.size w' l7 [v7] ∧ Kd.Fr (Kd.sliceB 34 k34B b34) w.heap.size w' l8 [v8] ∧ Below w.heap.size w w' := by
  have hu54 := Try.underlying54
  have hu34 := Try.underlying34
  have hu56 := Try.underlying56
  have hu36 := Try.underlying36
  have hu26 := Try.underlying26
  have HR4 := Aside0.mk hr4; have HC4 := Aside0.mk hc4; have HL4 := Aside0.mk hl4
  have HR5 := Aside0.mk hr5; have HC5 := Aside0.mk hc5; have HL5 := Aside0.mk hl5
  have HR6 := Aside0.mk hr6; have HL6 := Aside0.mk hl6; have HS := Aside0.mk hs
  have HR7 := Aside0.mk hr7; have HC7 := Aside0.mk hc7
  have HR8 := Aside0.mk hr8; have HC8 := Aside0.mk hc8
  have hn : l6.length < 4611686018427387904 := by omega
  have HB := Aside0.mk (Below.refl w.heap.size w)
  cases A6 with
  | none =>
    have h0 : l6 = [] := by
      rcases Nat.eq_zero_or_pos l6.length with h | h
      · exact List.eq_nil_of_length_eq_zero h
      · obtain ⟨ad, he, _⟩ := hr6.2.2 h
        cases he
    clear hr4 hc4 hl4 hr5 hc5 hl5 hr6 hc6 hl6 hs hr7 hc7 hr8 hc8
    subst h0
    go_enter Try.func6, Try.ntmps6
    go_upto_region 2 with (first | ((with_reducible refine gate_dst (N := 1) rfl ?_); (try (refine gate_guard (by rfl) ?_; dsimp only)); refine box_event ?hg (N := 1) ?hd (cs := #[.string d0, .int .i64 d1, .int .i64 d2, .int .i64 d3, .slice A4 l4.length c4, .slice A5 l5.length c5, .slice none ([] : List S56).length c6, .int .i64 a0, .string a1, .string a2, .string a3, .int .i64 a4, .int .i64 a5, .int .i64 a6, .int .i64 a7, .int .i64 a8, .int .i64 a9, .int .i64 a10, .int .i64 a11, .int .i64 a12, .int .i64 a13, .int .i64 a14, .int .i64 a15, .int .i64 a16, .int .i64 a17, .int .i64 a18, .int .i64 a19, .int .i64 a20, .slice A7 l7.length c7, .slice A8 l8.length c8]) (t := 36) ?hr ?_; (case hd => rfl); (case hg => rfl); (case hr => first | (go_simp; done) | (go_simp; rfl)); intro g1 hg wv1_ hbox hb; have n0_ := Aside0.mk (below_step HB.out hb); have n1_ := Aside0.mk (hbox); have n2_ := Aside0.mk ((show w.heap.size ≤ g1 by rw [hg]; exact below_size HB.out)); clear HB; have HB := n0_; have BK1 := n1_; have ORD := n2_; clear n0_ n1_ n2_; clear hb hbox hg) | ((with_reducible refine gate_dst (N := 2) rfl ?_); (try (refine gate_guard (by rfl) ?_; dsimp only)); refine box_event ?hg (N := 2) ?hd (cs := #[.string ⟨#[]⟩, .int .i64 0, .int .i64 0, .int .i64 0, .slice none 0 0, .slice none 0 0, .slice none 0 0, .int .i64 0, .string ⟨#[]⟩, .string ⟨#[]⟩, .string ⟨#[]⟩, .int .i64 0, .int .i64 0, .int .i64 0, .int .i64 0, .int .i64 0, .int .i64 0, .int .i64 0, .int .i64 0, .int .i64 0, .int .i64 0, .int .i64 0, .int .i64 0, .int .i64 0, .int .i64 0, .int .i64 0, .int .i64 0, .int .i64 0, .slice none 0 0, .slice none 0 0]) (t := 36) ?hr ?_; (case hd => rfl); (case hg => rfl); (case hr => first | (go_simp; done) | (go_simp; rfl)); intro g2 hg wv2_ hbox hb; have n0_ := Aside0.mk (below_step HB.out hb); have n1_ := Aside0.mk (blk_below BK1.out hb); have n2_ := Aside0.mk (hbox); have n3_ := Aside0.mk (And.intro ORD.out (show g1 < g2 by rw [hg]; exact blk_lt BK1.out)); clear HB BK1 ORD; have HB := n0_; have BK1 := n1_; have BK2 := n2_; have ORD := n3_; clear n0_ n1_ n2_ n3_; clear hb hbox hg) | ((with_reducible refine gate_dst (N := 5) rfl ?_); (try (refine gate_guard (by rfl) ?_; dsimp only)); refine ldb_event rfl rfl (by first | rfl | (go_simp; done) | (go_simp; rfl)) Try.underlying36 ⟨_, rfl⟩ BK1.out 30 size36 [.string d0, .int .i64 d1, .int .i64 d2, .int .i64 d3, .slice A4 l4.length c4, .slice A5 l5.length c5, .slice none ([] : List S56).length c6, .int .i64 a0, .string a1, .string a2, .string a3, .int .i64 a4, .int .i64 a5, .int .i64 a6, .int .i64 a7, .int .i64 a8, .int .i64 a9, .int .i64 a10, .int .i64 a11, .int .i64 a12, .int .i64 a13, .int .i64 a14, .int .i64 a15, .int .i64 a16, .int .i64 a17, .int .i64 a18, .int .i64 a19, .int .i64 a20, .slice A7 l7.length c7, .slice A8 l8.length c8] rfl rfl ?_) | ((with_reducible refine gate_dst (N := 3) rfl ?_); (try (refine gate_guard (by rfl) ?_; dsimp only)); refine box_event ?hg (N := 3) ?hd (cs := #[.string ⟨#[]⟩, .int .i64 0, .int .i64 0, .int .i64 0, .slice none 0 0, .slice none 0 0, .slice none 0 0, .int .i64 0, .string ⟨#[]⟩, .string ⟨#[]⟩, .string ⟨#[]⟩, .int .i64 0, .int .i64 0, .int .i64 0, .int .i64 0, .int .i64 0, .int .i64 0, .int .i64 0, .int .i64 0, .int .i64 0, .int .i64 0, .int .i64 0, .int .i64 0, .int .i64 0, .int .i64 0, .int .i64 0, .int .i64 0, .int .i64 0, .slice none 0 0, .slice none 0 0]) (t := 36) ?hr ?_; (case hd => rfl); (case hg => rfl); (case hr => first | (go_simp; done) | (go_simp; rfl)); intro g3 hg wv3_ hbox hb; have n0_ := Aside0.mk (below_step HB.out hb); have n1_ := Aside0.mk (blk_below BK1.out hb); have n2_ := Aside0.mk (blk_below BK2.out hb); have n3_ := Aside0.mk (hbox); have n4_ := Aside0.mk (And.intro ORD.out (show g2 < g3 by rw [hg]; exact blk_lt BK2.out)); clear HB BK1 BK2 ORD; have HB := n0_; have BK1 := n1_; have BK2 := n2_; have BK3 := n3_; have ORD := n4_; clear n0_ n1_ n2_ n3_ n4_; clear hb hbox hg) | ((with_reducible refine gate_store (t := 36) (p := 3) rfl ?_); refine st_event rfl rfl rfl (g := g3) (j := 0) (by first | rfl | (go_simp; done) | (go_simp; rfl)) (u := .agg #[.string d0, .int .i64 d1, .int .i64 d2, .int .i64 d3, .slice A4 l4.length c4, .slice A5 l5.length c5, .slice none ([] : List S56).length c6, .int .i64 a0, .string a1, .string a2, .string a3, .int .i64 a4, .int .i64 a5, .int .i64 a6, .int .i64 a7, .int .i64 a8, .int .i64 a9, .int .i64 a10, .int .i64 a11, .int .i64 a12, .int .i64 a13, .int .i64 a14, .int .i64 a15, .int .i64 a16, .int .i64 a17, .int .i64 a18, .int .i64 a19, .int .i64 a20, .slice A7 l7.length c7, .slice A8 l8.length c8]) (by first | rfl | (go_simp; done) | (go_simp; rfl)) BK3.out 30 size36 rfl (by simp) (by intro x hx; simp [Value.cells] at hx; rcases hx with rfl | rfl | rfl | rfl | rfl | rfl | rfl | rfl | rfl | rfl | rfl | rfl | rfl | rfl | rfl | rfl | rfl | rfl | rfl | rfl | rfl | rfl | rfl | rfl | rfl | rfl | rfl | rfl | rfl | rfl <;> rfl) #[.string d0, .int .i64 d1, .int .i64 d2, .int .i64 d3, .slice A4 l4.length c4, .slice A5 l5.length c5, .slice none ([] : List S56).length c6, .int .i64 a0, .string a1, .string a2, .string a3, .int .i64 a4, .int .i64 a5, .int .i64 a6, .int .i64 a7, .int .i64 a8, .int .i64 a9, .int .i64 a10, .int .i64 a11, .int .i64 a12, .int .i64 a13, .int .i64 a14, .int .i64 a15, .int .i64 a16, .int .i64 a17, .int .i64 a18, .int .i64 a19, .int .i64 a20, .slice A7 l7.length c7, .slice A8 l8.length c8] rfl ?_; intro wv4_ hbk ho; have n0_ := Aside0.mk (Other.below ho HB.out (by have := ORD.out; omega)); have n1_ := Aside0.mk (Other.blk ho BK1.out (by have := ORD.out; omega)); have n2_ := Aside0.mk (Other.blk ho BK2.out (by have := ORD.out; omega)); have n3_ := Aside0.mk (hbk); clear HB BK1 BK2 BK3; have HB := n0_; have BK1 := n1_; have BK2 := n2_; have BK3 := n3_; clear n0_ n1_ n2_ n3_; clear hbk ho))
    go_upto_region 3 with (first | ((with_reducible refine gate_dst (N := 7) rfl ?_); (try (refine gate_guard (by rfl) ?_; dsimp only)); refine ld_event rfl rfl (by first | rfl | (go_simp; done) | (go_simp; rfl)) Try.underlying24 trivial (.slice A4 l4.length c4) ((blk_cell BK1.out 4).trans rfl) ?_) | ((with_reducible refine gate_callee (f := 18) rfl ?_); (try (refine gate_guard (by rfl) ?_; dsimp only)); refine goesL_ (some 8) rfl rfl Try.func18 (by kernel_rfl) rfl #[.slice A4 l4.length c4] rfl (by (try simp only [List.map_toArray, List.map_cons, List.map_nil]); first | done | rfl) ?_; (with_reducible refine (dates.calls A4 c4 l4 _ (Kd.C_below HR4.out HB.out) HC4.out HL4.out).mono ?_); rintro e wv5_ ⟨v4, rfl, hF, hb⟩; obtain ⟨B4, e4, rfl, _, _, _⟩ := Kd.sB_read (Kd.Fr.K hF); refine ⟨_, rfl, ?_⟩; have n0_ := Aside0.mk (below_step HB.out hb); have n1_ := Aside0.mk (blk_below BK1.out hb); have n2_ := Aside0.mk (blk_below BK2.out hb); have n3_ := Aside0.mk (blk_below BK3.out hb); have n4_ := Aside0.mk (Kd.Fr.lower (b' := g3 + 1) hF (blk_lt BK3.out)); clear HB BK1 BK2 BK3; have HB := n0_; have BK1 := n1_; have BK2 := n2_; have BK3 := n3_; have FR4 := n4_; clear n0_ n1_ n2_ n3_ n4_; clear hb hF) | ((with_reducible refine gate_store (t := 24) (p := 9) rfl ?_); refine st_event rfl rfl rfl (g := g3) (j := 4) (by first | rfl | (go_simp; done) | (go_simp; rfl)) (u := .slice B4 l4.length e4) (by first | rfl | (go_simp; done) | (go_simp; rfl)) BK3.out 1 size24 rfl (by simp) (by intro x hx; simp [Value.cells] at hx; rcases hx with rfl <;> rfl) #[.string d0, .int .i64 d1, .int .i64 d2, .int .i64 d3, .slice B4 l4.length e4, .slice A5 l5.length c5, .slice none ([] : List S56).length c6, .int .i64 a0, .string a1, .string a2, .string a3, .int .i64 a4, .int .i64 a5, .int .i64 a6, .int .i64 a7, .int .i64 a8, .int .i64 a9, .int .i64 a10, .int .i64 a11, .int .i64 a12, .int .i64 a13, .int .i64 a14, .int .i64 a15, .int .i64 a16, .int .i64 a17, .int .i64 a18, .int .i64 a19, .int .i64 a20, .slice A7 l7.length c7, .slice A8 l8.length c8] rfl ?_; intro wv6_ hbk ho; have n0_ := Aside0.mk (Other.below ho HB.out (by have := ORD.out; omega)); have n1_ := Aside0.mk (Other.blk ho BK1.out (by have := ORD.out; omega)); have n2_ := Aside0.mk (Other.blk ho BK2.out (by have := ORD.out; omega)); have n3_ := Aside0.mk (hbk); have n4_ := Aside0.mk (Kd.Fr.other FR4.out ho (by have := ORD.out; omega)); clear HB BK1 BK2 BK3 FR4; have HB := n0_; have BK1 := n1_; have BK2 := n2_; have BK3 := n3_; have FR4 := n4_; clear n0_ n1_ n2_ n3_ n4_; clear hbk ho))
    go_upto_region 4 with (first | ((with_reducible refine gate_dst (N := 11) rfl ?_); (try (refine gate_guard (by rfl) ?_; dsimp only)); refine ld_event rfl rfl (by first | rfl | (go_simp; done) | (go_simp; rfl)) Try.underlying25 trivial (.slice A5 l5.length c5) ((blk_cell BK1.out 5).trans rfl) ?_) | ((with_reducible refine gate_callee (f := 19) rfl ?_); (try (refine gate_guard (by rfl) ?_; dsimp only)); refine goesL_ (some 12) rfl rfl Try.func19 (by kernel_rfl) rfl #[.slice A5 l5.length c5] rfl (by (try simp only [List.map_toArray, List.map_cons, List.map_nil]); first | done | rfl) ?_; (with_reducible refine (names.calls A5 c5 l5 _ (Kd.C_below HR5.out HB.out) HC5.out HL5.out).mono ?_); rintro e wv7_ ⟨v5, rfl, hF, hb⟩; obtain ⟨B5, e5, rfl, _, _, _⟩ := Kd.sB_read (Kd.Fr.K hF); refine ⟨_, rfl, ?_⟩; have n0_ := Aside0.mk (below_step HB.out hb); have n1_ := Aside0.mk (blk_below BK1.out hb); have n2_ := Aside0.mk (blk_below BK2.out hb); have n3_ := Aside0.mk (blk_below BK3.out hb); have n4_ := Aside0.mk (Kd.Fr.below FR4.out hb); have n5_ := Aside0.mk (Kd.Fr.lower (b' := g3 + 1) hF (blk_lt BK3.out)); clear HB BK1 BK2 BK3 FR4; have HB := n0_; have BK1 := n1_; have BK2 := n2_; have BK3 := n3_; have FR4 := n4_; have FR5 := n5_; clear n0_ n1_ n2_ n3_ n4_ n5_; clear hb hF) | ((with_reducible refine gate_store (t := 25) (p := 13) rfl ?_); refine st_event rfl rfl rfl (g := g3) (j := 5) (by first | rfl | (go_simp; done) | (go_simp; rfl)) (u := .slice B5 l5.length e5) (by first | rfl | (go_simp; done) | (go_simp; rfl)) BK3.out 1 size25 rfl (by simp) (by intro x hx; simp [Value.cells] at hx; rcases hx with rfl <;> rfl) #[.string d0, .int .i64 d1, .int .i64 d2, .int .i64 d3, .slice B4 l4.length e4, .slice B5 l5.length e5, .slice none ([] : List S56).length c6, .int .i64 a0, .string a1, .string a2, .string a3, .int .i64 a4, .int .i64 a5, .int .i64 a6, .int .i64 a7, .int .i64 a8, .int .i64 a9, .int .i64 a10, .int .i64 a11, .int .i64 a12, .int .i64 a13, .int .i64 a14, .int .i64 a15, .int .i64 a16, .int .i64 a17, .int .i64 a18, .int .i64 a19, .int .i64 a20, .slice A7 l7.length c7, .slice A8 l8.length c8] rfl ?_; intro wv8_ hbk ho; have n0_ := Aside0.mk (Other.below ho HB.out (by have := ORD.out; omega)); have n1_ := Aside0.mk (Other.blk ho BK1.out (by have := ORD.out; omega)); have n2_ := Aside0.mk (Other.blk ho BK2.out (by have := ORD.out; omega)); have n3_ := Aside0.mk (hbk); have n4_ := Aside0.mk (Kd.Fr.other FR4.out ho (by have := ORD.out; omega)); have n5_ := Aside0.mk (Kd.Fr.other FR5.out ho (by have := ORD.out; omega)); clear HB BK1 BK2 BK3 FR4 FR5; have HB := n0_; have BK1 := n1_; have BK2 := n2_; have BK3 := n3_; have FR4 := n4_; have FR5 := n5_; clear n0_ n1_ n2_ n3_ n4_ n5_; clear hbk ho))
    go_upto_region 5 with (first | ((with_reducible refine gate_dst (N := 15) rfl ?_); (try (refine gate_guard (by rfl) ?_; dsimp only)); refine ldb_event rfl rfl (by first | rfl | (go_simp; done) | (go_simp; rfl)) Try.underlying34 ⟨_, rfl⟩ BK1.out 23 size34 [.int .i64 a0, .string a1, .string a2, .string a3, .int .i64 a4, .int .i64 a5, .int .i64 a6, .int .i64 a7, .int .i64 a8, .int .i64 a9, .int .i64 a10, .int .i64 a11, .int .i64 a12, .int .i64 a13, .int .i64 a14, .int .i64 a15, .int .i64 a16, .int .i64 a17, .int .i64 a18, .int .i64 a19, .int .i64 a20, .slice A7 l7.length c7, .slice A8 l8.length c8] rfl rfl ?_) | ((with_reducible refine gate_callee (f := 20) rfl ?_); (try (refine gate_guard (by rfl) ?_; dsimp only)); refine goesL_ (some 16) rfl rfl Try.func20 (by kernel_rfl) rfl #[.agg #[.int .i64 a0, .string a1, .string a2, .string a3, .int .i64 a4, .int .i64 a5, .int .i64 a6, .int .i64 a7, .int .i64 a8, .int .i64 a9, .int .i64 a10, .int .i64 a11, .int .i64 a12, .int .i64 a13, .int .i64 a14, .int .i64 a15, .int .i64 a16, .int .i64 a17, .int .i64 a18, .int .i64 a19, .int .i64 a20, .slice A7 l7.length c7, .slice A8 l8.length c8]] rfl (by (try simp only [List.map_toArray, List.map_cons, List.map_nil]); first | done | rfl) ?_; (with_reducible refine (ConOK.calls hk _ _ _ _ _ _ _ _ _ _ _ _ _ _ _ _ _ _ _ _ _ A7 c7 A8 c8 _ (Kd.C_below HR7.out HB.out) HC7.out (Kd.C_below HR8.out HB.out) HC8.out).mono ?_); rintro e wv9_ ⟨v7, v8, rfl, hF, hF2, hb⟩; obtain ⟨B7, e7, rfl, _, _, _⟩ := Kd.sB_read (Kd.Fr.K hF); obtain ⟨B8, e8, rfl, _, _, _⟩ := Kd.sB_read (Kd.Fr.K hF2); refine ⟨_, rfl, ?_⟩; have n0_ := Aside0.mk (below_step HB.out hb); have n1_ := Aside0.mk (blk_below BK1.out hb); have n2_ := Aside0.mk (blk_below BK2.out hb); have n3_ := Aside0.mk (blk_below BK3.out hb); have n4_ := Aside0.mk (Kd.Fr.below FR4.out hb); have n5_ := Aside0.mk (Kd.Fr.below FR5.out hb); have n6_ := Aside0.mk (Kd.Fr.lower (b' := g3 + 1) hF (blk_lt BK3.out)); have n7_ := Aside0.mk (Kd.Fr.lower (b' := g3 + 1) hF2 (blk_lt BK3.out)); clear HB BK1 BK2 BK3 FR4 FR5; have HB := n0_; have BK1 := n1_; have BK2 := n2_; have BK3 := n3_; have FR4 := n4_; have FR5 := n5_; have FR7 := n6_; have FR8 := n7_; clear n0_ n1_ n2_ n3_ n4_ n5_ n6_ n7_; clear hb hF hF2) | ((with_reducible refine gate_store (t := 34) (p := 17) rfl ?_); refine st_event rfl rfl rfl (g := g3) (j := 7) (by first | rfl | (go_simp; done) | (go_simp; rfl)) (u := .agg #[.int .i64 a0, .string a1, .string a2, .string a3, .int .i64 a4, .int .i64 a5, .int .i64 a6, .int .i64 a7, .int .i64 a8, .int .i64 a9, .int .i64 a10, .int .i64 a11, .int .i64 a12, .int .i64 a13, .int .i64 a14, .int .i64 a15, .int .i64 a16, .int .i64 a17, .int .i64 a18, .int .i64 a19, .int .i64 a20, .slice B7 l7.length e7, .slice B8 l8.length e8]) (by first | rfl | (go_simp; done) | (go_simp; rfl)) BK3.out 23 size34 rfl (by simp) (by intro x hx; simp [Value.cells] at hx; rcases hx with rfl | rfl | rfl | rfl | rfl | rfl | rfl | rfl | rfl | rfl | rfl | rfl | rfl | rfl | rfl | rfl | rfl | rfl | rfl | rfl | rfl | rfl | rfl <;> rfl) #[.string d0, .int .i64 d1, .int .i64 d2, .int .i64 d3, .slice B4 l4.length e4, .slice B5 l5.length e5, .slice none ([] : List S56).length c6, .int .i64 a0, .string a1, .string a2, .string a3, .int .i64 a4, .int .i64 a5, .int .i64 a6, .int .i64 a7, .int .i64 a8, .int .i64 a9, .int .i64 a10, .int .i64 a11, .int .i64 a12, .int .i64 a13, .int .i64 a14, .int .i64 a15, .int .i64 a16, .int .i64 a17, .int .i64 a18, .int .i64 a19, .int .i64 a20, .slice B7 l7.length e7, .slice B8 l8.length e8] rfl ?_; intro wv10_ hbk ho; have n0_ := Aside0.mk (Other.below ho HB.out (by have := ORD.out; omega)); have n1_ := Aside0.mk (Other.blk ho BK1.out (by have := ORD.out; omega)); have n2_ := Aside0.mk (Other.blk ho BK2.out (by have := ORD.out; omega)); have n3_ := Aside0.mk (hbk); have n4_ := Aside0.mk (Kd.Fr.other FR4.out ho (by have := ORD.out; omega)); have n5_ := Aside0.mk (Kd.Fr.other FR5.out ho (by have := ORD.out; omega)); have n6_ := Aside0.mk (Kd.Fr.other FR7.out ho (by have := ORD.out; omega)); have n7_ := Aside0.mk (Kd.Fr.other FR8.out ho (by have := ORD.out; omega)); clear HB BK1 BK2 BK3 FR4 FR5 FR7 FR8; have HB := n0_; have BK1 := n1_; have BK2 := n2_; have BK3 := n3_; have FR4 := n4_; have FR5 := n5_; have FR7 := n6_; have FR8 := n7_; clear n0_ n1_ n2_ n3_ n4_ n5_ n6_ n7_; clear hbk ho))
    go_upto_region 6 with (first | ((with_reducible refine gate_store (t := 26) (p := 18) rfl ?_); refine st_event rfl rfl rfl (g := g3) (j := 6) (by first | rfl | (go_simp; done) | (go_simp; rfl)) (u := .slice none 0 0) (by first | rfl | (go_simp; done) | (go_simp; rfl)) BK3.out 1 size26 rfl (by simp) (by intro x hx; simp [Value.cells] at hx; rcases hx with rfl <;> rfl) #[.string d0, .int .i64 d1, .int .i64 d2, .int .i64 d3, .slice B4 l4.length e4, .slice B5 l5.length e5, .slice none 0 0, .int .i64 a0, .string a1, .string a2, .string a3, .int .i64 a4, .int .i64 a5, .int .i64 a6, .int .i64 a7, .int .i64 a8, .int .i64 a9, .int .i64 a10, .int .i64 a11, .int .i64 a12, .int .i64 a13, .int .i64 a14, .int .i64 a15, .int .i64 a16, .int .i64 a17, .int .i64 a18, .int .i64 a19, .int .i64 a20, .slice B7 l7.length e7, .slice B8 l8.length e8] rfl ?_; intro wv11_ hbk ho; have n0_ := Aside0.mk (Other.below ho HB.out (by have := ORD.out; omega)); have n1_ := Aside0.mk (Other.blk ho BK1.out (by have := ORD.out; omega)); have n2_ := Aside0.mk (Other.blk ho BK2.out (by have := ORD.out; omega)); have n3_ := Aside0.mk (hbk); have n4_ := Aside0.mk (Kd.Fr.other FR4.out ho (by have := ORD.out; omega)); have n5_ := Aside0.mk (Kd.Fr.other FR5.out ho (by have := ORD.out; omega)); have n6_ := Aside0.mk (Kd.Fr.other FR7.out ho (by have := ORD.out; omega)); have n7_ := Aside0.mk (Kd.Fr.other FR8.out ho (by have := ORD.out; omega)); clear HB BK1 BK2 BK3 FR4 FR5 FR7 FR8; have HB := n0_; have BK1 := n1_; have BK2 := n2_; have BK3 := n3_; have FR4 := n4_; have FR5 := n5_; have FR7 := n6_; have FR8 := n7_; clear n0_ n1_ n2_ n3_ n4_ n5_ n6_ n7_; clear hbk ho))
    go_wp2_with (first | ((with_reducible refine gate_dst (N := 20) rfl ?_); (try (refine gate_guard (by rfl) ?_; dsimp only)); refine ld_event rfl rfl (by first | rfl | (go_simp; done) | (go_simp; rfl)) Try.underlying26 trivial (.slice none ([] : List S56).length c6) ((blk_cell BK1.out 6).trans rfl) ?_) | ((with_reducible refine gate_dst (N := 74) rfl ?_); (try (refine gate_guard (by rfl) ?_; dsimp only)); refine ldb_event rfl rfl (by first | rfl | (go_simp; done) | (go_simp; rfl)) Try.underlying36 ⟨_, rfl⟩ BK3.out 30 size36 [.string d0, .int .i64 d1, .int .i64 d2, .int .i64 d3, .slice B4 l4.length e4, .slice B5 l5.length e5, .slice none 0 0, .int .i64 a0, .string a1, .string a2, .string a3, .int .i64 a4, .int .i64 a5, .int .i64 a6, .int .i64 a7, .int .i64 a8, .int .i64 a9, .int .i64 a10, .int .i64 a11, .int .i64 a12, .int .i64 a13, .int .i64 a14, .int .i64 a15, .int .i64 a16, .int .i64 a17, .int .i64 a18, .int .i64 a19, .int .i64 a20, .slice B7 l7.length e7, .slice B8 l8.length e8] rfl rfl ?_) | ((with_reducible refine gate_store (t := 36) (p := 2) rfl ?_); refine st_event rfl rfl rfl (g := g2) (j := 0) (by first | rfl | (go_simp; done) | (go_simp; rfl)) (u := .agg #[.string d0, .int .i64 d1, .int .i64 d2, .int .i64 d3, .slice B4 l4.length e4, .slice B5 l5.length e5, .slice none 0 0, .int .i64 a0, .string a1, .string a2, .string a3, .int .i64 a4, .int .i64 a5, .int .i64 a6, .int .i64 a7, .int .i64 a8, .int .i64 a9, .int .i64 a10, .int .i64 a11, .int .i64 a12, .int .i64 a13, .int .i64 a14, .int .i64 a15, .int .i64 a16, .int .i64 a17, .int .i64 a18, .int .i64 a19, .int .i64 a20, .slice B7 l7.length e7, .slice B8 l8.length e8]) (by first | rfl | (go_simp; done) | (go_simp; rfl)) BK2.out 30 size36 rfl (by simp) (by intro x hx; simp [Value.cells] at hx; rcases hx with rfl | rfl | rfl | rfl | rfl | rfl | rfl | rfl | rfl | rfl | rfl | rfl | rfl | rfl | rfl | rfl | rfl | rfl | rfl | rfl | rfl | rfl | rfl | rfl | rfl | rfl | rfl | rfl | rfl | rfl <;> rfl) #[.string d0, .int .i64 d1, .int .i64 d2, .int .i64 d3, .slice B4 l4.length e4, .slice B5 l5.length e5, .slice none 0 0, .int .i64 a0, .string a1, .string a2, .string a3, .int .i64 a4, .int .i64 a5, .int .i64 a6, .int .i64 a7, .int .i64 a8, .int .i64 a9, .int .i64 a10, .int .i64 a11, .int .i64 a12, .int .i64 a13, .int .i64 a14, .int .i64 a15, .int .i64 a16, .int .i64 a17, .int .i64 a18, .int .i64 a19, .int .i64 a20, .slice B7 l7.length e7, .slice B8 l8.length e8] rfl ?_; intro wv12_ hbk ho; have n0_ := Aside0.mk (Other.below ho HB.out (by have := ORD.out; omega)); have n1_ := Aside0.mk (Other.blk ho BK1.out (by have := ORD.out; omega)); have n2_ := Aside0.mk (hbk); have n3_ := Aside0.mk (Other.blk ho BK3.out (by have := ORD.out; omega)); have n4_ := Aside0.mk (Kd.Fr.other FR4.out ho (by have := ORD.out; omega)); have n5_ := Aside0.mk (Kd.Fr.other FR5.out ho (by have := ORD.out; omega)); have n6_ := Aside0.mk (Kd.Fr.other FR7.out ho (by have := ORD.out; omega)); have n7_ := Aside0.mk (Kd.Fr.other FR8.out ho (by have := ORD.out; omega)); clear HB BK1 BK2 BK3 FR4 FR5 FR7 FR8; have HB := n0_; have BK1 := n1_; have BK2 := n2_; have BK3 := n3_; have FR4 := n4_; have FR5 := n5_; have FR7 := n6_; have FR8 := n7_; clear n0_ n1_ n2_ n3_ n4_ n5_ n6_ n7_; clear hbk ho))
    (try simp only [Exit.inBlock, Exit.then])
    refine bodyPost_ret (results_cell_row rfl _ _ g2 36 #[.string d0, .int .i64 d1, .int .i64 d2, .int .i64 d3, .slice B4 l4.length e4, .slice B5 l5.length e5, .slice none 0 0, .int .i64 a0, .string a1, .string a2, .string a3, .int .i64 a4, .int .i64 a5, .int .i64 a6, .int .i64 a7, .int .i64 a8, .int .i64 a9, .int .i64 a10, .int .i64 a11, .int .i64 a12, .int .i64 a13, .int .i64 a14, .int .i64 a15, .int .i64 a16, .int .i64 a17, .int .i64 a18, .int .i64 a19, .int .i64 a20, .slice B7 l7.length e7, .slice B8 l8.length e8] (0, 0) _ rfl BK2.out Try.underlying36 rfl size36) rfl ?_
    exact ⟨_, _, _, _, _, rfl, Kd.Fr.lower FR4.out (by have := ORD.out; omega), Kd.Fr.lower FR5.out (by have := ORD.out; omega), Kd.Fr.of (ok := fun _ => True) (.inl ⟨rfl, rfl⟩), Kd.Fr.lower FR7.out (by have := ORD.out; omega), Kd.Fr.lower FR8.out (by have := ORD.out; omega), HB.out⟩
  | some ad =>
  clear hr4 hc4 hl4 hr5 hc5 hl5 hr6 hc6 hl6 hs hr7 hc7 hr8 hc8
  go_enter Try.func6, Try.ntmps6
  go_upto_region 2 with (first | ((with_reducible refine gate_dst (N := 1) rfl ?_); (try (refine gate_guard (by rfl) ?_; dsimp only)); refine box_event ?hg (N := 1) ?hd (cs := #[.string d0, .int .i64 d1, .int .i64 d2, .int .i64 d3, .slice A4 l4.length c4, .slice A5 l5.length c5, .slice (some ad) l6.length c6, .int .i64 a0, .string a1, .string a2, .string a3, .int .i64 a4, .int .i64 a5, .int .i64 a6, .int .i64 a7, .int .i64 a8, .int .i64 a9, .int .i64 a10, .int .i64 a11, .int .i64 a12, .int .i64 a13, .int .i64 a14, .int .i64 a15, .int .i64 a16, .int .i64 a17, .int .i64 a18, .int .i64 a19, .int .i64 a20, .slice A7 l7.length c7, .slice A8 l8.length c8]) (t := 36) ?hr ?_; (case hd => rfl); (case hg => rfl); (case hr => first | (go_simp; done) | (go_simp; rfl)); intro g1 hg wv1_ hbox hb; have n0_ := Aside0.mk (below_step HB.out hb); have n1_ := Aside0.mk (hbox); have n2_ := Aside0.mk ((show w.heap.size ≤ g1 by rw [hg]; exact below_size HB.out)); clear HB; have HB := n0_; have BK1 := n1_; have ORD := n2_; clear n0_ n1_ n2_; clear hb hbox hg) | ((with_reducible refine gate_dst (N := 2) rfl ?_); (try (refine gate_guard (by rfl) ?_; dsimp only)); refine box_event ?hg (N := 2) ?hd (cs := #[.string ⟨#[]⟩, .int .i64 0, .int .i64 0, .int .i64 0, .slice none 0 0, .slice none 0 0, .slice none 0 0, .int .i64 0, .string ⟨#[]⟩, .string ⟨#[]⟩, .string ⟨#[]⟩, .int .i64 0, .int .i64 0, .int .i64 0, .int .i64 0, .int .i64 0, .int .i64 0, .int .i64 0, .int .i64 0, .int .i64 0, .int .i64 0, .int .i64 0, .int .i64 0, .int .i64 0, .int .i64 0, .int .i64 0, .int .i64 0, .int .i64 0, .slice none 0 0, .slice none 0 0]) (t := 36) ?hr ?_; (case hd => rfl); (case hg => rfl); (case hr => first | (go_simp; done) | (go_simp; rfl)); intro g2 hg wv2_ hbox hb; have n0_ := Aside0.mk (below_step HB.out hb); have n1_ := Aside0.mk (blk_below BK1.out hb); have n2_ := Aside0.mk (hbox); have n3_ := Aside0.mk (And.intro ORD.out (show g1 < g2 by rw [hg]; exact blk_lt BK1.out)); clear HB BK1 ORD; have HB := n0_; have BK1 := n1_; have BK2 := n2_; have ORD := n3_; clear n0_ n1_ n2_ n3_; clear hb hbox hg) | ((with_reducible refine gate_dst (N := 5) rfl ?_); (try (refine gate_guard (by rfl) ?_; dsimp only)); refine ldb_event rfl rfl (by first | rfl | (go_simp; done) | (go_simp; rfl)) Try.underlying36 ⟨_, rfl⟩ BK1.out 30 size36 [.string d0, .int .i64 d1, .int .i64 d2, .int .i64 d3, .slice A4 l4.length c4, .slice A5 l5.length c5, .slice (some ad) l6.length c6, .int .i64 a0, .string a1, .string a2, .string a3, .int .i64 a4, .int .i64 a5, .int .i64 a6, .int .i64 a7, .int .i64 a8, .int .i64 a9, .int .i64 a10, .int .i64 a11, .int .i64 a12, .int .i64 a13, .int .i64 a14, .int .i64 a15, .int .i64 a16, .int .i64 a17, .int .i64 a18, .int .i64 a19, .int .i64 a20, .slice A7 l7.length c7, .slice A8 l8.length c8] rfl rfl ?_) | ((with_reducible refine gate_dst (N := 3) rfl ?_); (try (refine gate_guard (by rfl) ?_; dsimp only)); refine box_event ?hg (N := 3) ?hd (cs := #[.string ⟨#[]⟩, .int .i64 0, .int .i64 0, .int .i64 0, .slice none 0 0, .slice none 0 0, .slice none 0 0, .int .i64 0, .string ⟨#[]⟩, .string ⟨#[]⟩, .string ⟨#[]⟩, .int .i64 0, .int .i64 0, .int .i64 0, .int .i64 0, .int .i64 0, .int .i64 0, .int .i64 0, .int .i64 0, .int .i64 0, .int .i64 0, .int .i64 0, .int .i64 0, .int .i64 0, .int .i64 0, .int .i64 0, .int .i64 0, .int .i64 0, .slice none 0 0, .slice none 0 0]) (t := 36) ?hr ?_; (case hd => rfl); (case hg => rfl); (case hr => first | (go_simp; done) | (go_simp; rfl)); intro g3 hg wv3_ hbox hb; have n0_ := Aside0.mk (below_step HB.out hb); have n1_ := Aside0.mk (blk_below BK1.out hb); have n2_ := Aside0.mk (blk_below BK2.out hb); have n3_ := Aside0.mk (hbox); have n4_ := Aside0.mk (And.intro ORD.out (show g2 < g3 by rw [hg]; exact blk_lt BK2.out)); clear HB BK1 BK2 ORD; have HB := n0_; have BK1 := n1_; have BK2 := n2_; have BK3 := n3_; have ORD := n4_; clear n0_ n1_ n2_ n3_ n4_; clear hb hbox hg) | ((with_reducible refine gate_store (t := 36) (p := 3) rfl ?_); refine st_event rfl rfl rfl (g := g3) (j := 0) (by first | rfl | (go_simp; done) | (go_simp; rfl)) (u := .agg #[.string d0, .int .i64 d1, .int .i64 d2, .int .i64 d3, .slice A4 l4.length c4, .slice A5 l5.length c5, .slice (some ad) l6.length c6, .int .i64 a0, .string a1, .string a2, .string a3, .int .i64 a4, .int .i64 a5, .int .i64 a6, .int .i64 a7, .int .i64 a8, .int .i64 a9, .int .i64 a10, .int .i64 a11, .int .i64 a12, .int .i64 a13, .int .i64 a14, .int .i64 a15, .int .i64 a16, .int .i64 a17, .int .i64 a18, .int .i64 a19, .int .i64 a20, .slice A7 l7.length c7, .slice A8 l8.length c8]) (by first | rfl | (go_simp; done) | (go_simp; rfl)) BK3.out 30 size36 rfl (by simp) (by intro x hx; simp [Value.cells] at hx; rcases hx with rfl | rfl | rfl | rfl | rfl | rfl | rfl | rfl | rfl | rfl | rfl | rfl | rfl | rfl | rfl | rfl | rfl | rfl | rfl | rfl | rfl | rfl | rfl | rfl | rfl | rfl | rfl | rfl | rfl | rfl <;> rfl) #[.string d0, .int .i64 d1, .int .i64 d2, .int .i64 d3, .slice A4 l4.length c4, .slice A5 l5.length c5, .slice (some ad) l6.length c6, .int .i64 a0, .string a1, .string a2, .string a3, .int .i64 a4, .int .i64 a5, .int .i64 a6, .int .i64 a7, .int .i64 a8, .int .i64 a9, .int .i64 a10, .int .i64 a11, .int .i64 a12, .int .i64 a13, .int .i64 a14, .int .i64 a15, .int .i64 a16, .int .i64 a17, .int .i64 a18, .int .i64 a19, .int .i64 a20, .slice A7 l7.length c7, .slice A8 l8.length c8] rfl ?_; intro wv4_ hbk ho; have n0_ := Aside0.mk (Other.below ho HB.out (by have := ORD.out; omega)); have n1_ := Aside0.mk (Other.blk ho BK1.out (by have := ORD.out; omega)); have n2_ := Aside0.mk (Other.blk ho BK2.out (by have := ORD.out; omega)); have n3_ := Aside0.mk (hbk); clear HB BK1 BK2 BK3; have HB := n0_; have BK1 := n1_; have BK2 := n2_; have BK3 := n3_; clear n0_ n1_ n2_ n3_; clear hbk ho))
  go_upto_region 3 with (first | ((with_reducible refine gate_dst (N := 7) rfl ?_); (try (refine gate_guard (by rfl) ?_; dsimp only)); refine ld_event rfl rfl (by first | rfl | (go_simp; done) | (go_simp; rfl)) Try.underlying24 trivial (.slice A4 l4.length c4) ((blk_cell BK1.out 4).trans rfl) ?_) | ((with_reducible refine gate_callee (f := 18) rfl ?_); (try (refine gate_guard (by rfl) ?_; dsimp only)); refine goesL_ (some 8) rfl rfl Try.func18 (by kernel_rfl) rfl #[.slice A4 l4.length c4] rfl (by (try simp only [List.map_toArray, List.map_cons, List.map_nil]); first | done | rfl) ?_; (with_reducible refine (dates.calls A4 c4 l4 _ (Kd.C_below HR4.out HB.out) HC4.out HL4.out).mono ?_); rintro e wv5_ ⟨v4, rfl, hF, hb⟩; obtain ⟨B4, e4, rfl, _, _, _⟩ := Kd.sB_read (Kd.Fr.K hF); refine ⟨_, rfl, ?_⟩; have n0_ := Aside0.mk (below_step HB.out hb); have n1_ := Aside0.mk (blk_below BK1.out hb); have n2_ := Aside0.mk (blk_below BK2.out hb); have n3_ := Aside0.mk (blk_below BK3.out hb); have n4_ := Aside0.mk (Kd.Fr.lower (b' := g3 + 1) hF (blk_lt BK3.out)); clear HB BK1 BK2 BK3; have HB := n0_; have BK1 := n1_; have BK2 := n2_; have BK3 := n3_; have FR4 := n4_; clear n0_ n1_ n2_ n3_ n4_; clear hb hF) | ((with_reducible refine gate_store (t := 24) (p := 9) rfl ?_); refine st_event rfl rfl rfl (g := g3) (j := 4) (by first | rfl | (go_simp; done) | (go_simp; rfl)) (u := .slice B4 l4.length e4) (by first | rfl | (go_simp; done) | (go_simp; rfl)) BK3.out 1 size24 rfl (by simp) (by intro x hx; simp [Value.cells] at hx; rcases hx with rfl <;> rfl) #[.string d0, .int .i64 d1, .int .i64 d2, .int .i64 d3, .slice B4 l4.length e4, .slice A5 l5.length c5, .slice (some ad) l6.length c6, .int .i64 a0, .string a1, .string a2, .string a3, .int .i64 a4, .int .i64 a5, .int .i64 a6, .int .i64 a7, .int .i64 a8, .int .i64 a9, .int .i64 a10, .int .i64 a11, .int .i64 a12, .int .i64 a13, .int .i64 a14, .int .i64 a15, .int .i64 a16, .int .i64 a17, .int .i64 a18, .int .i64 a19, .int .i64 a20, .slice A7 l7.length c7, .slice A8 l8.length c8] rfl ?_; intro wv6_ hbk ho; have n0_ := Aside0.mk (Other.below ho HB.out (by have := ORD.out; omega)); have n1_ := Aside0.mk (Other.blk ho BK1.out (by have := ORD.out; omega)); have n2_ := Aside0.mk (Other.blk ho BK2.out (by have := ORD.out; omega)); have n3_ := Aside0.mk (hbk); have n4_ := Aside0.mk (Kd.Fr.other FR4.out ho (by have := ORD.out; omega)); clear HB BK1 BK2 BK3 FR4; have HB := n0_; have BK1 := n1_; have BK2 := n2_; have BK3 := n3_; have FR4 := n4_; clear n0_ n1_ n2_ n3_ n4_; clear hbk ho))
  go_upto_region 4 with (first | ((with_reducible refine gate_dst (N := 11) rfl ?_); (try (refine gate_guard (by rfl) ?_; dsimp only)); refine ld_event rfl rfl (by first | rfl | (go_simp; done) | (go_simp; rfl)) Try.underlying25 trivial (.slice A5 l5.length c5) ((blk_cell BK1.out 5).trans rfl) ?_) | ((with_reducible refine gate_callee (f := 19) rfl ?_); (try (refine gate_guard (by rfl) ?_; dsimp only)); refine goesL_ (some 12) rfl rfl Try.func19 (by kernel_rfl) rfl #[.slice A5 l5.length c5] rfl (by (try simp only [List.map_toArray, List.map_cons, List.map_nil]); first | done | rfl) ?_; (with_reducible refine (names.calls A5 c5 l5 _ (Kd.C_below HR5.out HB.out) HC5.out HL5.out).mono ?_); rintro e wv7_ ⟨v5, rfl, hF, hb⟩; obtain ⟨B5, e5, rfl, _, _, _⟩ := Kd.sB_read (Kd.Fr.K hF); refine ⟨_, rfl, ?_⟩; have n0_ := Aside0.mk (below_step HB.out hb); have n1_ := Aside0.mk (blk_below BK1.out hb); have n2_ := Aside0.mk (blk_below BK2.out hb); have n3_ := Aside0.mk (blk_below BK3.out hb); have n4_ := Aside0.mk (Kd.Fr.below FR4.out hb); have n5_ := Aside0.mk (Kd.Fr.lower (b' := g3 + 1) hF (blk_lt BK3.out)); clear HB BK1 BK2 BK3 FR4; have HB := n0_; have BK1 := n1_; have BK2 := n2_; have BK3 := n3_; have FR4 := n4_; have FR5 := n5_; clear n0_ n1_ n2_ n3_ n4_ n5_; clear hb hF) | ((with_reducible refine gate_store (t := 25) (p := 13) rfl ?_); refine st_event rfl rfl rfl (g := g3) (j := 5) (by first | rfl | (go_simp; done) | (go_simp; rfl)) (u := .slice B5 l5.length e5) (by first | rfl | (go_simp; done) | (go_simp; rfl)) BK3.out 1 size25 rfl (by simp) (by intro x hx; simp [Value.cells] at hx; rcases hx with rfl <;> rfl) #[.string d0, .int .i64 d1, .int .i64 d2, .int .i64 d3, .slice B4 l4.length e4, .slice B5 l5.length e5, .slice (some ad) l6.length c6, .int .i64 a0, .string a1, .string a2, .string a3, .int .i64 a4, .int .i64 a5, .int .i64 a6, .int .i64 a7, .int .i64 a8, .int .i64 a9, .int .i64 a10, .int .i64 a11, .int .i64 a12, .int .i64 a13, .int .i64 a14, .int .i64 a15, .int .i64 a16, .int .i64 a17, .int .i64 a18, .int .i64 a19, .int .i64 a20, .slice A7 l7.length c7, .slice A8 l8.length c8] rfl ?_; intro wv8_ hbk ho; have n0_ := Aside0.mk (Other.below ho HB.out (by have := ORD.out; omega)); have n1_ := Aside0.mk (Other.blk ho BK1.out (by have := ORD.out; omega)); have n2_ := Aside0.mk (Other.blk ho BK2.out (by have := ORD.out; omega)); have n3_ := Aside0.mk (hbk); have n4_ := Aside0.mk (Kd.Fr.other FR4.out ho (by have := ORD.out; omega)); have n5_ := Aside0.mk (Kd.Fr.other FR5.out ho (by have := ORD.out; omega)); clear HB BK1 BK2 BK3 FR4 FR5; have HB := n0_; have BK1 := n1_; have BK2 := n2_; have BK3 := n3_; have FR4 := n4_; have FR5 := n5_; clear n0_ n1_ n2_ n3_ n4_ n5_; clear hbk ho))
  go_upto_region 5 with (first | ((with_reducible refine gate_dst (N := 15) rfl ?_); (try (refine gate_guard (by rfl) ?_; dsimp only)); refine ldb_event rfl rfl (by first | rfl | (go_simp; done) | (go_simp; rfl)) Try.underlying34 ⟨_, rfl⟩ BK1.out 23 size34 [.int .i64 a0, .string a1, .string a2, .string a3, .int .i64 a4, .int .i64 a5, .int .i64 a6, .int .i64 a7, .int .i64 a8, .int .i64 a9, .int .i64 a10, .int .i64 a11, .int .i64 a12, .int .i64 a13, .int .i64 a14, .int .i64 a15, .int .i64 a16, .int .i64 a17, .int .i64 a18, .int .i64 a19, .int .i64 a20, .slice A7 l7.length c7, .slice A8 l8.length c8] rfl rfl ?_) | ((with_reducible refine gate_callee (f := 20) rfl ?_); (try (refine gate_guard (by rfl) ?_; dsimp only)); refine goesL_ (some 16) rfl rfl Try.func20 (by kernel_rfl) rfl #[.agg #[.int .i64 a0, .string a1, .string a2, .string a3, .int .i64 a4, .int .i64 a5, .int .i64 a6, .int .i64 a7, .int .i64 a8, .int .i64 a9, .int .i64 a10, .int .i64 a11, .int .i64 a12, .int .i64 a13, .int .i64 a14, .int .i64 a15, .int .i64 a16, .int .i64 a17, .int .i64 a18, .int .i64 a19, .int .i64 a20, .slice A7 l7.length c7, .slice A8 l8.length c8]] rfl (by (try simp only [List.map_toArray, List.map_cons, List.map_nil]); first | done | rfl) ?_; (with_reducible refine (ConOK.calls hk _ _ _ _ _ _ _ _ _ _ _ _ _ _ _ _ _ _ _ _ _ A7 c7 A8 c8 _ (Kd.C_below HR7.out HB.out) HC7.out (Kd.C_below HR8.out HB.out) HC8.out).mono ?_); rintro e wv9_ ⟨v7, v8, rfl, hF, hF2, hb⟩; obtain ⟨B7, e7, rfl, _, _, _⟩ := Kd.sB_read (Kd.Fr.K hF); obtain ⟨B8, e8, rfl, _, _, _⟩ := Kd.sB_read (Kd.Fr.K hF2); refine ⟨_, rfl, ?_⟩; have n0_ := Aside0.mk (below_step HB.out hb); have n1_ := Aside0.mk (blk_below BK1.out hb); have n2_ := Aside0.mk (blk_below BK2.out hb); have n3_ := Aside0.mk (blk_below BK3.out hb); have n4_ := Aside0.mk (Kd.Fr.below FR4.out hb); have n5_ := Aside0.mk (Kd.Fr.below FR5.out hb); have n6_ := Aside0.mk (Kd.Fr.lower (b' := g3 + 1) hF (blk_lt BK3.out)); have n7_ := Aside0.mk (Kd.Fr.lower (b' := g3 + 1) hF2 (blk_lt BK3.out)); clear HB BK1 BK2 BK3 FR4 FR5; have HB := n0_; have BK1 := n1_; have BK2 := n2_; have BK3 := n3_; have FR4 := n4_; have FR5 := n5_; have FR7 := n6_; have FR8 := n7_; clear n0_ n1_ n2_ n3_ n4_ n5_ n6_ n7_; clear hb hF hF2) | ((with_reducible refine gate_store (t := 34) (p := 17) rfl ?_); refine st_event rfl rfl rfl (g := g3) (j := 7) (by first | rfl | (go_simp; done) | (go_simp; rfl)) (u := .agg #[.int .i64 a0, .string a1, .string a2, .string a3, .int .i64 a4, .int .i64 a5, .int .i64 a6, .int .i64 a7, .int .i64 a8, .int .i64 a9, .int .i64 a10, .int .i64 a11, .int .i64 a12, .int .i64 a13, .int .i64 a14, .int .i64 a15, .int .i64 a16, .int .i64 a17, .int .i64 a18, .int .i64 a19, .int .i64 a20, .slice B7 l7.length e7, .slice B8 l8.length e8]) (by first | rfl | (go_simp; done) | (go_simp; rfl)) BK3.out 23 size34 rfl (by simp) (by intro x hx; simp [Value.cells] at hx; rcases hx with rfl | rfl | rfl | rfl | rfl | rfl | rfl | rfl | rfl | rfl | rfl | rfl | rfl | rfl | rfl | rfl | rfl | rfl | rfl | rfl | rfl | rfl | rfl <;> rfl) #[.string d0, .int .i64 d1, .int .i64 d2, .int .i64 d3, .slice B4 l4.length e4, .slice B5 l5.length e5, .slice (some ad) l6.length c6, .int .i64 a0, .string a1, .string a2, .string a3, .int .i64 a4, .int .i64 a5, .int .i64 a6, .int .i64 a7, .int .i64 a8, .int .i64 a9, .int .i64 a10, .int .i64 a11, .int .i64 a12, .int .i64 a13, .int .i64 a14, .int .i64 a15, .int .i64 a16, .int .i64 a17, .int .i64 a18, .int .i64 a19, .int .i64 a20, .slice B7 l7.length e7, .slice B8 l8.length e8] rfl ?_; intro wv10_ hbk ho; have n0_ := Aside0.mk (Other.below ho HB.out (by have := ORD.out; omega)); have n1_ := Aside0.mk (Other.blk ho BK1.out (by have := ORD.out; omega)); have n2_ := Aside0.mk (Other.blk ho BK2.out (by have := ORD.out; omega)); have n3_ := Aside0.mk (hbk); have n4_ := Aside0.mk (Kd.Fr.other FR4.out ho (by have := ORD.out; omega)); have n5_ := Aside0.mk (Kd.Fr.other FR5.out ho (by have := ORD.out; omega)); have n6_ := Aside0.mk (Kd.Fr.other FR7.out ho (by have := ORD.out; omega)); have n7_ := Aside0.mk (Kd.Fr.other FR8.out ho (by have := ORD.out; omega)); clear HB BK1 BK2 BK3 FR4 FR5 FR7 FR8; have HB := n0_; have BK1 := n1_; have BK2 := n2_; have BK3 := n3_; have FR4 := n4_; have FR5 := n5_; have FR7 := n6_; have FR8 := n7_; clear n0_ n1_ n2_ n3_ n4_ n5_ n6_ n7_; clear hbk ho))
  go_upto_region 6 with (first | ((with_reducible refine gate_store (t := 26) (p := 18) rfl ?_); refine st_event rfl rfl rfl (g := g3) (j := 6) (by first | rfl | (go_simp; done) | (go_simp; rfl)) (u := .slice none 0 0) (by first | rfl | (go_simp; done) | (go_simp; rfl)) BK3.out 1 size26 rfl (by simp) (by intro x hx; simp [Value.cells] at hx; rcases hx with rfl <;> rfl) #[.string d0, .int .i64 d1, .int .i64 d2, .int .i64 d3, .slice B4 l4.length e4, .slice B5 l5.length e5, .slice none 0 0, .int .i64 a0, .string a1, .string a2, .string a3, .int .i64 a4, .int .i64 a5, .int .i64 a6, .int .i64 a7, .int .i64 a8, .int .i64 a9, .int .i64 a10, .int .i64 a11, .int .i64 a12, .int .i64 a13, .int .i64 a14, .int .i64 a15, .int .i64 a16, .int .i64 a17, .int .i64 a18, .int .i64 a19, .int .i64 a20, .slice B7 l7.length e7, .slice B8 l8.length e8] rfl ?_; intro wv11_ hbk ho; have n0_ := Aside0.mk (Other.below ho HB.out (by have := ORD.out; omega)); have n1_ := Aside0.mk (Other.blk ho BK1.out (by have := ORD.out; omega)); have n2_ := Aside0.mk (Other.blk ho BK2.out (by have := ORD.out; omega)); have n3_ := Aside0.mk (hbk); have n4_ := Aside0.mk (Kd.Fr.other FR4.out ho (by have := ORD.out; omega)); have n5_ := Aside0.mk (Kd.Fr.other FR5.out ho (by have := ORD.out; omega)); have n6_ := Aside0.mk (Kd.Fr.other FR7.out ho (by have := ORD.out; omega)); have n7_ := Aside0.mk (Kd.Fr.other FR8.out ho (by have := ORD.out; omega)); clear HB BK1 BK2 BK3 FR4 FR5 FR7 FR8; have HB := n0_; have BK1 := n1_; have BK2 := n2_; have BK3 := n3_; have FR4 := n4_; have FR5 := n5_; have FR7 := n6_; have FR8 := n7_; clear n0_ n1_ n2_ n3_ n4_ n5_ n6_ n7_; clear hbk ho))
  have ASZ := Aside0.mk (show g3 + 1 ≤ _ from blk_lt BK3.out)
  go_upto_region 8 with (first | ((with_reducible refine gate_dst (N := 20) rfl ?_); (try (refine gate_guard (by rfl) ?_; dsimp only)); refine ld_event rfl rfl (by first | rfl | (go_simp; done) | (go_simp; rfl)) Try.underlying26 trivial (.slice (some ad) l6.length c6) ((blk_cell BK1.out 6).trans rfl) ?_) | ((with_reducible refine gate_dst (N := 23) rfl ?_); (try (refine gate_guard (by rfl) ?_; dsimp only)); refine ld_event rfl rfl (by first | rfl | (go_simp; done) | (go_simp; rfl)) Try.underlying26 trivial (.slice (some ad) l6.length c6) ((blk_cell BK1.out 6).trans rfl) ?_) | ((with_reducible refine gate_dst (N := 26) rfl ?_); refine Kd.R_make0 k56B (g3 + 1) 56 rfl (N := 26) rfl 26 (.const (.int .i64 0)) (.tmp 25) rfl (l6.length + 1) rfl (by first | rfl | (go_simp; done) | (go_simp; rfl)) Try.underlying26 (.agg #[.string ⟨#[]⟩, .slice none 0 0, .int .i64 0, .int .i64 0, .string ⟨#[]⟩, .slice none 0 0, .slice none 0 0]) 120 info56 (by decide) (by have := HL6.out; omega) (Below.refl _ _) ASZ.out ?_; intro gr_ wv12_ hg_ hr_ hb hb2; have n0_ := Aside0.mk (below_step HB.out hb2); have n1_ := Aside0.mk (blk_below BK1.out hb2); have n2_ := Aside0.mk (blk_below BK2.out hb2); have n3_ := Aside0.mk (blk_below BK3.out hb2); have n4_ := Aside0.mk (Kd.Fr.below FR4.out hb2); have n5_ := Aside0.mk (Kd.Fr.below FR5.out hb2); have n6_ := Aside0.mk (Kd.Fr.below FR7.out hb2); have n7_ := Aside0.mk (Kd.Fr.below FR8.out hb2); have n8_ := Aside0.mk (Kd.R_mono (Kd.R_bound hr_) (fun k hk => hk.2.1)); clear HB BK1 BK2 BK3 FR4 FR5 FR7 FR8; have HB := n0_; have BK1 := n1_; have BK2 := n2_; have BK3 := n3_; have FR4 := n4_; have FR5 := n5_; have FR7 := n6_; have FR8 := n7_; have RO := n8_; clear n0_ n1_ n2_ n3_ n4_ n5_ n6_ n7_ n8_; clear hg_ hr_ hb hb2) | ((with_reducible refine gate_store (t := 26) (p := 27) rfl ?_); refine st_event rfl rfl rfl (g := g3) (j := 6) (by first | rfl | (go_simp; done) | (go_simp; rfl)) (u := (.slice (some ⟨gr_, 0, none⟩) 0 (l6.length + 1))) (by first | rfl | (go_simp; done) | (go_simp; rfl)) BK3.out 1 size26 rfl (by simp) (by intro x hx; simp [Value.cells] at hx; rcases hx with rfl <;> rfl) #[.string d0, .int .i64 d1, .int .i64 d2, .int .i64 d3, .slice B4 l4.length e4, .slice B5 l5.length e5, (.slice (some ⟨gr_, 0, none⟩) 0 (l6.length + 1)), .int .i64 a0, .string a1, .string a2, .string a3, .int .i64 a4, .int .i64 a5, .int .i64 a6, .int .i64 a7, .int .i64 a8, .int .i64 a9, .int .i64 a10, .int .i64 a11, .int .i64 a12, .int .i64 a13, .int .i64 a14, .int .i64 a15, .int .i64 a16, .int .i64 a17, .int .i64 a18, .int .i64 a19, .int .i64 a20, .slice B7 l7.length e7, .slice B8 l8.length e8] rfl ?_; intro wv13_ hbk ho; have n0_ := Aside0.mk (Other.below ho HB.out (by have := ORD.out; omega)); have n1_ := Aside0.mk (Other.blk ho BK1.out (by have := ORD.out; omega)); have n2_ := Aside0.mk (Other.blk ho BK2.out (by have := ORD.out; omega)); have n3_ := Aside0.mk (hbk); have n4_ := Aside0.mk (Kd.Fr.other FR4.out ho (by have := ORD.out; omega)); have n5_ := Aside0.mk (Kd.Fr.other FR5.out ho (by have := ORD.out; omega)); have n6_ := Aside0.mk (Kd.Fr.other FR7.out ho (by have := ORD.out; omega)); have n7_ := Aside0.mk (Kd.Fr.other FR8.out ho (by have := ORD.out; omega)); have n8_ := Aside0.mk (Kd.R_step RO.out (fun k hk_ _ => ho.block k (by have := ORD.out; omega))); clear HB BK1 BK2 BK3 FR4 FR5 FR7 FR8 RO; have HB := n0_; have BK1 := n1_; have BK2 := n2_; have BK3 := n3_; have FR4 := n4_; have FR5 := n5_; have FR7 := n6_; have FR8 := n7_; have RO := n8_; clear n0_ n1_ n2_ n3_ n4_ n5_ n6_ n7_ n8_; clear hbk ho))
  clear ASZ
  go_wp2
  go_loopg [4] l6.length (fun kq v4 w' => ∃ (i_ : Int) (xs : List S56) (Au_ : Option Addr) (cu_ : Nat), v4 = .int .i64 i_ ∧ Aside0 (0 ≤ i_ ∧ i_ + (kq : Int) = (l6.length : Int)) ∧ Aside0 (xs = l6.take i_.toNat) ∧ Aside0 (Kd.R k56B 56 w' (g3 + 1) (fun k => g3 + 1 ≤ k) (.slice Au_ xs.length cu_) xs) ∧ Aside0 (Kd.Fr (Kd.sliceB 23 k23 b23) (g3 + 1) w' l4 [.slice B4 l4.length e4]) ∧ Aside0 (Kd.Fr (Kd.sliceB 9 Kd.string b9) (g3 + 1) w' l5 [.slice B5 l5.length e5]) ∧ Aside0 (Kd.Fr (Kd.sliceB 54 k54B b54) (g3 + 1) w' l7 [.slice B7 l7.length e7]) ∧ Aside0 (Kd.Fr (Kd.sliceB 34 k34B b34) (g3 + 1) w' l8 [.slice B8 l8.length e8]) ∧ Aside0 (w'.heap[g1]? = some (.cells #[.string d0, .int .i64 d1, .int .i64 d2, .int .i64 d3, .slice A4 l4.length c4, .slice A5 l5.length c5, .slice (some ad) l6.length c6, .int .i64 a0, .string a1, .string a2, .string a3, .int .i64 a4, .int .i64 a5, .int .i64 a6, .int .i64 a7, .int .i64 a8, .int .i64 a9, .int .i64 a10, .int .i64 a11, .int .i64 a12, .int .i64 a13, .int .i64 a14, .int .i64 a15, .int .i64 a16, .int .i64 a17, .int .i64 a18, .int .i64 a19, .int .i64 a20, .slice A7 l7.length c7, .slice A8 l8.length c8] 36 (0, 0))) ∧ Aside0 (w'.heap[g2]? = some (.cells #[.string ⟨#[]⟩, .int .i64 0, .int .i64 0, .int .i64 0, .slice none 0 0, .slice none 0 0, .slice none 0 0, .int .i64 0, .string ⟨#[]⟩, .string ⟨#[]⟩, .string ⟨#[]⟩, .int .i64 0, .int .i64 0, .int .i64 0, .int .i64 0, .int .i64 0, .int .i64 0, .int .i64 0, .int .i64 0, .int .i64 0, .int .i64 0, .int .i64 0, .int .i64 0, .int .i64 0, .int .i64 0, .int .i64 0, .int .i64 0, .int .i64 0, .slice none 0 0, .slice none 0 0] 36 (0, 0))) ∧ Aside0 (w'.heap[g3]? = some (.cells #[.string d0, .int .i64 d1, .int .i64 d2, .int .i64 d3, .slice B4 l4.length e4, .slice B5 l5.length e5, (.slice Au_ xs.length cu_), .int .i64 a0, .string a1, .string a2, .string a3, .int .i64 a4, .int .i64 a5, .int .i64 a6, .int .i64 a7, .int .i64 a8, .int .i64 a9, .int .i64 a10, .int .i64 a11, .int .i64 a12, .int .i64 a13, .int .i64 a14, .int .i64 a15, .int .i64 a16, .int .i64 a17, .int .i64 a18, .int .i64 a19, .int .i64 a20, .slice B7 l7.length e7, .slice B8 l8.length e8] 36 (0, 0))) ∧ Aside0 (Below w.heap.size w w'))
  case atStart => exact ⟨0, [], _, _, rfl, ⟨by omega, by omega⟩, ⟨rfl⟩, RO, FR4, FR5, FR7, FR8, BK1, BK2, BK3, HB⟩
  case round =>
    clear RO FR4 FR5 FR7 FR8 BK1 BK2 BK3 HB
    obtain ⟨i_, xs, Au_, cu_, rfl, HQ, HX, RO, FR4, FR5, FR7, FR8, BK1, BK2, BK3, HB⟩ := hrel
    have HXL := Aside0.mk (show xs.length ≤ l6.length ∧ (xs.length : Int) = i_ by rw [HX.out, List.length_take]; have := HQ.out; omega)
    by_cases c_ : i_ < (l6.length : Int)
    · have cb : decide (i_ < (l6.length : Int)) = true := decide_eq_true c_
      have p_ : 0 ≤ i_ := HQ.out.1
      obtain ⟨ad1, cv_, e_, _, hK_, hc0_⟩ := Kd.C_get HR6.out z56 i_ p_ c_
      cases e_
      obtain ⟨B1e, d1e, B5e, d5e, B6e, d6e, rfl, hl1, hi1, hl5, hi5, hl6, hi6⟩ := k56_open hK_
      replace hc0_ : ∀ j u, ([.string (rd_T56 l6 i_).f0, .slice B1e (rd_T56 l6 i_).f1.length d1e, .int .i64 (rd_T56 l6 i_).f2.f0, .int .i64 (rd_T56 l6 i_).f2.f1, .string (rd_T56 l6 i_).f2.f2, .slice B5e (rd_T56 l6 i_).f2.f3.length d5e, .slice B6e (rd_T56 l6 i_).f2.f4.length d6e] : List Value)[j]? = some u → w.cell? (ad.add (i_.toNat * 7 + j)) = some u := hc0_
      have hc1_ : ∀ j u, ([.string (rd_T56 l6 i_).f0, .slice B1e (rd_T56 l6 i_).f1.length d1e, .int .i64 (rd_T56 l6 i_).f2.f0, .int .i64 (rd_T56 l6 i_).f2.f1, .string (rd_T56 l6 i_).f2.f2, .slice B5e (rd_T56 l6 i_).f2.f3.length d5e, .slice B6e (rd_T56 l6 i_).f2.f4.length d6e] : List Value)[j]? = some u → wr.cell? (ad.add (i_.toNat * 7 + j)) = some u := fun j v hj => by have h1 := hc0_ j v hj; exact (HB.out.cell (World.block_lt_of_cell? w _ h1)).trans h1
      have HX0 := Aside0.mk (show wr.cell? (ad.add (i_.toNat * 7)) = some (.string (rd_T56 l6 i_).f0) from hc1_ 0 _ rfl)
      have HX1 := Aside0.mk (show wr.cell? ⟨(ad.add (i_.toNat * 7)).block, (ad.add (i_.toNat * 7)).off + 1, none⟩ = some (.slice B1e (rd_T56 l6 i_).f1.length d1e) from by rw [← add_field _ _ 1 (by omega)]; exact hc1_ 1 _ rfl)
      have HCS := Aside0.mk (show CSat wr ⟨(ad.add (i_.toNat * 7)).block, (ad.add (i_.toNat * 7)).off + 2, none⟩ [.int .i64 (rd_T56 l6 i_).f2.f0, .int .i64 (rd_T56 l6 i_).f2.f1, .string (rd_T56 l6 i_).f2.f2, .slice B5e (rd_T56 l6 i_).f2.f3.length d5e, .slice B6e (rd_T56 l6 i_).f2.f4.length d6e] from CSat.of_get hc1_ 2 (by decide))
      have HE1 := Aside0.mk (show Kd.C Kd.string w B1e (rd_T56 l6 i_).f1.length (rd_T56 l6 i_).f1 from hi1)
      have HE1c := Aside0.mk (show (rd_T56 l6 i_).f1.length ≤ d1e from hl1)
      have HE5 := Aside0.mk (show Kd.C k23 w B5e (rd_T56 l6 i_).f2.f3.length (rd_T56 l6 i_).f2.f3 from hi5)
      have HE5c := Aside0.mk (show (rd_T56 l6 i_).f2.f3.length ≤ d5e from hl5)
      have HE6 := Aside0.mk (show Kd.C k54 w B6e (rd_T56 l6 i_).f2.f4.length (rd_T56 l6 i_).f2.f4 from hi6)
      have HE6c := Aside0.mk (show (rd_T56 l6 i_).f2.f4.length ≤ d6e from hl6)
      have HM := Aside0.mk (rd_mem56 p_ c_)
      clear hK_ hc0_ hc1_ hi1 hi5 hi6 hl1 hl5 hl6
      have HC_ := Aside0.mk c_
      have HTN := Aside0.mk (take_next56 p_ c_)
      replace p_ := eq_true p_
      replace c_ := eq_true c_
      go_upto_region 11 with (first | ((with_reducible refine gate_dst (N := 30) rfl ?_); (try (refine gate_guard (by rfl) ?_; dsimp only)); refine ld_event rfl rfl (by first | rfl | (go_simp; done) | (go_simp; rfl)) Try.underlying26 trivial (.slice (some ad) l6.length c6) ((blk_cell BK1.out 6).trans rfl) ?_))
      refine start_ (n := 27) (S := fun w' => w'.heap[g1]? = some (.cells #[.string d0, .int .i64 d1, .int .i64 d2, .int .i64 d3, .slice A4 l4.length c4, .slice A5 l5.length c5, .slice (some ad) l6.length c6, .int .i64 a0, .string a1, .string a2, .string a3, .int .i64 a4, .int .i64 a5, .int .i64 a6, .int .i64 a7, .int .i64 a8, .int .i64 a9, .int .i64 a10, .int .i64 a11, .int .i64 a12, .int .i64 a13, .int .i64 a14, .int .i64 a15, .int .i64 a16, .int .i64 a17, .int .i64 a18, .int .i64 a19, .int .i64 a20, .slice A7 l7.length c7, .slice A8 l8.length c8] 36 (0, 0)) ∧ w'.heap[g2]? = some (.cells #[.string ⟨#[]⟩, .int .i64 0, .int .i64 0, .int .i64 0, .slice none 0 0, .slice none 0 0, .slice none 0 0, .int .i64 0, .string ⟨#[]⟩, .string ⟨#[]⟩, .string ⟨#[]⟩, .int .i64 0, .int .i64 0, .int .i64 0, .int .i64 0, .int .i64 0, .int .i64 0, .int .i64 0, .int .i64 0, .int .i64 0, .int .i64 0, .int .i64 0, .int .i64 0, .int .i64 0, .int .i64 0, .int .i64 0, .int .i64 0, .int .i64 0, .slice none 0 0, .slice none 0 0] 36 (0, 0)) ∧ w'.heap[g3]? = some (.cells #[.string d0, .int .i64 d1, .int .i64 d2, .int .i64 d3, .slice B4 l4.length e4, .slice B5 l5.length e5, (.slice Au_ xs.length cu_), .int .i64 a0, .string a1, .string a2, .string a3, .int .i64 a4, .int .i64 a5, .int .i64 a6, .int .i64 a7, .int .i64 a8, .int .i64 a9, .int .i64 a10, .int .i64 a11, .int .i64 a12, .int .i64 a13, .int .i64 a14, .int .i64 a15, .int .i64 a16, .int .i64 a17, .int .i64 a18, .int .i64 a19, .int .i64 a20, .slice B7 l7.length e7, .slice B8 l8.length e8] 36 (0, 0)) ∧ w'.cell? (ad.add (i_.toNat * 7)) = some (.string (rd_T56 l6 i_).f0) ∧ w'.cell? ⟨(ad.add (i_.toNat * 7)).block, (ad.add (i_.toNat * 7)).off + 1, none⟩ = some (.slice B1e (rd_T56 l6 i_).f1.length d1e) ∧ CSat w' ⟨(ad.add (i_.toNat * 7)).block, (ad.add (i_.toNat * 7)).off + 2, none⟩ [.int .i64 (rd_T56 l6 i_).f2.f0, .int .i64 (rd_T56 l6 i_).f2.f1, .string (rd_T56 l6 i_).f2.f2, .slice B5e (rd_T56 l6 i_).f2.f3.length d5e, .slice B6e (rd_T56 l6 i_).f2.f4.length d6e]) (ds := [24, 26]) #[false, false, false, false, false, false, false, false, false, false, false, false, false, false, false, false, false, false, false, false, false, false, false, false, false, false, false] (by kernel_rfl) rfl rfl ⟨blk_below BK1.out (below_drew1 (Below.refl _ _)), blk_below BK2.out (below_drew1 (Below.refl _ _)), blk_below BK3.out (below_drew1 (Below.refl _ _)), (((below_drew1 (Below.refl _ _))).cell (World.block_lt_of_cell? _ _ HX0.out)).trans HX0.out, (((below_drew1 (Below.refl _ _))).cell (World.block_lt_of_cell? _ _ HX1.out)).trans HX1.out, CSat.below HCS.out (below_drew1 (Below.refl _ _))⟩ (fun hHeld => ?_)
      have n0_ := Aside0.mk (below_drew1 HB.out)
      have n1_ := Aside0.mk (blk_drew BK1.out)
      have n2_ := Aside0.mk (blk_drew BK2.out)
      have n3_ := Aside0.mk (blk_drew BK3.out)
      have n4_ := Aside0.mk (Kd.Fr.below FR4.out (below_drew1 (Below.refl _ _)))
      have n5_ := Aside0.mk (Kd.Fr.below FR5.out (below_drew1 (Below.refl _ _)))
      have n6_ := Aside0.mk (Kd.Fr.below FR7.out (below_drew1 (Below.refl _ _)))
      have n7_ := Aside0.mk (Kd.Fr.below FR8.out (below_drew1 (Below.refl _ _)))
      have n8_ := Aside0.mk (Kd.R_drew RO.out)
      have n9_ := Aside0.mk ((((below_drew1 (Below.refl _ _))).cell (World.block_lt_of_cell? _ _ HX0.out)).trans HX0.out)
      have n10_ := Aside0.mk ((((below_drew1 (Below.refl _ _))).cell (World.block_lt_of_cell? _ _ HX1.out)).trans HX1.out)
      have n11_ := Aside0.mk (CSat.below HCS.out (below_drew1 (Below.refl _ _)))
      clear HB BK1 BK2 BK3 FR4 FR5 FR7 FR8 RO HX0 HX1 HCS
      have HB := n0_
      have BK1 := n1_
      have BK2 := n2_
      have BK3 := n3_
      have FR4 := n4_
      have FR5 := n5_
      have FR7 := n6_
      have FR8 := n7_
      have RO := n8_
      have HX0 := n9_
      have HX1 := n10_
      have HCS := n11_
      clear n0_ n1_ n2_ n3_ n4_ n5_ n6_ n7_ n8_ n9_ n10_ n11_
      generalize wr.drew = wv14_ at HB BK1 BK2 BK3 FR4 FR5 FR7 FR8 RO HX0 HX1 HCS hHeld ⊢
      refine pure_ (i := 0) (N := some 35) (v := ?_) (a' := ?_) #[true, false, false, false, false, false, false, false, false, false, false, false, false, false, false, false, false, false, false, false, false, false, false, false, false, false, false] rfl rfl (by kernel_rfl) (fun _ _ _ h => h) (Or.inl ⟨by rfl, ?_⟩) ?_ ?_
      rotate_left
      · intro w'
        go_simp
        with_reducible rfl
      rotate_left
      · simp only [Act.put, List.setIfInBounds_toArray, List.set_cons_zero, List.set_cons_succ, i64_w, i32_w]
        rfl
      refine pure_ (i := 2) (N := some 37) (v := ?_) (a' := ?_) #[true, false, true, false, false, false, false, false, false, false, false, false, false, false, false, false, false, false, false, false, false, false, false, false, false, false, false] rfl rfl (by kernel_rfl) (fun _ _ _ h => h) (Or.inl ⟨by rfl, ?_⟩) ?_ ?_
      rotate_left
      · intro w'
        go_simp
        with_reducible rfl
      rotate_left
      · simp only [Act.put, List.setIfInBounds_toArray, List.set_cons_zero, List.set_cons_succ, i64_w, i32_w]
        rfl
      refine pure_ (i := 4) (N := some 39) (v := ?_) (a' := ?_) #[true, false, true, false, true, false, false, false, false, false, false, false, false, false, false, false, false, false, false, false, false, false, false, false, false, false, false] rfl rfl (by kernel_rfl) (fun _ _ _ h => h) (Or.inl ⟨by rfl, ?_⟩) ?_ ?_
      rotate_left
      · intro w'
        go_simp
        with_reducible rfl
      rotate_left
      · simp only [Act.put, List.setIfInBounds_toArray, List.set_cons_zero, List.set_cons_succ, i64_w, i32_w]
        rfl
      refine pure_ (i := 8) (N := some 43) (v := ?_) (a' := ?_) #[true, false, true, false, true, false, false, false, true, false, false, false, false, false, false, false, false, false, false, false, false, false, false, false, false, false, false] rfl rfl (by kernel_rfl) (fun _ _ _ h => h) (Or.inl ⟨by rfl, ?_⟩) ?_ ?_
      rotate_left
      · intro w'
        go_simp
        with_reducible rfl
      rotate_left
      · simp only [Act.put, List.setIfInBounds_toArray, List.set_cons_zero, List.set_cons_succ, i64_w, i32_w]
        rfl
      refine pure_ (i := 10) (N := some 45) (v := ?_) (a' := ?_) #[true, false, true, false, true, false, false, false, true, false, true, false, false, false, false, false, false, false, false, false, false, false, false, false, false, false, false] rfl rfl (by kernel_rfl) (fun _ _ _ h => h) (Or.inl ⟨by rfl, ?_⟩) ?_ ?_
      rotate_left
      · intro w'
        go_simp
        with_reducible rfl
      rotate_left
      · simp only [Act.put, List.setIfInBounds_toArray, List.set_cons_zero, List.set_cons_succ, i64_w, i32_w]
        rfl
      refine pure_ (i := 15) (N := some 50) (v := ?_) (a' := ?_) #[true, false, true, false, true, false, false, false, true, false, true, false, false, false, false, true, false, false, false, false, false, false, false, false, false, false, false] rfl rfl (by kernel_rfl) (fun _ _ _ h => h) (Or.inl ⟨by rfl, ?_⟩) ?_ ?_
      rotate_left
      · intro w'
        go_simp
        with_reducible rfl
      rotate_left
      · simp only [Act.put, List.setIfInBounds_toArray, List.set_cons_zero, List.set_cons_succ, i64_w, i32_w]
        rfl
      refine pure_ (i := 17) (N := some 52) (v := ?_) (a' := ?_) #[true, false, true, false, true, false, false, false, true, false, true, false, false, false, false, true, false, true, false, false, false, false, false, false, false, false, false] rfl rfl (by kernel_rfl) (fun _ _ _ h => h) (Or.inl ⟨by rfl, ?_⟩) ?_ ?_
      rotate_left
      · intro w'
        go_simp
        with_reducible rfl
      rotate_left
      · simp only [Act.put, List.setIfInBounds_toArray, List.set_cons_zero, List.set_cons_succ, i64_w, i32_w]
        rfl
      refine take_ (i := 1) (N := some 36) (v := ?_) (a' := ?_) #[true, true, true, false, true, false, false, false, true, false, true, false, false, false, false, true, false, true, false, false, false, false, false, false, false, false, false] rfl rfl (by kernel_rfl) (fun _ _ _ h => h) (Or.inl ⟨by rfl, ?_⟩) hHeld ?_ ?_
      rotate_left
      · rintro w' ⟨s1, s2, s3, x0, x1, x2⟩
        refine Eq.trans (ld_run rfl (by first | rfl | (go_simp; done) | (go_simp; rfl)) Try.underlying26 trivial ((.slice Au_ xs.length cu_)) ((blk_cell s3 6).trans rfl)) ?_
        with_reducible rfl
      rotate_left
      · simp only [Act.put, List.setIfInBounds_toArray, List.set_cons_zero, List.set_cons_succ, i64_w, i32_w]
        rfl
      refine take_ (i := 3) (N := some 38) (v := ?_) (a' := ?_) #[true, true, true, true, true, false, false, false, true, false, true, false, false, false, false, true, false, true, false, false, false, false, false, false, false, false, false] rfl rfl (by kernel_rfl) (fun _ _ _ h => h) (Or.inl ⟨by rfl, ?_⟩) hHeld ?_ ?_
      rotate_left
      · rintro w' ⟨s1, s2, s3, x0, x1, x2⟩
        refine Eq.trans (ld_run rfl (by first | rfl | (go_simp; done) | (go_simp; rfl)) Try.underlying26 trivial (.slice (some ad) l6.length c6) ((blk_cell s1 6).trans rfl)) ?_
        with_reducible rfl
      rotate_left
      · simp only [Act.put, List.setIfInBounds_toArray, List.set_cons_zero, List.set_cons_succ, i64_w, i32_w]
        rfl
      refine take_ (i := 9) (N := some 44) (v := ?_) (a' := ?_) #[true, true, true, true, true, false, false, false, true, true, true, false, false, false, false, true, false, true, false, false, false, false, false, false, false, false, false] rfl rfl (by kernel_rfl) (fun _ _ _ h => h) (Or.inl ⟨by rfl, ?_⟩) hHeld ?_ ?_
      rotate_left
      · rintro w' ⟨s1, s2, s3, x0, x1, x2⟩
        refine Eq.trans (ld_run rfl (by first | rfl | (go_simp; done) | (go_simp; rfl)) Try.underlying26 trivial (.slice (some ad) l6.length c6) ((blk_cell s1 6).trans rfl)) ?_
        with_reducible rfl
      rotate_left
      · simp only [Act.put, List.setIfInBounds_toArray, List.set_cons_zero, List.set_cons_succ, i64_w, i32_w]
        rfl
      refine take_ (i := 16) (N := some 51) (v := ?_) (a' := ?_) #[true, true, true, true, true, false, false, false, true, true, true, false, false, false, false, true, true, true, false, false, false, false, false, false, false, false, false] rfl rfl (by kernel_rfl) (fun _ _ _ h => h) (Or.inl ⟨by rfl, ?_⟩) hHeld ?_ ?_
      rotate_left
      · rintro w' ⟨s1, s2, s3, x0, x1, x2⟩
        refine Eq.trans (ld_run rfl (by first | rfl | (go_simp; done) | (go_simp; rfl)) Try.underlying26 trivial (.slice (some ad) l6.length c6) ((blk_cell s1 6).trans rfl)) ?_
        with_reducible rfl
      rotate_left
      · simp only [Act.put, List.setIfInBounds_toArray, List.set_cons_zero, List.set_cons_succ, i64_w, i32_w]
        rfl
      refine pure_ (i := 5) (N := some 40) (v := ?_) (a' := ?_) #[true, true, true, true, true, true, false, false, true, true, true, false, false, false, false, true, true, true, false, false, false, false, false, false, false, false, false] rfl rfl (by kernel_rfl) (fun _ _ _ h => h) (Or.inl ⟨by rfl, ?_⟩) ?_ ?_
      rotate_left
      · intro w'
        go_simp
        with_reducible rfl
      rotate_left
      · simp only [Act.put, List.setIfInBounds_toArray, List.set_cons_zero, List.set_cons_succ, i64_w, i32_w]
        rfl
      refine pure_ (i := 6) (N := some 41) (v := ?_) (a' := ?_) #[true, true, true, true, true, true, true, false, true, true, true, false, false, false, false, true, true, true, false, false, false, false, false, false, false, false, false] rfl rfl (by kernel_rfl) (fun _ _ _ h => h) (Or.inl ⟨by rfl, ?_⟩) ?_ ?_
      rotate_left
      · intro w'
        go_simp
        with_reducible rfl
      rotate_left
      · simp only [Act.put, List.setIfInBounds_toArray, List.set_cons_zero, List.set_cons_succ, i64_w, i32_w]
        rfl
      refine pure_ (i := 11) (N := some 46) (v := ?_) (a' := ?_) #[true, true, true, true, true, true, true, false, true, true, true, true, false, false, false, true, true, true, false, false, false, false, false, false, false, false, false] rfl rfl (by kernel_rfl) (fun _ _ _ h => h) (Or.inl ⟨by rfl, ?_⟩) ?_ ?_
      rotate_left
      · intro w'
        go_simp
        with_reducible rfl
      rotate_left
      · simp only [Act.put, List.setIfInBounds_toArray, List.set_cons_zero, List.set_cons_succ, i64_w, i32_w]
        rfl
      refine pure_ (i := 12) (N := some 47) (v := ?_) (a' := ?_) #[true, true, true, true, true, true, true, false, true, true, true, true, true, false, false, true, true, true, false, false, false, false, false, false, false, false, false] rfl rfl (by kernel_rfl) (fun _ _ _ h => h) (Or.inl ⟨by rfl, ?_⟩) ?_ ?_
      rotate_left
      · intro w'
        go_simp
        with_reducible rfl
      rotate_left
      · simp only [Act.put, List.setIfInBounds_toArray, List.set_cons_zero, List.set_cons_succ, i64_w, i32_w]
        rfl
      refine pure_ (i := 18) (N := some 53) (v := ?_) (a' := ?_) #[true, true, true, true, true, true, true, false, true, true, true, true, true, false, false, true, true, true, true, false, false, false, false, false, false, false, false] rfl rfl (by kernel_rfl) (fun _ _ _ h => h) (Or.inl ⟨by rfl, ?_⟩) ?_ ?_
      rotate_left
      · intro w'
        go_simp
        with_reducible rfl
      rotate_left
      · simp only [Act.put, List.setIfInBounds_toArray, List.set_cons_zero, List.set_cons_succ, i64_w, i32_w]
        rfl
      refine pure_ (i := 19) (N := some 54) (v := ?_) (a' := ?_) #[true, true, true, true, true, true, true, false, true, true, true, true, true, false, false, true, true, true, true, true, false, false, false, false, false, false, false] rfl rfl (by kernel_rfl) (fun _ _ _ h => h) (Or.inl ⟨by rfl, ?_⟩) ?_ ?_
      rotate_left
      · intro w'
        go_simp
        with_reducible rfl
      rotate_left
      · simp only [Act.put, List.setIfInBounds_toArray, List.set_cons_zero, List.set_cons_succ, i64_w, i32_w]
        rfl
      refine take_ (i := 7) (N := some 42) (v := ?_) (a' := ?_) #[true, true, true, true, true, true, true, true, true, true, true, true, true, false, false, true, true, true, true, true, false, false, false, false, false, false, false] rfl rfl (by kernel_rfl) (fun _ _ _ h => h) (Or.inl ⟨by rfl, ?_⟩) hHeld ?_ ?_
      rotate_left
      · rintro w' ⟨s1, s2, s3, x0, x1, x2⟩
        refine Eq.trans (ld_run rfl (by first | rfl | (go_simp; done) | (go_simp; rfl)) Try.underlying9 trivial (.string (rd_T56 l6 i_).f0) x0) ?_
        with_reducible rfl
      rotate_left
      · simp only [Act.put, List.setIfInBounds_toArray, List.set_cons_zero, List.set_cons_succ, i64_w, i32_w]
        rfl
      refine take_ (i := 13) (N := some 48) (v := ?_) (a' := ?_) #[true, true, true, true, true, true, true, true, true, true, true, true, true, true, false, true, true, true, true, true, false, false, false, false, false, false, false] rfl rfl (by kernel_rfl) (fun _ _ _ h => h) (Or.inl ⟨by rfl, ?_⟩) hHeld ?_ ?_
      rotate_left
      · rintro w' ⟨s1, s2, s3, x0, x1, x2⟩
        refine Eq.trans (ld_run rfl (by first | rfl | (go_simp; done) | (go_simp; rfl)) Try.underlying25 trivial (.slice B1e (rd_T56 l6 i_).f1.length d1e) x1) ?_
        with_reducible rfl
      rotate_left
      · simp only [Act.put, List.setIfInBounds_toArray, List.set_cons_zero, List.set_cons_succ, i64_w, i32_w]
        rfl
      refine take_ (i := 20) (N := some 55) (v := ?_) (a' := ?_) #[true, true, true, true, true, true, true, true, true, true, true, true, true, true, false, true, true, true, true, true, true, false, false, false, false, false, false] rfl rfl (by kernel_rfl) (fun _ _ _ h => h) (Or.inl ⟨by rfl, ?_⟩) hHeld ?_ ?_
      rotate_left
      · rintro w' ⟨s1, s2, s3, x0, x1, x2⟩
        refine Eq.trans (lds_run rfl (by first | rfl | (go_simp; done) | (go_simp; rfl)) Try.underlying54 ⟨_, rfl⟩ [.int .i64 (rd_T56 l6 i_).f2.f0, .int .i64 (rd_T56 l6 i_).f2.f1, .string (rd_T56 l6 i_).f2.f2, .slice B5e (rd_T56 l6 i_).f2.f3.length d5e, .slice B6e (rd_T56 l6 i_).f2.f4.length d6e] size54 x2) ?_
        with_reducible rfl
      rotate_left
      · simp only [Act.put, List.setIfInBounds_toArray, List.set_cons_zero, List.set_cons_succ, i64_w, i32_w]
        rfl
      have HLT := Aside0.mk (Kd.R_lt RO.out)
      obtain ⟨bs_, hbs_⟩ : ∃ n, n = wv14_.heap.size := ⟨_, rfl⟩
      have HBS := Aside0.mk hbs_
      clear hbs_
      have HG3 := Aside0.mk (show g3 < bs_ by rw [HBS.out]; exact blk_lt BK3.out)
      refine one_ (i := 14) (N := some 49) #[true, true, true, true, true, true, true, true, true, true, true, true, true, true, true, true, true, true, true, true, true, false, false, false, false, false, false] rfl rfl (by kernel_rfl) (by decide) (fun K hK => ?_)
      refine goes_ Try.func19 (by kernel_rfl) rfl #[.slice B1e (rd_T56 l6 i_).f1.length d1e] (by rfl) rfl rfl (by (try simp only [List.map_toArray, List.map_cons, List.map_nil]); first | done | rfl) ?_
      with_reducible refine (names.calls B1e d1e (rd_T56 l6 i_).f1 _ (Kd.C_below HE1.out HB.out) HE1c.out (HS.out _ HM.out).1).mono ?_
      rintro e wv15_ ⟨u1, rfl, hF1, hb⟩
      obtain ⟨D1, e1, rfl, _, _, _⟩ := Kd.sB_read (Kd.Fr.K hF1)
      rw [← HBS.out] at hF1
      have HBS2 := Aside0.mk (show bs_ ≤ _ from (by rw [HBS.out]; exact hb.size))
      refine ⟨_, rfl, ?_⟩
      have n0_ := Aside0.mk (below_step HB.out hb)
      have n1_ := Aside0.mk (blk_below BK1.out hb)
      have n2_ := Aside0.mk (blk_below BK2.out hb)
      have n3_ := Aside0.mk (blk_below BK3.out hb)
      have n4_ := Aside0.mk (Kd.Fr.below FR4.out hb)
      have n5_ := Aside0.mk (Kd.Fr.below FR5.out hb)
      have n6_ := Aside0.mk (Kd.Fr.below FR7.out hb)
      have n7_ := Aside0.mk (Kd.Fr.below FR8.out hb)
      have n8_ := Aside0.mk (Kd.R_below RO.out hb)
      have n9_ := Aside0.mk (((hb).cell (World.block_lt_of_cell? _ _ HX0.out)).trans HX0.out)
      have n10_ := Aside0.mk (((hb).cell (World.block_lt_of_cell? _ _ HX1.out)).trans HX1.out)
      have n11_ := Aside0.mk (CSat.below HCS.out hb)
      have n12_ := Aside0.mk (hF1)
      clear HB BK1 BK2 BK3 FR4 FR5 FR7 FR8 RO HX0 HX1 HCS
      have HB := n0_
      have BK1 := n1_
      have BK2 := n2_
      have BK3 := n3_
      have FR4 := n4_
      have FR5 := n5_
      have FR7 := n6_
      have FR8 := n7_
      have RO := n8_
      have HX0 := n9_
      have HX1 := n10_
      have HCS := n11_
      have HF1 := n12_
      clear n0_ n1_ n2_ n3_ n4_ n5_ n6_ n7_ n8_ n9_ n10_ n11_ n12_
      clear hb hF1
      refine hK.out _ _ ⟨BK1.out, BK2.out, BK3.out, HX0.out, HX1.out, HCS.out⟩ (fun hHeld => ?_)
      clear hK K
      refine norm_ (a' := ?_) ?_ ?_
      rotate_left
      · show Act.put _ (some 49) _ = _
        simp only [Act.put, List.setIfInBounds_toArray, List.set_cons_zero, List.set_cons_succ, i64_w, i32_w]
        rfl
      refine one_ (i := 21) (N := some 56) #[true, true, true, true, true, true, true, true, true, true, true, true, true, true, true, true, true, true, true, true, true, true, false, false, false, false, false] rfl rfl (by kernel_rfl) (by decide) (fun K hK => ?_)
      refine goes_ Try.func21 (by kernel_rfl) rfl #[.agg #[.int .i64 (rd_T56 l6 i_).f2.f0, .int .i64 (rd_T56 l6 i_).f2.f1, .string (rd_T56 l6 i_).f2.f2, .slice B5e (rd_T56 l6 i_).f2.f3.length d5e, .slice B6e (rd_T56 l6 i_).f2.f4.length d6e]] (by rfl) rfl rfl (by (try simp only [List.map_toArray, List.map_cons, List.map_nil]); first | done | rfl) ?_
      with_reducible refine (expr.calls _ _ _ (rd_T56 l6 i_).f2.f3 (rd_T56 l6 i_).f2.f4 (HS.out _ HM.out).2.1 B5e d5e B6e d6e _ (Kd.C_below HE5.out HB.out) HE5c.out (HS.out _ HM.out).2.2 (Kd.C_below HE6.out HB.out) HE6c.out).mono ?_
      rintro e wv16_ ⟨u3, u4, rfl, hF3, hF4, hb⟩
      obtain ⟨D3, e3, rfl, _, _, _⟩ := Kd.sB_read (Kd.Fr.K hF3)
      obtain ⟨D4, e4_, rfl, _, _, _⟩ := Kd.sB_read (Kd.Fr.K hF4)
      have HF3 := Aside0.mk (Kd.Fr.lower hF3 HBS2.out)
      have HF4 := Aside0.mk (Kd.Fr.lower hF4 HBS2.out)
      have ASZ := Aside0.mk (Nat.le_trans (Nat.succ_le_of_lt HG3.out) (Nat.le_trans HBS2.out hb.size))
      refine ⟨_, rfl, ?_⟩
      have n0_ := Aside0.mk (below_step HB.out hb)
      have n1_ := Aside0.mk (blk_below BK1.out hb)
      have n2_ := Aside0.mk (blk_below BK2.out hb)
      have n3_ := Aside0.mk (blk_below BK3.out hb)
      have n4_ := Aside0.mk (Kd.Fr.below FR4.out hb)
      have n5_ := Aside0.mk (Kd.Fr.below FR5.out hb)
      have n6_ := Aside0.mk (Kd.Fr.below FR7.out hb)
      have n7_ := Aside0.mk (Kd.Fr.below FR8.out hb)
      have n8_ := Aside0.mk (Kd.Fr.below HF1.out hb)
      have n9_ := Aside0.mk (Kd.R_below RO.out hb)
      have n10_ := Aside0.mk (((hb).cell (World.block_lt_of_cell? _ _ HX0.out)).trans HX0.out)
      have n11_ := Aside0.mk (((hb).cell (World.block_lt_of_cell? _ _ HX1.out)).trans HX1.out)
      have n12_ := Aside0.mk (CSat.below HCS.out hb)
      clear HB BK1 BK2 BK3 FR4 FR5 FR7 FR8 HF1 RO HX0 HX1 HCS
      have HB := n0_
      have BK1 := n1_
      have BK2 := n2_
      have BK3 := n3_
      have FR4 := n4_
      have FR5 := n5_
      have FR7 := n6_
      have FR8 := n7_
      have HF1 := n8_
      have RO := n9_
      have HX0 := n10_
      have HX1 := n11_
      have HCS := n12_
      clear n0_ n1_ n2_ n3_ n4_ n5_ n6_ n7_ n8_ n9_ n10_ n11_ n12_
      clear hb hF3 hF4
      refine hK.out _ _ ⟨BK1.out, BK2.out, BK3.out, HX0.out, HX1.out, HCS.out⟩ (fun hHeld => ?_)
      clear hK K
      refine norm_ (a' := ?_) ?_ ?_
      rotate_left
      · show Act.put _ (some 56) _ = _
        simp only [Act.put, List.setIfInBounds_toArray, List.set_cons_zero, List.set_cons_succ, i64_w, i32_w]
        rfl
      refine pure_ (i := 22) (N := some 57) (v := ?_) (a' := ?_) #[true, true, true, true, true, true, true, true, true, true, true, true, true, true, true, true, true, true, true, true, true, true, true, false, false, false, false] rfl rfl (by kernel_rfl) (fun _ _ _ h => h) (Or.inl ⟨by rfl, ?_⟩) ?_ ?_
      rotate_left
      · intro w'
        go_simp
        with_reducible rfl
      rotate_left
      · simp only [Act.put, List.setIfInBounds_toArray, List.set_cons_zero, List.set_cons_succ, i64_w, i32_w]
        rfl
      refine one_ (i := 23) (N := some 58) #[true, true, true, true, true, true, true, true, true, true, true, true, true, true, true, true, true, true, true, true, true, true, true, true, false, false, false] rfl rfl (by kernel_rfl) (by decide) (fun K hK => ?_)
      refine value_ (w1 := ?_) (v := ?_) (by rfl) rfl ?_ ?_
      rotate_left 2
      · go_simp
        constructor
        · rfl
        · rfl
      refine hK.out _ _ ⟨blk_below BK1.out (below_alloc (Below.refl _ _) _), blk_below BK2.out (below_alloc (Below.refl _ _) _), blk_below BK3.out (below_alloc (Below.refl _ _) _), (((below_alloc (Below.refl _ _) _)).cell (World.block_lt_of_cell? _ _ HX0.out)).trans HX0.out, (((below_alloc (Below.refl _ _) _)).cell (World.block_lt_of_cell? _ _ HX1.out)).trans HX1.out, CSat.below HCS.out (below_alloc (Below.refl _ _) _)⟩ (fun hHeld => ?_)
      clear hK K
      refine norm_ (a' := ?_) ?_ ?_
      rotate_left
      · show Act.put _ (some 58) _ = _
        simp only [Act.put, List.setIfInBounds_toArray, List.set_cons_zero, List.set_cons_succ, i64_w, i32_w]
        rfl
      refine last_ (i := 24) (N := some 59) #[true, true, true, true, true, true, true, true, true, true, true, true, true, true, true, true, true, true, true, true, true, true, true, true, true, false, false] rfl rfl (by kernel_rfl) (by decide) (fun K hK => ?_)
      have HRB := Aside0.mk (Kd.R_base RO.out)
      have HRT := Aside0.mk (Kd.R_typed RO.out)
      refine Kd.R_append_step k56B (g3 + 1) (by rfl) (.tmp 36) (.tmp 58) 26 56 (.agg #[.string ⟨#[]⟩, .slice none 0 0, .int .i64 0, .int .i64 0, .string ⟨#[]⟩, .slice none 0 0, .slice none 0 0]) 120 rfl Try.underlying26 info56 rfl (by decide) (by decide) (.slice Au_ xs.length cu_) xs (rd_T56 l6 i_) [.string (rd_T56 l6 i_).f0, .slice D1 (rd_T56 l6 i_).f1.length e1, .int .i64 (rd_T56 l6 i_).f2.f0, .int .i64 (rd_T56 l6 i_).f2.f1, .string (rd_T56 l6 i_).f2.f2, .slice D3 (rd_T56 l6 i_).f2.f3.length e3, .slice D4 (rd_T56 l6 i_).f2.f4.length e4_] (fun k => g3 + 1 ≤ k) (fun k => bs_ ≤ k) rfl (by first | rfl | (go_simp; done) | (go_simp; rfl)) ?aP (fun k hk => ⟨Nat.le_trans HG3.out hk, fun he => by have := HLT.out k he.symm; rw [← HBS.out] at this; omega⟩) ?aF ?aO (Below.refl _ _) ?aS ?aL ?_
      (case aP => exact k56B_mkM _ _ _ (rd_T56 l6 i_) (Kd.M_lower _ HG3.out HF1.out) (k54B_mkM _ _ _ (rd_T56 l6 i_).f2 (Kd.M_lower _ HG3.out HF3.out) (Kd.M_lower _ HG3.out HF4.out)))
      (case aF => exact (fun k hk => Nat.le_trans ASZ.out hk))
      (case aO => exact (by (with_reducible repeat (first | apply Kd.R_alloc | apply Kd.R_drewN | apply Kd.R_drew)); exact RO.out))
      (case aS => exact ASZ.out)
      (case aL => have := HXL.out; have := HL6.out; have := HQ.out; omega)
      intro v9_ wv17_ ho hb hg hat
      obtain ⟨A9_, c9_, rfl⟩ := Kd.R_slice ho
      have n0_ := Aside0.mk (below_weaken HB.out (by have := ORD.out; omega) hb)
      have n1_ := Aside0.mk (blk_grown BK1.out hg (fun he => by have := HRB.out _ he.symm; have := ORD.out; omega))
      have n2_ := Aside0.mk (blk_grown BK2.out hg (fun he => by have := HRB.out _ he.symm; have := ORD.out; omega))
      have n3_ := Aside0.mk (blk_grown BK3.out hg (fun he => by have := HRB.out _ he.symm; have := ORD.out; omega))
      have n4_ := Aside0.mk (Kd.Fr.typed FR4.out hg HRT.out (by decide))
      have n5_ := Aside0.mk (Kd.Fr.typed FR5.out hg HRT.out (by decide))
      have n6_ := Aside0.mk (Kd.Fr.typed FR7.out hg HRT.out (by decide))
      have n7_ := Aside0.mk (Kd.Fr.typed FR8.out hg HRT.out (by decide))
      have n8_ := Aside0.mk (Kd.Fr.typed HF1.out hg HRT.out (by decide))
      have n9_ := Aside0.mk (ho)
      clear HB BK1 BK2 BK3 FR4 FR5 FR7 FR8 HF1 RO
      have HB := n0_
      have BK1 := n1_
      have BK2 := n2_
      have BK3 := n3_
      have FR4 := n4_
      have FR5 := n5_
      have FR7 := n6_
      have FR8 := n7_
      have HF1 := n8_
      have RO := n9_
      clear n0_ n1_ n2_ n3_ n4_ n5_ n6_ n7_ n8_ n9_
      clear ho hb hg hat HRB HRT
      refine hK.out _ _ ?_
      clear hK K
      refine norm_ (a' := ?_) ?_ ?_
      rotate_left
      · show Act.put _ (some 59) _ = _
        simp only [Act.put, List.setIfInBounds_toArray, List.set_cons_zero, List.set_cons_succ, i64_w, i32_w]
        rfl
      refine pure_ (i := 25) (N := some 60) (v := ?_) (a' := ?_) #[true, true, true, true, true, true, true, true, true, true, true, true, true, true, true, true, true, true, true, true, true, true, true, true, true, true, false] rfl rfl (by kernel_rfl) (fun _ _ _ h => h) (Or.inl ⟨by rfl, ?_⟩) ?_ ?_
      rotate_left
      · intro w'
        go_simp
        with_reducible rfl
      rotate_left
      · simp only [Act.put, List.setIfInBounds_toArray, List.set_cons_zero, List.set_cons_succ, i64_w, i32_w]
        rfl
      refine last_ (i := 26) (N := none) #[true, true, true, true, true, true, true, true, true, true, true, true, true, true, true, true, true, true, true, true, true, true, true, true, true, true, true] rfl rfl (by kernel_rfl) (by decide) (fun K hK => ?_)
      refine st_step (by rfl) rfl rfl (g := g3) (j := 6) (by first | rfl | (go_simp; done) | (go_simp; rfl)) (u := (.slice A9_ (xs ++ [(rd_T56 l6 i_)]).length c9_)) (by first | rfl | (go_simp; done) | (go_simp; rfl)) BK3.out 1 size26 rfl (by simp) (by intro x hx; simp [Value.cells] at hx; rcases hx with rfl <;> rfl) #[.string d0, .int .i64 d1, .int .i64 d2, .int .i64 d3, .slice B4 l4.length e4, .slice B5 l5.length e5, (.slice A9_ (xs ++ [(rd_T56 l6 i_)]).length c9_), .int .i64 a0, .string a1, .string a2, .string a3, .int .i64 a4, .int .i64 a5, .int .i64 a6, .int .i64 a7, .int .i64 a8, .int .i64 a9, .int .i64 a10, .int .i64 a11, .int .i64 a12, .int .i64 a13, .int .i64 a14, .int .i64 a15, .int .i64 a16, .int .i64 a17, .int .i64 a18, .int .i64 a19, .int .i64 a20, .slice B7 l7.length e7, .slice B8 l8.length e8] rfl ?_
      intro wv18_ hbk ho
      have n0_ := Aside0.mk (Other.below ho HB.out (by have := ORD.out; omega))
      have n1_ := Aside0.mk (Other.blk ho BK1.out (by have := ORD.out; omega))
      have n2_ := Aside0.mk (Other.blk ho BK2.out (by have := ORD.out; omega))
      have n3_ := Aside0.mk (hbk)
      have n4_ := Aside0.mk (Kd.Fr.other FR4.out ho (by have := ORD.out; omega))
      have n5_ := Aside0.mk (Kd.Fr.other FR5.out ho (by have := ORD.out; omega))
      have n6_ := Aside0.mk (Kd.Fr.other FR7.out ho (by have := ORD.out; omega))
      have n7_ := Aside0.mk (Kd.Fr.other FR8.out ho (by have := ORD.out; omega))
      have n8_ := Aside0.mk (Kd.R_step RO.out (fun k hk_ _ => ho.block k (by have := ORD.out; omega)))
      clear HB BK1 BK2 BK3 FR4 FR5 FR7 FR8 RO
      have HB := n0_
      have BK1 := n1_
      have BK2 := n2_
      have BK3 := n3_
      have FR4 := n4_
      have FR5 := n5_
      have FR7 := n6_
      have FR8 := n7_
      have RO := n8_
      clear n0_ n1_ n2_ n3_ n4_ n5_ n6_ n7_ n8_
      clear hbk ho
      refine hK.out _ _ ?_
      clear hK K
      refine norm_ (a' := ?_) ?_ ?_
      rotate_left
      · show Act.put _ (none) _ = _
        simp only [Act.put, List.setIfInBounds_toArray, List.set_cons_zero, List.set_cons_succ, i64_w, i32_w]
        rfl
      refine done_ (by kernel_rfl) ?_
      go_wp2
      go_roundg (gk - 1)
      case measure => have := HQ.out; have := HC_.out; omega
      case rel => exact ⟨i_ + 1, xs ++ [(rd_T56 l6 i_)], _, _, by rw [show wrap64 (i_ + 1) = i_ + 1 from by have := HQ.out; have := HC_.out; unfold wrap64; omega], ⟨by have := HQ.out; have := HC_.out; omega⟩, ⟨by rw [HX.out]; exact HTN.out⟩, RO, FR4, FR5, FR7, FR8, BK1, BK2, BK3, HB⟩
    · have cb : decide (i_ < (l6.length : Int)) = false := decide_eq_false c_
      have hxe : xs = l6 := by rw [HX.out, List.take_of_length_le (by have := HQ.out; omega)]
      clear HX c_
      subst hxe
      have HRB := Aside0.mk (Kd.R_base RO.out)
      have HRT := Aside0.mk (Kd.R_typed RO.out)
      go_upto_region 13 with (first | ((with_reducible refine gate_dst (N := 30) rfl ?_); (try (refine gate_guard (by rfl) ?_; dsimp only)); refine ld_event rfl rfl (by first | rfl | (go_simp; done) | (go_simp; rfl)) Try.underlying26 trivial (.slice (some ad) xs.length c6) ((blk_cell BK1.out 6).trans rfl) ?_) | ((with_reducible refine gate_dst (N := 62) rfl ?_); (try (refine gate_guard (by rfl) ?_; dsimp only)); refine ld_event rfl rfl (by first | rfl | (go_simp; done) | (go_simp; rfl)) Try.underlying26 trivial ((.slice Au_ xs.length cu_)) ((blk_cell BK3.out 6).trans rfl) ?_) | ((with_reducible refine gate_builtin (b := .append) (xs := #[.tmp 62, .tmp 64]) rfl ?_); at_builtin; refine Kd.R_append k56B (g3 + 1) rfl (.tmp 62) (.tmp 64) 26 56 (.agg #[.string ⟨#[]⟩, .slice none 0 0, .int .i64 0, .int .i64 0, .string ⟨#[]⟩, .slice none 0 0, .slice none 0 0]) 120 rfl Try.underlying26 info56 rfl (by decide) (by decide) (.slice Au_ xs.length cu_) xs b56 [.string ⟨#[98, 101, 104, 105, 110, 100]⟩, .slice none 0 0, .int .i64 0, .int .i64 0, .string ⟨#[]⟩, .slice none 0 0, .slice none 0 0] (fun k => g3 + 1 ≤ k) (fun _ => False) rfl (by first | rfl | (go_simp; done) | (go_simp; rfl)) ?aP (fun _ hk => hk.elim) ?aF ?aO (Below.refl _ _) ?aS ?aL ?_; (case aP => exact k56B_mkM _ _ _ b56 (.inl ⟨rfl, rfl⟩) (k54B_mkM _ _ _ z54 (.inl ⟨rfl, rfl⟩) (.inl ⟨rfl, rfl⟩))); (case aF => exact (fun k hk => Nat.le_trans (blk_lt BK3.out) hk)); (case aO => exact (by (with_reducible repeat (first | apply Kd.R_alloc | apply Kd.R_drewN | apply Kd.R_drew)); exact RO.out)); (case aS => exact (blk_lt BK3.out)); (case aL => have := HXL.out; have := HL6.out; have := HQ.out; omega); intro v9_ wv14_ ho hb hg hat; obtain ⟨A9_, c9_, rfl⟩ := Kd.R_slice ho; have n0_ := Aside0.mk (below_weaken HB.out (by have := ORD.out; omega) hb); have n1_ := Aside0.mk (blk_grown BK1.out hg (fun he => by have := HRB.out _ he.symm; have := ORD.out; omega)); have n2_ := Aside0.mk (blk_grown BK2.out hg (fun he => by have := HRB.out _ he.symm; have := ORD.out; omega)); have n3_ := Aside0.mk (blk_grown BK3.out hg (fun he => by have := HRB.out _ he.symm; have := ORD.out; omega)); have n4_ := Aside0.mk (Kd.Fr.typed FR4.out hg HRT.out (by decide)); have n5_ := Aside0.mk (Kd.Fr.typed FR5.out hg HRT.out (by decide)); have n6_ := Aside0.mk (Kd.Fr.typed FR7.out hg HRT.out (by decide)); have n7_ := Aside0.mk (Kd.Fr.typed FR8.out hg HRT.out (by decide)); have n8_ := Aside0.mk (ho); clear HB BK1 BK2 BK3 FR4 FR5 FR7 FR8 RO; have HB := n0_; have BK1 := n1_; have BK2 := n2_; have BK3 := n3_; have FR4 := n4_; have FR5 := n5_; have FR7 := n6_; have FR8 := n7_; have RO := n8_; clear n0_ n1_ n2_ n3_ n4_ n5_ n6_ n7_ n8_; clear ho hb hg hat) | ((with_reducible refine gate_store (t := 26) (p := 66) rfl ?_); refine st_event rfl rfl rfl (g := g3) (j := 6) (by first | rfl | (go_simp; done) | (go_simp; rfl)) (u := (.slice A9_ (xs ++ [b56]).length c9_)) (by first | rfl | (go_simp; done) | (go_simp; rfl)) BK3.out 1 size26 rfl (by simp) (by intro x hx; simp [Value.cells] at hx; rcases hx with rfl <;> rfl) #[.string d0, .int .i64 d1, .int .i64 d2, .int .i64 d3, .slice B4 l4.length e4, .slice B5 l5.length e5, (.slice A9_ (xs ++ [b56]).length c9_), .int .i64 a0, .string a1, .string a2, .string a3, .int .i64 a4, .int .i64 a5, .int .i64 a6, .int .i64 a7, .int .i64 a8, .int .i64 a9, .int .i64 a10, .int .i64 a11, .int .i64 a12, .int .i64 a13, .int .i64 a14, .int .i64 a15, .int .i64 a16, .int .i64 a17, .int .i64 a18, .int .i64 a19, .int .i64 a20, .slice B7 l7.length e7, .slice B8 l8.length e8] rfl ?_; intro wv15_ hbk ho; have n0_ := Aside0.mk (Other.below ho HB.out (by have := ORD.out; omega)); have n1_ := Aside0.mk (Other.blk ho BK1.out (by have := ORD.out; omega)); have n2_ := Aside0.mk (Other.blk ho BK2.out (by have := ORD.out; omega)); have n3_ := Aside0.mk (hbk); have n4_ := Aside0.mk (Kd.Fr.other FR4.out ho (by have := ORD.out; omega)); have n5_ := Aside0.mk (Kd.Fr.other FR5.out ho (by have := ORD.out; omega)); have n6_ := Aside0.mk (Kd.Fr.other FR7.out ho (by have := ORD.out; omega)); have n7_ := Aside0.mk (Kd.Fr.other FR8.out ho (by have := ORD.out; omega)); have n8_ := Aside0.mk (Kd.R_step RO.out (fun k hk_ _ => ho.block k (by have := ORD.out; omega))); clear HB BK1 BK2 BK3 FR4 FR5 FR7 FR8 RO; have HB := n0_; have BK1 := n1_; have BK2 := n2_; have BK3 := n3_; have FR4 := n4_; have FR5 := n5_; have FR7 := n6_; have FR8 := n7_; have RO := n8_; clear n0_ n1_ n2_ n3_ n4_ n5_ n6_ n7_ n8_; clear hbk ho))
      clear HRB HRT
      obtain ⟨_, _, rfl', hlc, _⟩ := Kd.R_reads RO.out
      injection rfl' with e1_ e2_ e3_
      subst e1_ e3_
      clear e2_
      have RO1 := RO.out
      clear RO
      simp only [List.length_append, List.length_singleton] at RO1 hlc BK3
      have HLC := Aside0.mk hlc
      have RO := Aside0.mk RO1
      clear hlc RO1
      go_upto_region 14 with (first | ((with_reducible refine gate_dst (N := 68) rfl ?_); (try (refine gate_guard (by rfl) ?_; dsimp only)); refine ld_event rfl rfl (by first | rfl | (go_simp; done) | (go_simp; rfl)) Try.underlying26 trivial ((.slice A9_ (xs.length + 1) c9_)) ((blk_cell BK3.out 6).trans rfl) ?_) | ((with_reducible refine gate_dst (N := 70) rfl ?_); (try (refine gate_guard (by rfl) ?_; dsimp only)); refine ld_event rfl rfl (by first | rfl | (go_simp; done) | (go_simp; rfl)) Try.underlying26 trivial (.slice (some ad) xs.length c6) ((blk_cell BK1.out 6).trans rfl) ?_) | ((with_reducible refine gate_dst (N := 72) rfl ?_); refine Kd.cut_event rfl 26 56 (.tmp 68) (.tmp 71) rfl Try.underlying26 (by kernel_rfl) (A9_) (_) (c9_) (xs.length) rfl (by first | rfl | (go_simp; done) | (go_simp; rfl)) (by have := HLC.out; omega) ?_) | ((with_reducible refine gate_store (t := 26) (p := 73) rfl ?_); refine st_event rfl rfl rfl (g := g3) (j := 6) (by first | rfl | (go_simp; done) | (go_simp; rfl)) (u := .slice A9_ xs.length c9_) (by first | rfl | (go_simp; done) | (go_simp; rfl)) BK3.out 1 size26 rfl (by simp) (by intro x hx; simp [Value.cells] at hx; rcases hx with rfl <;> rfl) #[.string d0, .int .i64 d1, .int .i64 d2, .int .i64 d3, .slice B4 l4.length e4, .slice B5 l5.length e5, .slice A9_ xs.length c9_, .int .i64 a0, .string a1, .string a2, .string a3, .int .i64 a4, .int .i64 a5, .int .i64 a6, .int .i64 a7, .int .i64 a8, .int .i64 a9, .int .i64 a10, .int .i64 a11, .int .i64 a12, .int .i64 a13, .int .i64 a14, .int .i64 a15, .int .i64 a16, .int .i64 a17, .int .i64 a18, .int .i64 a19, .int .i64 a20, .slice B7 l7.length e7, .slice B8 l8.length e8] rfl ?_; intro wv16_ hbk ho; have n0_ := Aside0.mk (Other.below ho HB.out (by have := ORD.out; omega)); have n1_ := Aside0.mk (Other.blk ho BK1.out (by have := ORD.out; omega)); have n2_ := Aside0.mk (Other.blk ho BK2.out (by have := ORD.out; omega)); have n3_ := Aside0.mk (hbk); have n4_ := Aside0.mk (Kd.Fr.other FR4.out ho (by have := ORD.out; omega)); have n5_ := Aside0.mk (Kd.Fr.other FR5.out ho (by have := ORD.out; omega)); have n6_ := Aside0.mk (Kd.Fr.other FR7.out ho (by have := ORD.out; omega)); have n7_ := Aside0.mk (Kd.Fr.other FR8.out ho (by have := ORD.out; omega)); have n8_ := Aside0.mk (Kd.R_step RO.out (fun k hk_ _ => ho.block k (by have := ORD.out; omega))); clear HB BK1 BK2 BK3 FR4 FR5 FR7 FR8 RO; have HB := n0_; have BK1 := n1_; have BK2 := n2_; have BK3 := n3_; have FR4 := n4_; have FR5 := n5_; have FR7 := n6_; have FR8 := n7_; have RO := n8_; clear n0_ n1_ n2_ n3_ n4_ n5_ n6_ n7_ n8_; clear hbk ho))
      go_wp2_with (first | ((with_reducible refine gate_dst (N := 74) rfl ?_); (try (refine gate_guard (by rfl) ?_; dsimp only)); refine ldb_event rfl rfl (by first | rfl | (go_simp; done) | (go_simp; rfl)) Try.underlying36 ⟨_, rfl⟩ BK3.out 30 size36 [.string d0, .int .i64 d1, .int .i64 d2, .int .i64 d3, .slice B4 l4.length e4, .slice B5 l5.length e5, .slice A9_ xs.length c9_, .int .i64 a0, .string a1, .string a2, .string a3, .int .i64 a4, .int .i64 a5, .int .i64 a6, .int .i64 a7, .int .i64 a8, .int .i64 a9, .int .i64 a10, .int .i64 a11, .int .i64 a12, .int .i64 a13, .int .i64 a14, .int .i64 a15, .int .i64 a16, .int .i64 a17, .int .i64 a18, .int .i64 a19, .int .i64 a20, .slice B7 l7.length e7, .slice B8 l8.length e8] rfl rfl ?_) | ((with_reducible refine gate_store (t := 36) (p := 2) rfl ?_); refine st_event rfl rfl rfl (g := g2) (j := 0) (by first | rfl | (go_simp; done) | (go_simp; rfl)) (u := .agg #[.string d0, .int .i64 d1, .int .i64 d2, .int .i64 d3, .slice B4 l4.length e4, .slice B5 l5.length e5, .slice A9_ xs.length c9_, .int .i64 a0, .string a1, .string a2, .string a3, .int .i64 a4, .int .i64 a5, .int .i64 a6, .int .i64 a7, .int .i64 a8, .int .i64 a9, .int .i64 a10, .int .i64 a11, .int .i64 a12, .int .i64 a13, .int .i64 a14, .int .i64 a15, .int .i64 a16, .int .i64 a17, .int .i64 a18, .int .i64 a19, .int .i64 a20, .slice B7 l7.length e7, .slice B8 l8.length e8]) (by first | rfl | (go_simp; done) | (go_simp; rfl)) BK2.out 30 size36 rfl (by simp) (by intro x hx; simp [Value.cells] at hx; rcases hx with rfl | rfl | rfl | rfl | rfl | rfl | rfl | rfl | rfl | rfl | rfl | rfl | rfl | rfl | rfl | rfl | rfl | rfl | rfl | rfl | rfl | rfl | rfl | rfl | rfl | rfl | rfl | rfl | rfl | rfl <;> rfl) #[.string d0, .int .i64 d1, .int .i64 d2, .int .i64 d3, .slice B4 l4.length e4, .slice B5 l5.length e5, .slice A9_ xs.length c9_, .int .i64 a0, .string a1, .string a2, .string a3, .int .i64 a4, .int .i64 a5, .int .i64 a6, .int .i64 a7, .int .i64 a8, .int .i64 a9, .int .i64 a10, .int .i64 a11, .int .i64 a12, .int .i64 a13, .int .i64 a14, .int .i64 a15, .int .i64 a16, .int .i64 a17, .int .i64 a18, .int .i64 a19, .int .i64 a20, .slice B7 l7.length e7, .slice B8 l8.length e8] rfl ?_; intro wv17_ hbk ho; have n0_ := Aside0.mk (Other.below ho HB.out (by have := ORD.out; omega)); have n1_ := Aside0.mk (Other.blk ho BK1.out (by have := ORD.out; omega)); have n2_ := Aside0.mk (hbk); have n3_ := Aside0.mk (Other.blk ho BK3.out (by have := ORD.out; omega)); have n4_ := Aside0.mk (Kd.Fr.other FR4.out ho (by have := ORD.out; omega)); have n5_ := Aside0.mk (Kd.Fr.other FR5.out ho (by have := ORD.out; omega)); have n6_ := Aside0.mk (Kd.Fr.other FR7.out ho (by have := ORD.out; omega)); have n7_ := Aside0.mk (Kd.Fr.other FR8.out ho (by have := ORD.out; omega)); have n8_ := Aside0.mk (Kd.R_step RO.out (fun k hk_ _ => ho.block k (by have := ORD.out; omega))); clear HB BK1 BK2 BK3 FR4 FR5 FR7 FR8 RO; have HB := n0_; have BK1 := n1_; have BK2 := n2_; have BK3 := n3_; have FR4 := n4_; have FR5 := n5_; have FR7 := n6_; have FR8 := n7_; have RO := n8_; clear n0_ n1_ n2_ n3_ n4_ n5_ n6_ n7_ n8_; clear hbk ho))
      (try simp only [Exit.inBlock, Exit.then])
      refine bodyPost_ret (results_cell_row rfl _ _ g2 36 #[.string d0, .int .i64 d1, .int .i64 d2, .int .i64 d3, .slice B4 l4.length e4, .slice B5 l5.length e5, .slice A9_ xs.length c9_, .int .i64 a0, .string a1, .string a2, .string a3, .int .i64 a4, .int .i64 a5, .int .i64 a6, .int .i64 a7, .int .i64 a8, .int .i64 a9, .int .i64 a10, .int .i64 a11, .int .i64 a12, .int .i64 a13, .int .i64 a14, .int .i64 a15, .int .i64 a16, .int .i64 a17, .int .i64 a18, .int .i64 a19, .int .i64 a20, .slice B7 l7.length e7, .slice B8 l8.length e8] (0, 0) _ rfl BK2.out Try.underlying36 rfl size36) rfl ?_
      exact ⟨_, _, _, _, _, rfl, Kd.Fr.lower FR4.out (by have := ORD.out; omega), Kd.Fr.lower FR5.out (by have := ORD.out; omega), Kd.Fr.lower (b := g3 + 1) (Kd.Fr.of (.inr ⟨A9_, c9_, rfl, RO.out⟩)) (by have := ORD.out; omega), Kd.Fr.lower FR7.out (by have := ORD.out; omega), Kd.Fr.lower FR8.out (by have := ORD.out; omega), HB.out⟩
end Go.Proofs.Ytkfbkjcdngipcaa.PTreeEquals
end
section
namespace Go.Proofs.Ytkfbkjcdngipcaa.PTreeEquals
open Go.RowKit Go.Proofs.YtkfbkjcdngipcaaW.PrintWords Go.Proofs.YtkfbkjcdngipcaaW.PrintLast Go.Proofs.YtkfbkjcdngipcaaW.PrintMore
attribute [local go_sem] max2_int min2_int max_two min_two max_three min_three max_four min_four
set_option linter.unusedVariables false
set_option linter.unusedSimpArgs false
theorem add_mid7 (b o j : Nat) : (⟨b, o, none⟩ : Addr).add j = ⟨b, o + j, none⟩ := by unfold Addr.add; split <;> simp_all
set_option maxHeartbeats 8000000 in
set_option maxRecDepth 100000 in
theorem Beyond.calls (d0 : ByteArray) (d1 d2 d3 : Int) (l4 : List S23) (l5 : List ByteArray) (l6 : List S56) (a0 : Int) (a1 a2 a3 : ByteArray) (a4 a5 a6 a7 a8 a9 a10 a11 a12 a13 a14 a15 a16 a17 a18 a19 a20 : Int) (l7 : List S54) (l8 : List S34) (A4 : Option Addr) (c4 : Nat) (A5 : Option Addr) (c5 : Nat) (A6 : Option Addr) (c6 : Nat) (A7 : Option Addr) (c7 : Nat) (A8 : Option Addr) (c8 : Nat) (w : World)
    (hr5 : Kd.C Kd.string w A5 l5.length l5) (hc5 : l5.length ≤ c5) (hl5 : l5.length ≤ 9223372036854775807) (hr6 : Kd.C k56 w A6 l6.length l6) (hl6 : l6.length ≤ 9223372036854775807) (hd6 : ∀ x ∈ l6, x.f1.length ≤ 9223372036854775807) (hr7 : Kd.C k54 w A7 l7.length l7) (hr8 : Kd.C k34 w A8 l8.length l8) :
    Calls Try.prog 5 #[.agg #[.string d0, .int .i64 d1, .int .i64 d2, .int .i64 d3, .slice A4 l4.length c4, .slice A5 l5.length c5, .slice A6 l6.length c6, .int .i64 a0, .string a1, .string a2, .string a3, .int .i64 a4, .int .i64 a5, .int .i64 a6, .int .i64 a7, .int .i64 a8, .int .i64 a9, .int .i64 a10, .int .i64 a11, .int .i64 a12, .int .i64 a13, .int .i64 a14, .int .i64 a15, .int .i64 a16, .int .i64 a17, .int .i64 a18, .int .i64 a19, .int .i64 a20, .slice A7 l7.length c7, .slice A8 l8.length c8]] w fun e w' => (∃ r, e = .returned (.bool r)) ∧ Below w.heap.size w w' := by
  have hu36 := Try.underlying36
  have hu56 := Try.underlying56
  have hu54 := Try.underlying54
  have hu34 := Try.underlying34
  have HR5 := Aside0.mk hr5
  have HC5 := Aside0.mk hc5
  have HL5 := Aside0.mk hl5
  have HR6 := Aside0.mk hr6
  have HD6 := Aside0.mk hd6
  have HR7 := Aside0.mk hr7
  have HR8 := Aside0.mk hr8
  clear hr5 hc5 hl5 hr6 hd6 hr7 hr8
  have HB := Aside0.mk (Below.refl w.heap.size w)
  go_enter Try.func5, Try.ntmps5
  go_upto_region 2 with (first | ((with_reducible refine gate_dst (N := 1) rfl ?_); (try (refine gate_guard (by rfl) ?_; dsimp only)); refine box_event ?hg (N := 1) ?hd (cs := #[.string d0, .int .i64 d1, .int .i64 d2, .int .i64 d3, .slice A4 l4.length c4, .slice A5 l5.length c5, .slice A6 l6.length c6, .int .i64 a0, .string a1, .string a2, .string a3, .int .i64 a4, .int .i64 a5, .int .i64 a6, .int .i64 a7, .int .i64 a8, .int .i64 a9, .int .i64 a10, .int .i64 a11, .int .i64 a12, .int .i64 a13, .int .i64 a14, .int .i64 a15, .int .i64 a16, .int .i64 a17, .int .i64 a18, .int .i64 a19, .int .i64 a20, .slice A7 l7.length c7, .slice A8 l8.length c8]) (t := 36) ?hr ?_; (case hd => rfl); (case hg => rfl); (case hr => first | (go_simp; done) | (go_simp; rfl)); intro gb hg w5 hbox hb; have n0_ := Aside0.mk (below_step HB.out hb); clear HB; have HB := n0_; have BK := Aside0.mk hbox; clear n0_ hb hbox hg) | ((with_reducible refine gate_dst (N := 6) rfl ?_); (try (refine gate_guard (by rfl) ?_; dsimp only)); refine box_event ?hg (N := 6) ?hd (cs := #[.int .i64 2147483647, .bool false]) (t := 50) ?hr ?_; (case hd => rfl); (case hg => rfl); (case hr => first | (go_simp; done) | (go_simp; rfl)); intro g hg w6 hbox hb; have n0_ := Aside0.mk (below_step HB.out hb); have n1_ := Aside0.mk (blk_below BK.out hb); have n2_ := Aside0.mk (show IsS50 w w6 g 2147483647 false from ⟨hbox, by rw [hg]; exact HB.out.size⟩); have n3_ := Aside0.mk (show gb ≠ g by rw [hg]; exact Nat.ne_of_lt (blk_lt BK.out)); clear HB BK; have HB := n0_; have BK := n1_; have HI0 := n2_; have NB := n3_; clear n0_ n1_ n2_ n3_ hb hbox hg))
  have hcza_0 : w6.cell? ⟨gb, 0, none⟩ = some (.string d0) := (blk_cell BK.out 0).trans rfl
  have hfza_0 := blk_frozen BK.out 0
  go_upto_region 3 with (fail)
  refine (take_calls g _ _ (d0.size : Int) w _ (by repeat (first | (with_reducible first | exact HI0.out | apply IsS50.alloc | apply IsS50.drewN | apply IsS50.drew | apply IsS50.set_0 | apply IsS50.set_1) | exact HI0.out)) (by repeat (first | (with_reducible first | exact HB.out | apply below_alloc | apply pw_below_drewN | apply below_drew1 | refine below_set ?_ (IsS50.ge HI0.out)) | exact HB.out))).mono ?_
  rintro e w7 ⟨rfl, ⟨q1_, q2_, hi⟩, hb, hk⟩
  try dsimp only
  have n1_ := Aside0.mk hb; have n2_ := Aside0.mk hi; have n3_ := Aside0.mk (hk.blk (by (with_reducible repeat (first | refine blk_far ?_ NB.out _ | refine blk_drewN ?_ _ | refine blk_drew ?_ | refine blk_alloc ?_ _)); exact BK.out) NB.out (by simp)); clear HB HI0 BK; have HB := n1_; have HI0 := n2_; have BK := n3_; clear n1_ n2_ n3_ hb hk hi
  clear hcza_0 hfza_0
  have hczb_4 : w7.cell? ⟨gb, 4, none⟩ = some (.slice A4 l4.length c4) := (blk_cell BK.out 4).trans rfl
  have hfzb_4 := blk_frozen BK.out 4
  go_upto_region 4 with (fail)
  refine (take_calls g _ _ (l4.length : Int) w _ (by repeat (first | (with_reducible first | exact HI0.out | apply IsS50.alloc | apply IsS50.drewN | apply IsS50.drew | apply IsS50.set_0 | apply IsS50.set_1) | exact HI0.out)) (by repeat (first | (with_reducible first | exact HB.out | apply below_alloc | apply pw_below_drewN | apply below_drew1 | refine below_set ?_ (IsS50.ge HI0.out)) | exact HB.out))).mono ?_
  rintro e w8 ⟨rfl, ⟨q1_, q2_, hi⟩, hb, hk⟩
  try dsimp only
  have n1_ := Aside0.mk hb; have n2_ := Aside0.mk hi; have n3_ := Aside0.mk (hk.blk (by (with_reducible repeat (first | refine blk_far ?_ NB.out _ | refine blk_drewN ?_ _ | refine blk_drew ?_ | refine blk_alloc ?_ _)); exact BK.out) NB.out (by simp)); clear HB HI0 BK; have HB := n1_; have HI0 := n2_; have BK := n3_; clear n1_ n2_ n3_ hb hk hi
  clear hczb_4 hfzb_4
  have hczc_5 : w8.cell? ⟨gb, 5, none⟩ = some (.slice A5 l5.length c5) := (blk_cell BK.out 5).trans rfl
  have hfzc_5 := blk_frozen BK.out 5
  go_upto_region 5 with (fail)
  refine (texts_calls g _ _ A5 c5 l5 w _ (by repeat (first | (with_reducible first | exact HI0.out | apply IsS50.alloc | apply IsS50.drewN | apply IsS50.drew | apply IsS50.set_0 | apply IsS50.set_1) | exact HI0.out)) (by repeat (first | (with_reducible first | exact HB.out | apply below_alloc | apply pw_below_drewN | apply below_drew1 | refine below_set ?_ (IsS50.ge HI0.out)) | exact HB.out)) HR5.out HC5.out HL5.out).mono ?_
  rintro e w9 ⟨rfl, ⟨q1_, q2_, hi⟩, hb, hk⟩
  try dsimp only
  have n1_ := Aside0.mk hb; have n2_ := Aside0.mk hi; have n3_ := Aside0.mk (hk.blk (by (with_reducible repeat (first | refine blk_far ?_ NB.out _ | refine blk_drewN ?_ _ | refine blk_drew ?_ | refine blk_alloc ?_ _)); exact BK.out) NB.out (by simp)); clear HB HI0 BK; have HB := n1_; have HI0 := n2_; have BK := n3_; clear n1_ n2_ n3_ hb hk hi
  clear hczc_5 hfzc_5
  go_wp2
  go_loopg [4] l6.length (fun kq v6 w' => ∃ (i_ : Int) (x_ : Int) (y_ : Bool), v6 = .int .i64 i_ ∧ Aside0 (0 ≤ i_ ∧ i_ + (kq : Int) = (l6.length : Int)) ∧ Aside0 (IsS50 w w' g x_ y_) ∧ Aside0 (Below w.heap.size w w') ∧ Aside0 (w'.heap[gb]? = some (.cells #[.string d0, .int .i64 d1, .int .i64 d2, .int .i64 d3, .slice A4 l4.length c4, .slice A5 l5.length c5, .slice A6 l6.length c6, .int .i64 a0, .string a1, .string a2, .string a3, .int .i64 a4, .int .i64 a5, .int .i64 a6, .int .i64 a7, .int .i64 a8, .int .i64 a9, .int .i64 a10, .int .i64 a11, .int .i64 a12, .int .i64 a13, .int .i64 a14, .int .i64 a15, .int .i64 a16, .int .i64 a17, .int .i64 a18, .int .i64 a19, .int .i64 a20, .slice A7 l7.length c7, .slice A8 l8.length c8] 36 (0, 0))))
  case atStart => exact ⟨0, _, _, rfl, ⟨by omega, by omega⟩, ⟨by repeat (first | (with_reducible first | exact HI0.out | apply IsS50.alloc | apply IsS50.drewN | apply IsS50.drew | apply IsS50.set_0 | apply IsS50.set_1) | exact HI0.out)⟩, ⟨by repeat (first | (with_reducible first | exact HB.out | apply below_alloc | apply pw_below_drewN | apply below_drew1 | refine below_set ?_ (IsS50.ge HI0.out)) | exact HB.out)⟩, ⟨by (with_reducible repeat (first | refine blk_far ?_ NB.out _ | refine blk_drewN ?_ _ | refine blk_drew ?_ | refine blk_alloc ?_ _)); exact BK.out⟩⟩
  case round =>
    obtain ⟨i_, s2_, s3_, rfl, HQ, HI0, HB, BK⟩ := hrel
    go_upto_region 6 with (fail)
    go_cut [32] (fun v35 wc => ∃ (b_ : Bool) (x_ : Int) (y_ : Bool), v35 = .bool b_ ∧ Aside0 (b_ = true → i_ < (l6.length : Int)) ∧ Aside0 (IsS50 w wc g x_ y_) ∧ Aside0 (Below w.heap.size w wc) ∧ Aside0 (wc.heap[gb]? = some (.cells #[.string d0, .int .i64 d1, .int .i64 d2, .int .i64 d3, .slice A4 l4.length c4, .slice A5 l5.length c5, .slice A6 l6.length c6, .int .i64 a0, .string a1, .string a2, .string a3, .int .i64 a4, .int .i64 a5, .int .i64 a6, .int .i64 a7, .int .i64 a8, .int .i64 a9, .int .i64 a10, .int .i64 a11, .int .i64 a12, .int .i64 a13, .int .i64 a14, .int .i64 a15, .int .i64 a16, .int .i64 a17, .int .i64 a18, .int .i64 a19, .int .i64 a20, .slice A7 l7.length c7, .slice A8 l8.length c8] 36 (0, 0))))
    case first =>
      by_cases c : i_ < (l6.length : Int)
      · have cb : decide (i_ < (l6.length : Int)) = true := decide_eq_true c
        obtain ⟨HG2, hg2⟩ := HI0.out
        have hcs2_0 := cellS50_0 HG2
        have hcs2_1 := cellS50_1 HG2
        have hfs2_0 := blk_frozen HG2 0
        have hfs2_1 := blk_frozen HG2 1
        clear HG2 hg2
        have hczd_6 : wr.cell? ⟨gb, 6, none⟩ = some (.slice A6 l6.length c6) := (blk_cell BK.out 6).trans rfl
        have hfzd_6 := blk_frozen BK.out 6
        go_wp2
        go_meet
        case rel => exact ⟨!s3_, s2_, s3_, rfl, ⟨fun _ => c⟩, ⟨by repeat (first | (with_reducible first | exact HI0.out | apply IsS50.alloc | apply IsS50.drewN | apply IsS50.drew | apply IsS50.set_0 | apply IsS50.set_1) | exact HI0.out)⟩, ⟨by repeat (first | (with_reducible first | exact HB.out | apply below_alloc | apply pw_below_drewN | apply below_drew1 | refine below_set ?_ (IsS50.ge HI0.out)) | exact HB.out)⟩, ⟨by (with_reducible repeat (first | refine blk_far ?_ NB.out _ | refine blk_drewN ?_ _ | refine blk_drew ?_ | refine blk_alloc ?_ _)); exact BK.out⟩⟩
      · have cb : decide (i_ < (l6.length : Int)) = false := decide_eq_false c
        have hczd_6 : wr.cell? ⟨gb, 6, none⟩ = some (.slice A6 l6.length c6) := (blk_cell BK.out 6).trans rfl
        have hfzd_6 := blk_frozen BK.out 6
        go_wp2
        go_meet
        case rel => exact ⟨false, s2_, s3_, rfl, ⟨fun h => by cases h⟩, ⟨by repeat (first | (with_reducible first | exact HI0.out | apply IsS50.alloc | apply IsS50.drewN | apply IsS50.drew | apply IsS50.set_0 | apply IsS50.set_1) | exact HI0.out)⟩, ⟨by repeat (first | (with_reducible first | exact HB.out | apply below_alloc | apply pw_below_drewN | apply below_drew1 | refine below_set ?_ (IsS50.ge HI0.out)) | exact HB.out)⟩, ⟨by (with_reducible repeat (first | refine blk_far ?_ NB.out _ | refine blk_drewN ?_ _ | refine blk_drew ?_ | refine blk_alloc ?_ _)); exact BK.out⟩⟩
    case rest =>
      clear HI0 HB BK
      obtain ⟨b_, s4_, s5_, rfl, HC, HI0, HB, BK⟩ := hcut
      cases b_ with
      | false =>
        go_upto_region 11 with (fail)
        cases s5_ with
        | true =>
          obtain ⟨HG3, hg3⟩ := HI0.out
          have hcs3_0 := cellS50_0 HG3
          have hcs3_1 := cellS50_1 HG3
          have hfs3_0 := blk_frozen HG3 0
          have hfs3_1 := blk_frozen HG3 1
          clear HG3 hg3
          go_wp2
          go_ret
          exact ⟨⟨_, rfl⟩, by repeat (first | (with_reducible first | exact HB.out | apply below_alloc | apply pw_below_drewN | apply below_drew1 | refine below_set ?_ (IsS50.ge HI0.out)) | exact HB.out)⟩
        | false =>
          obtain ⟨HG3, hg3⟩ := HI0.out
          have hcs3_0 := cellS50_0 HG3
          have hcs3_1 := cellS50_1 HG3
          have hfs3_0 := blk_frozen HG3 0
          have hfs3_1 := blk_frozen HG3 1
          clear HG3 hg3
          have HCS := Aside0.mk (show ∀ j v, ([.int .i64 a0, .string a1, .string a2, .string a3, .int .i64 a4, .int .i64 a5, .int .i64 a6, .int .i64 a7, .int .i64 a8, .int .i64 a9, .int .i64 a10, .int .i64 a11, .int .i64 a12, .int .i64 a13, .int .i64 a14, .int .i64 a15, .int .i64 a16, .int .i64 a17, .int .i64 a18, .int .i64 a19, .int .i64 a20, .slice A7 l7.length c7, .slice A8 l8.length c8] : List Value)[j]? = some v → wc.cell? ((⟨gb, 7, none⟩ : Addr).add j) = some v from fun j v hj => by rw [show (⟨gb, 7, none⟩ : Addr).add j = ⟨gb, 7 + j, none⟩ from add_mid7 _ _ _, blk_cell BK.out]; rw [show ([.int .i64 a0, .string a1, .string a2, .string a3, .int .i64 a4, .int .i64 a5, .int .i64 a6, .int .i64 a7, .int .i64 a8, .int .i64 a9, .int .i64 a10, .int .i64 a11, .int .i64 a12, .int .i64 a13, .int .i64 a14, .int .i64 a15, .int .i64 a16, .int .i64 a17, .int .i64 a18, .int .i64 a19, .int .i64 a20, .slice A7 l7.length c7, .slice A8 l8.length c8] : List Value) = ([.string d0, .int .i64 d1, .int .i64 d2, .int .i64 d3, .slice A4 l4.length c4, .slice A5 l5.length c5, .slice A6 l6.length c6, .int .i64 a0, .string a1, .string a2, .string a3, .int .i64 a4, .int .i64 a5, .int .i64 a6, .int .i64 a7, .int .i64 a8, .int .i64 a9, .int .i64 a10, .int .i64 a11, .int .i64 a12, .int .i64 a13, .int .i64 a14, .int .i64 a15, .int .i64 a16, .int .i64 a17, .int .i64 a18, .int .i64 a19, .int .i64 a20, .slice A7 l7.length c7, .slice A8 l8.length c8] : List Value).drop 7 from rfl, List.getElem?_drop] at hj; rw [List.getElem?_toArray]; exact hj)
          go_upto_region 13 with ((with_reducible refine gate_dst (N := 67) rfl ?_); (try (refine gate_guard (by rfl) ?_; dsimp only)); refine load_event (t := 34) (p := .tmp 66) (ad := ⟨gb, 7, none⟩) ?hg ?ho ?hp hu34 ⟨_, rfl⟩ ([.int .i64 a0, .string a1, .string a2, .string a3, .int .i64 a4, .int .i64 a5, .int .i64 a6, .int .i64 a7, .int .i64 a8, .int .i64 a9, .int .i64 a10, .int .i64 a11, .int .i64 a12, .int .i64 a13, .int .i64 a14, .int .i64 a15, .int .i64 a16, .int .i64 a17, .int .i64 a18, .int .i64 a19, .int .i64 a20, .slice A7 l7.length c7, .slice A8 l8.length c8]) ?hs HCS.out ?_; (case ho => rfl); (case hs => exact size34); (case hg => rfl); (case hp => first | (go_simp; done) | (go_simp; rfl)))
          refine (Tally_con.calls (S54.wts l7 + S34.wts l8 + 1) _ _ _ _ _ _ _ _ _ _ _ _ _ _ _ _ _ _ _ _ _ l7 l8 (Nat.lt_succ_self _) g _ _ A7 c7 A8 c8 _ w _ (by repeat (first | (with_reducible first | exact HI0.out | apply IsS50.alloc | apply IsS50.drewN | apply IsS50.drew | apply IsS50.set_0 | apply IsS50.set_1) | exact HI0.out)) (by repeat (first | (with_reducible first | exact HB.out | apply below_alloc | apply pw_below_drewN | apply below_drew1 | refine below_set ?_ (IsS50.ge HI0.out)) | exact HB.out)) HR7.out HR8.out).mono ?_
          rintro e w9 ⟨rfl, ⟨q1_, q2_, hi⟩, hb, hk⟩
          try dsimp only
          have n1_ := Aside0.mk hb; have n2_ := Aside0.mk hi; have n3_ := Aside0.mk (hk.blk (by (with_reducible repeat (first | refine blk_far ?_ NB.out _ | refine blk_drewN ?_ _ | refine blk_drew ?_ | refine blk_alloc ?_ _)); exact BK.out) NB.out (by simp)); clear HB HI0 BK; have HB := n1_; have HI0 := n2_; have BK := n3_; clear n1_ n2_ n3_ hb hk hi
          obtain ⟨HG4, hg4⟩ := HI0.out
          have hcs4_0 := cellS50_0 HG4
          have hcs4_1 := cellS50_1 HG4
          have hfs4_0 := blk_frozen HG4 0
          have hfs4_1 := blk_frozen HG4 1
          clear HG4 hg4
          go_wp2
          go_ret
          exact ⟨⟨_, rfl⟩, by repeat (first | (with_reducible first | exact HB.out | apply below_alloc | apply pw_below_drewN | apply below_drew1 | refine below_set ?_ (IsS50.ge HI0.out)) | exact HB.out)⟩
      | true =>
        have c_ := HC.out rfl
        have p_ : 0 ≤ i_ := HQ.out.1
        have q_ : i_ < (l6.length : Int) := c_
        obtain ⟨ad, B1, e1, B5, e5, B6, e6, e_, hx0, hx1, hx2, hx3, hx4, hx5, hx6, hl1, hi1, hl5, hi5, hl6_, hi6⟩ := at_T56 HR6.out i_ p_ q_
        cases e_
        have HX0 := Aside0.mk hx0
        have HX1 := Aside0.mk hx1
        have HX2 := Aside0.mk hx2
        have HX3 := Aside0.mk hx3
        have HX4 := Aside0.mk hx4
        have HX5 := Aside0.mk hx5
        have HX6 := Aside0.mk hx6
        clear hx0 hx1 hx2 hx3 hx4 hx5 hx6
        have HS1 := Aside0.mk hi1
        have HT1 := Aside0.mk hl1
        have HS6 := Aside0.mk hi6
        clear hi1 hl1 hl5 hi5 hl6_ hi6
        have HM := Aside0.mk (HD6.out _ (rd_mem56 p_ q_))
        replace p_ := eq_true p_
        replace q_ := eq_true q_
        have hcze_6 : wc.cell? ⟨gb, 6, none⟩ = some (.slice (some ad) l6.length c6) := (blk_cell BK.out 6).trans rfl
        have hfze_6 := blk_frozen BK.out 6
        have hxe_0 := (HB.out.cell (World.block_lt_of_cell? w _ HX0.out)).trans HX0.out
        have hxe_1 := (HB.out.cell (World.block_lt_of_cell? w _ HX1.out)).trans HX1.out
        have hxe_2 := (HB.out.cell (World.block_lt_of_cell? w _ HX2.out)).trans HX2.out
        have hxe_3 := (HB.out.cell (World.block_lt_of_cell? w _ HX3.out)).trans HX3.out
        have hxe_4 := (HB.out.cell (World.block_lt_of_cell? w _ HX4.out)).trans HX4.out
        have hxe_5 := (HB.out.cell (World.block_lt_of_cell? w _ HX5.out)).trans HX5.out
        have hxe_6 := (HB.out.cell (World.block_lt_of_cell? w _ HX6.out)).trans HX6.out
        go_upto_region 9 with (fail)
        refine (take_calls g _ _ ((rd_T56 l6 i_).f0.size : Int) w _ (by repeat (first | (with_reducible first | exact HI0.out | apply IsS50.alloc | apply IsS50.drewN | apply IsS50.drew | apply IsS50.set_0 | apply IsS50.set_1) | exact HI0.out)) (by repeat (first | (with_reducible first | exact HB.out | apply below_alloc | apply pw_below_drewN | apply below_drew1 | refine below_set ?_ (IsS50.ge HI0.out)) | exact HB.out))).mono ?_
        rintro e w20 ⟨rfl, ⟨q1_, q2_, hi⟩, hb, hk⟩
        try dsimp only
        have n1_ := Aside0.mk hb; have n2_ := Aside0.mk hi; have n3_ := Aside0.mk (hk.blk (by (with_reducible repeat (first | refine blk_far ?_ NB.out _ | refine blk_drewN ?_ _ | refine blk_drew ?_ | refine blk_alloc ?_ _)); exact BK.out) NB.out (by simp)); clear HB HI0 BK; have HB := n1_; have HI0 := n2_; have BK := n3_; clear n1_ n2_ n3_ hb hk hi
        clear hcze_6 hfze_6
        clear hxe_0 hxe_1 hxe_2 hxe_3 hxe_4 hxe_5 hxe_6
        have hczf_6 : w20.cell? ⟨gb, 6, none⟩ = some (.slice (some ad) l6.length c6) := (blk_cell BK.out 6).trans rfl
        have hfzf_6 := blk_frozen BK.out 6
        have hxf_0 := (HB.out.cell (World.block_lt_of_cell? w _ HX0.out)).trans HX0.out
        have hxf_1 := (HB.out.cell (World.block_lt_of_cell? w _ HX1.out)).trans HX1.out
        have hxf_2 := (HB.out.cell (World.block_lt_of_cell? w _ HX2.out)).trans HX2.out
        have hxf_3 := (HB.out.cell (World.block_lt_of_cell? w _ HX3.out)).trans HX3.out
        have hxf_4 := (HB.out.cell (World.block_lt_of_cell? w _ HX4.out)).trans HX4.out
        have hxf_5 := (HB.out.cell (World.block_lt_of_cell? w _ HX5.out)).trans HX5.out
        have hxf_6 := (HB.out.cell (World.block_lt_of_cell? w _ HX6.out)).trans HX6.out
        go_upto_region 10 with (fail)
        refine (texts_calls g _ _ B1 e1 (rd_T56 l6 i_).f1 w _ (by repeat (first | (with_reducible first | exact HI0.out | apply IsS50.alloc | apply IsS50.drewN | apply IsS50.drew | apply IsS50.set_0 | apply IsS50.set_1) | exact HI0.out)) (by repeat (first | (with_reducible first | exact HB.out | apply below_alloc | apply pw_below_drewN | apply below_drew1 | refine below_set ?_ (IsS50.ge HI0.out)) | exact HB.out)) HS1.out HT1.out HM.out).mono ?_
        rintro e w21 ⟨rfl, ⟨q1_, q2_, hi⟩, hb, hk⟩
        try dsimp only
        have n1_ := Aside0.mk hb; have n2_ := Aside0.mk hi; have n3_ := Aside0.mk (hk.blk (by (with_reducible repeat (first | refine blk_far ?_ NB.out _ | refine blk_drewN ?_ _ | refine blk_drew ?_ | refine blk_alloc ?_ _)); exact BK.out) NB.out (by simp)); clear HB HI0 BK; have HB := n1_; have HI0 := n2_; have BK := n3_; clear n1_ n2_ n3_ hb hk hi
        clear hczf_6 hfzf_6
        clear hxf_0 hxf_1 hxf_2 hxf_3 hxf_4 hxf_5 hxf_6
        have hczg_6 : w21.cell? ⟨gb, 6, none⟩ = some (.slice (some ad) l6.length c6) := (blk_cell BK.out 6).trans rfl
        have hfzg_6 := blk_frozen BK.out 6
        have hxg_0 := (HB.out.cell (World.block_lt_of_cell? w _ HX0.out)).trans HX0.out
        have hxg_1 := (HB.out.cell (World.block_lt_of_cell? w _ HX1.out)).trans HX1.out
        have hxg_2 := (HB.out.cell (World.block_lt_of_cell? w _ HX2.out)).trans HX2.out
        have hxg_3 := (HB.out.cell (World.block_lt_of_cell? w _ HX3.out)).trans HX3.out
        have hxg_4 := (HB.out.cell (World.block_lt_of_cell? w _ HX4.out)).trans HX4.out
        have hxg_5 := (HB.out.cell (World.block_lt_of_cell? w _ HX5.out)).trans HX5.out
        have hxg_6 := (HB.out.cell (World.block_lt_of_cell? w _ HX6.out)).trans HX6.out
        go_upto_region 7 with (fail)
        refine (Tally_expr.calls (S54.wts (rd_T56 l6 i_).f2.f4 + 1) _ _ _ _ (rd_T56 l6 i_).f2.f4 (Nat.lt_succ_self _) g _ _ B5 e5 B6 e6 _ w _ (by repeat (first | (with_reducible first | exact HI0.out | apply IsS50.alloc | apply IsS50.drewN | apply IsS50.drew | apply IsS50.set_0 | apply IsS50.set_1) | exact HI0.out)) (by repeat (first | (with_reducible first | exact HB.out | apply below_alloc | apply pw_below_drewN | apply below_drew1 | refine below_set ?_ (IsS50.ge HI0.out)) | exact HB.out)) HS6.out).mono ?_
        rintro e w22 ⟨rfl, ⟨q1_, q2_, hi⟩, hb, hk⟩
        try dsimp only
        have n1_ := Aside0.mk hb; have n2_ := Aside0.mk hi; have n3_ := Aside0.mk (hk.blk (by (with_reducible repeat (first | refine blk_far ?_ NB.out _ | refine blk_drewN ?_ _ | refine blk_drew ?_ | refine blk_alloc ?_ _)); exact BK.out) NB.out (by simp)); clear HB HI0 BK; have HB := n1_; have HI0 := n2_; have BK := n3_; clear n1_ n2_ n3_ hb hk hi
        go_wp2
        go_roundg (gk - 1)
        case measure => have := HQ.out; have := c_; omega
        case rel => exact ⟨i_ + 1, q1_, q2_, by rw [show wrap64 (i_ + 1) = i_ + 1 from by have := HQ.out; have := c_; unfold wrap64; omega], ⟨by have := HQ.out; have := c_; omega⟩, ⟨by repeat (first | (with_reducible first | exact HI0.out | apply IsS50.alloc | apply IsS50.drewN | apply IsS50.drew | apply IsS50.set_0 | apply IsS50.set_1) | exact HI0.out)⟩, ⟨by repeat (first | (with_reducible first | exact HB.out | apply below_alloc | apply pw_below_drewN | apply below_drew1 | refine below_set ?_ (IsS50.ge HI0.out)) | exact HB.out)⟩, ⟨by (with_reducible repeat (first | refine blk_far ?_ NB.out _ | refine blk_drewN ?_ _ | refine blk_drew ?_ | refine blk_alloc ?_ _)); exact BK.out⟩⟩
end Go.Proofs.Ytkfbkjcdngipcaa.PTreeEquals
end
