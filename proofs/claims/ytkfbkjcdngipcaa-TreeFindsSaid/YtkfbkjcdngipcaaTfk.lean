import Derived.Test.YtkfbkjcdngipcaaTfj
import Derived.Laws.AppendOwn
section
namespace Go.Proofs.YtkfbkjcdngipcaaW.PrintWords
open Go.RowKit
set_option linter.unusedVariables false
theorem app_path {P : Program} {W : World} {A : Option Addr} {path : List Int} {pc h : Nat} (hb : W.heap[h]? = some (.cells #[] 3 (0, 0))) (hr : Kd.C (Kd.int .i64) W A path.length path) (hl : path.length * 8 ≤ 140737488355328)
    (ht : P.underlying 40 = some (.slice 3)) (hinfo : (P.info? 3).map (fun i => (i.zero, i.size, i.bytes)) = some (some (.int .i64 0), 1, 8)) (ty : TypeId) :
    ∃ A1 c1 w1, (Builtin.append_ #[40, 40] ty #[.slice (some ⟨h, 0, none⟩) 0 0, .slice A path.length pc]).run P W = .ok (.slice A1 path.length c1) w1 ∧ Kd.C (Kd.int .i64) w1 A1 path.length path ∧ W.grownBy w1 (some h) := by
  obtain ⟨i, hi, hq⟩ := Option.map_eq_some_iff.1 hinfo
  injection hq with hz hq
  injection hq with hs hby
  have hown : W.ownsRow 0 3 1 (.slice (some ⟨h, 0, none⟩) 0 0) 0 [] := ⟨rfl, .inr ⟨h, 0, #[], rfl, Nat.zero_le _, hb, Nat.le_refl _, Nat.zero_le _, rfl, rfl⟩⟩
  rcases Nat.eq_zero_or_pos path.length with hn | hn
  · have hp : path = [] := List.eq_nil_of_length_eq_zero hn
    subst hp
    refine ⟨some ⟨h, 0, none⟩, 0, W, ?_, ⟨rfl, by simp, fun q => absurd q (by simp)⟩, ⟨rfl, rfl, rfl, Nat.le_refl _, fun _ _ _ => rfl⟩⟩
    simp [Builtin.append_, run_underlying ht, sizeOf, typeInfo, hi, Builtin.lenOf, Builtin.firstCells, loadCells, loadCellsFrom, storeCells]
    cases A <;> simp [storeCells]
  · obtain ⟨ad, rfl, hc⟩ := hr.2.2 hn
    obtain ⟨v', w', h1, h2, h3, h4⟩ := run_append_own (P := P) W 0 40 ty 3 i (.int .i64 0) 1 8 ht hi hz hs hby rfl (by decide) _ 0 [] hown ad path.length pc (path.map (fun z => Value.int .i64 z)) (by simp) (fun j u hj => by
      rw [List.getElem?_map] at hj
      obtain ⟨z, hz1, rfl⟩ := Option.map_eq_some_iff.1 hj
      obtain ⟨c, hcl, hK, hcc⟩ := hc j z hz1
      have hK : c = [.int .i64 z] := hK
      subst hK
      have := hcc 0 _ rfl
      simpa [Kd.int, Kd.scalar] using this) (fun u hu => by
      obtain ⟨z, _, rfl⟩ := List.mem_map.1 hu
      rfl) (by have := hr.2.1; simp only [maxLen]; omega) (by omega) (Nat.zero_le _)
    rw [Nat.zero_add] at h2
    rw [List.nil_append] at h2
    have hR := Kd.R_of_own (enc := fun z => Value.int .i64 z) (h1 := fun _ => rfl) (ok := fun _ => True) h2 (fun _ _ => trivial)
    obtain ⟨A1, c1, rfl, _, hC⟩ := Kd.R_reads hR
    exact ⟨A1, c1, w', h1, hC, h3⟩
end Go.Proofs.YtkfbkjcdngipcaaW.PrintWords
end
section
namespace Go.Proofs.Ytkfbkjcdngipcaa.PTreeEquals
open Go.RowKit Go.Proofs.YtkfbkjcdngipcaaW.PrintWords Go.Proofs.YtkfbkjcdngipcaaW.PrintLast Go.Proofs.YtkfbkjcdngipcaaW.PrintMore
set_option linter.unusedVariables false
theorem k34_len {w : World} {x : S34} {cs : List Value} (h : k34.K w x cs) : cs.length = 23 := k34.K_len h
structure Got (w : World) (lo hi g : Nat) (x : S34) (ds : List Value) : Prop where
  blk : w.heap[g]? = some (.cells ds.toArray 34 (0, 0))
  lo_ : lo ≤ g
  hi_ : g < hi
  hw : hi ≤ w.heap.size
  m : k34.M w lo (fun k => lo ≤ k ∧ k < hi ∧ k ≠ g) x ds
section
variable {w w1 W : World} {lo hi g : Nat} {x : S34} {ds : List Value}
theorem Got.below (h : Got w lo hi g x ds) (hb : Below w.heap.size w w1) : Got w1 lo hi g x ds :=
  ⟨blk_below h.blk hb, h.lo_, h.hi_, Nat.le_trans h.hw hb.size, k34.M_move (fun k hk => hb.block k (Nat.lt_of_lt_of_le hk.2.1 h.hw)) h.m⟩
theorem Got.soft {ok : Nat → Prop} (h : Got w lo hi g x ds) (hs : Soft ok w w1) (hd : ∀ k, ok k → k < lo ∨ hi ≤ k) : Got w1 lo hi g x ds := by
  have hk : ∀ k, lo ≤ k → k < hi → w1.heap[k]? = w.heap[k]? := fun k h1 h2 => hs.keep k (Nat.lt_of_lt_of_le h2 h.hw) (fun ho => by have := hd k ho; omega)
  exact ⟨(hk g h.lo_ h.hi_).trans h.blk, h.lo_, h.hi_, Nat.le_trans h.hw hs.size, k34.M_move (fun k hk' => hk k hk'.1 hk'.2.1) h.m⟩
theorem Got.scrawl (h : Got w lo hi g x ds) (hw : x.wf) : Calls Try.prog 12 #[.pointer (some ⟨g, 0, none⟩)] w fun e w' => e = .returned (.tuple #[]) ∧ Soft (fun k => lo ≤ k ∧ k < hi) w w' := by
  refine (scrawlCon.calls lo _ x ds w g 0 (fun j v hj => ?_) (fun hk => hk.2.2 rfl) h.m hw).mono ?_
  · have := blk_cs (j := 0) h.blk ds (n := ds.length) (by simp) j v hj
    exact this
  · rintro e w' ⟨rfl, hs⟩
    exact ⟨rfl, hs.mono (fun k _ hk => ⟨hk.1, hk.2.1⟩)⟩
theorem Got.k (h : Got w lo hi g x ds) : k34.K w x ds := k34.K_of_M h.m
theorem Soft.past {ok : Nat → Prop} {B : Nat} (hb : Below B W w) (hB : B ≤ w.heap.size) (hs : Soft ok w w1) (hd : ∀ k, ok k → B ≤ k) : Below B W w1 :=
  ⟨hs.os.trans hb.os, hs.tape.trans hb.tape, hs.output.trans hb.output, Nat.le_trans hb.size hs.size, fun k hk => (hs.keep k (Nat.lt_of_lt_of_le hk hB) (fun ho => by have := hd k ho; omega)).trans (hb.block k hk)⟩
def Mid (W : World) (x : S34) (g : Nat) (ds : List Value) (w' : World) : Prop :=
  Below W.heap.size W w' ∧ W.heap.size ≤ g ∧ w'.heap[g]? = some (.cells #[.int .i64 0, .string ⟨#[]⟩, .string ⟨#[]⟩, .string ⟨#[]⟩, .int .i64 0, .int .i64 0, .int .i64 0, .int .i64 0, .int .i64 0, .int .i64 0, .int .i64 0, .int .i64 0, .int .i64 0, .int .i64 0, .int .i64 0, .int .i64 0, .int .i64 0, .int .i64 0, .int .i64 0, .int .i64 0, .int .i64 0, .slice none 0 0, .slice none 0 0] 34 (0, 0)) ∧ k34.M w' W.heap.size (fun k => W.heap.size ≤ k ∧ k ≠ g) x ds
theorem mid_ahead (hb : Below W.heap.size W w) (h1 : W.heap.size ≤ g) (h2 : w.heap[g]? = some (.cells #[.int .i64 0, .string ⟨#[]⟩, .string ⟨#[]⟩, .string ⟨#[]⟩, .int .i64 0, .int .i64 0, .int .i64 0, .int .i64 0, .int .i64 0, .int .i64 0, .int .i64 0, .int .i64 0, .int .i64 0, .int .i64 0, .int .i64 0, .int .i64 0, .int .i64 0, .int .i64 0, .int .i64 0, .int .i64 0, .int .i64 0, .slice none 0 0, .slice none 0 0] 34 (0, 0))) (hm : Kd.Fr k34 w.heap.size w1 x ds) (hb1 : Below w.heap.size w w1) : Mid W x g ds w1 :=
  ⟨below_step hb hb1, h1, blk_below h2 hb1, k34.M_mono (fun k hk => ⟨Nat.le_trans hb.size hk, by have := blk_lt h2; omega⟩) (k34.M_lower hb.size hm)⟩
theorem mid_behind {w2 : World} (hb : Below W.heap.size W w) (hm : Kd.Fr k34 w.heap.size w1 x ds) (hb1 : Below w.heap.size w w1) (hg : g = w1.heap.size) (h2 : w2.heap[g]? = some (.cells #[.int .i64 0, .string ⟨#[]⟩, .string ⟨#[]⟩, .string ⟨#[]⟩, .int .i64 0, .int .i64 0, .int .i64 0, .int .i64 0, .int .i64 0, .int .i64 0, .int .i64 0, .int .i64 0, .int .i64 0, .int .i64 0, .int .i64 0, .int .i64 0, .int .i64 0, .int .i64 0, .int .i64 0, .int .i64 0, .int .i64 0, .slice none 0 0, .slice none 0 0] 34 (0, 0))) (hb2 : Below w1.heap.size w1 w2) : Mid W x g ds w2 := by
  subst hg
  have h1 := below_step hb hb1
  refine ⟨below_step h1 hb2, h1.size, h2, k34.M_move (fun k hk => ?_) (k34.M_mono (fun k hk => (⟨Nat.le_trans hb.size hk.1, hk.2.2.1⟩ : W.heap.size ≤ k ∧ k < w1.heap.size)) (k34.M_bound (k34.M_lower hb.size hm))) |> k34.M_mono (fun k hk => ⟨hk.1, by omega⟩)⟩
  exact hb2.block k hk.2
theorem mid_got (h : Mid W x g ds w) (ho : Other g w w1) (hb : w1.heap[g]? = some (.cells ds.toArray 34 (0, 0))) : Got w1 W.heap.size w1.heap.size g x ds ∧ Below W.heap.size W w1 := by
  obtain ⟨h1, h2, h3, h4⟩ := h
  refine ⟨⟨hb, h2, by rw [ho.size]; exact blk_lt h3, Nat.le_refl _, ?_⟩, Other.below ho h1 h2⟩
  exact k34.M_move (fun k hk => ho.block k hk.2.2) (k34.M_mono (fun k hk => ⟨hk.1.1, by rw [ho.size]; exact hk.2.2.1, hk.1.2⟩) (k34.M_bound h4))
theorem got_cells (h : Got w lo hi g x ds) : ds.length = 23 := k34.K_len h.k
end
section
variable {P : Program} {Q : Exit → Act → World → Prop} {ops : Array Oper} {o : Oper} {a : Act} {K : Act → World → Prop}
theorem box_value {W : World} {N : Option Tmp} (hw : Region.wanted o (yielded ops a.tmps) = true) (hN : o.dst = N) {cs : Array Value} {t : TypeId}
    (hrun : (execOp a.eval o).run P W = .ok (.value (.pointer (some ⟨W.heap.size, 0, none⟩))) (W.alloc (.cells cs t (0, 0))))
    (h : ∀ g, g = W.heap.size → ∀ w1, w1.heap[g]? = some (.cells cs t (0, 0)) → Below W.heap.size W w1 → K (a.put N (.pointer (some ⟨g, 0, none⟩))) w1) : if Region.wanted o (yielded ops a.tmps) = true then Oper.wp P o a W K Q else K (a.put N undef) W :=
  value_ hw hN hrun (h _ rfl _ (blk_new W _) (below_alloc (Below.refl _ _) _))
theorem empty_value {W : World} {N : Option Tmp} (hw : Region.wanted o (yielded ops a.tmps) = true) (hN : o.dst = N) {t : TypeId}
    (hrun : (execOp a.eval o).run P W = .ok (.value (.slice (some ⟨W.heap.size, 0, none⟩) 0 0)) (W.alloc (.cells #[] t (0, 0))))
    (h : ∀ g, g = W.heap.size → ∀ w1, w1.heap[g]? = some (.cells #[] t (0, 0)) → Below W.heap.size W w1 → K (a.put N (.slice (some ⟨g, 0, none⟩) 0 0)) w1) : if Region.wanted o (yielded ops a.tmps) = true then Oper.wp P o a W K Q else K (a.put N undef) W :=
  value_ hw hN hrun (h _ rfl _ (blk_new W _) (below_alloc (Below.refl _ _) _))
theorem path_value {W : World} {N : Option Tmp} {A : Option Addr} {path : List Int} {pc h : Nat} (hw : Region.wanted o (yielded ops a.tmps) = true) (hN : o.dst = N) {s x : Operand} {ty : TypeId} (hop : o.op = .call { callee := .builtin .append, args := #[s, x], argTypes := #[40, 40] }) (hty : o.type = ty)
    (hs : a.eval s = .slice (some ⟨h, 0, none⟩) 0 0) (hx : a.eval x = .slice A path.length pc)
    (hb : W.heap[h]? = some (.cells #[] 3 (0, 0))) (hr : Kd.C (Kd.int .i64) W A path.length path) (hl : path.length * 8 ≤ 140737488355328)
    (ht : P.underlying 40 = some (.slice 3)) (hinfo : (P.info? 3).map (fun i => (i.zero, i.size, i.bytes)) = some (some (.int .i64 0), 1, 8))
    (hk : ∀ A1 c1 w1, Kd.C (Kd.int .i64) w1 A1 path.length path → W.grownBy w1 (some h) → K (a.put N (.slice A1 path.length c1)) w1) : if Region.wanted o (yielded ops a.tmps) = true then Oper.wp P o a W K Q else K (a.put N undef) W := by
  obtain ⟨A1, c1, w1, hrun, hC, hg⟩ := app_path (pc := pc) hb hr hl ht hinfo ty
  refine value_ hw hN (w1 := w1) (v := .slice A1 path.length c1) ?_ (hk A1 c1 w1 hC hg)
  subst hty
  simp [execOp, hop, resolve, invoke, builtin, hs, hx, hrun, Result.andThen]
theorem grown_below {W w1 : World} {h B : Nat} (hg : W.grownBy w1 (some h)) (hB : B ≤ h) {u : World} (hb : Below B u W) (hs : B ≤ W.heap.size) : Below B u w1 :=
  ⟨hg.os.trans hb.os, hg.tape.trans hb.tape, hg.output.trans hb.output, Nat.le_trans hb.size hg.size, fun k hk => (hg.block k (Nat.lt_of_lt_of_le hk hs) (fun he => by injection he with he; omega)).trans (hb.block k hk)⟩
theorem stw_step {W : World} (hw : Region.wanted o (yielded ops a.tmps) = true) (hN : o.dst = none) {t : TypeId} {p v : Operand} (ho : o.op = .store t p v) {g : Nat} (hp : a.eval p = .pointer (some ⟨g, 0, none⟩)) {cs : List Value} (hv : a.eval v = .agg cs.toArray)
    {cur : Array Value} {ty : TypeId} (hb : W.heap[g]? = some (.cells cur ty (0, 0))) (hi : (P.info? t).map (fun i => i.size) = some cs.length) (hc : cur.size = cs.length) (h1 : ∀ x ∈ cs, x.oneCell' = true)
    (h : ∀ W1, W1.heap[g]? = some (.cells cs.toArray ty (0, 0)) → Other g W W1 → K (a.put o.dst undef) W1) : if Region.wanted o (yielded ops a.tmps) = true then Oper.wp P o a W K Q else K (a.put none undef) W :=
  st_step hw hN ho (j := 0) hp hv hb cs.length hi (by simp [Value.cells]) (by omega) (by simpa [Value.cells] using h1) cs.toArray (by simp [Value.cells, ← hc]) h
end
end Go.Proofs.Ytkfbkjcdngipcaa.PTreeEquals
end
section
namespace Go.Proofs.Ytkfbkjcdngipcaa.PTreeEquals
open Go.RowKit Go.Proofs.YtkfbkjcdngipcaaW.PrintWords Go.Proofs.YtkfbkjcdngipcaaW.PrintLast Go.Proofs.YtkfbkjcdngipcaaW.PrintMore
attribute [local go_sem] max2_int min2_int max_two min_two max_three min_three max_four min_four
set_option linter.unusedVariables false
set_option linter.unusedSimpArgs false
theorem same_found {a : S36} (hw : a.f5.wf) (path : List Int) (cs ds : List Value) (w : World) (h1 : k34.K w (foundC a path) cs) (h2 : k34.K w (foundC a path) ds) : Calls Try.prog 13 #[.agg cs.toArray, .agg ds.toArray] w fun e w' => e = .returned (.bool true) ∧ Below w.heap.size w w' := by
  have h := EqOK.calls (sameCon.all (foundC a path) (foundC a path) (foundC_wf hw path)) cs ds w h1 h2
  rwa [sm_self] at h
set_option maxHeartbeats 32000000 in
set_option maxRecDepth 100000 in
theorem TreeFinds.walk (cs0 : Array Value) (a : S36) (path : List Int) (P : Option Addr) (pc : Nat) (w : World) (hka : k36.K w a cs0.toList) (hwa : a.wf) (hpr : Kd.C (Kd.int .i64) w P path.length path) (hpl : path.length * 8 ≤ 140737488355328) (hpb : ∀ n ∈ path, n ≤ 9223372036854775807) :
    Calls Try.prog 4 #[.agg cs0, .slice P path.length pc] w fun e w' => e = .returned (.bool true) ∧ Below w.heap.size w w' := by
  obtain ⟨A2, A2c, A3, A3c, A4, A4c, A7, A7c, A8, A8c, e0, _⟩ := k36_open hka
  rw [e0] at hka
  have f0 : cs0 = #[.string a.f0, .int .i64 a.f1.f0, .int .i64 a.f1.f1, .int .i64 a.f1.f2, .slice A2 a.f2.length A2c, .slice A3 a.f3.length A3c, .slice A4 a.f4.length A4c, .int .i64 a.f5.f0, .string a.f5.f1, .string a.f5.f2, .string a.f5.f3, .int .i64 a.f5.f4, .int .i64 a.f5.f5.f0, .int .i64 a.f5.f5.f1, .int .i64 a.f5.f5.f2, .int .i64 a.f5.f6.f0, .int .i64 a.f5.f6.f1, .int .i64 a.f5.f6.f2, .int .i64 a.f5.f6.f3, .int .i64 a.f5.f6.f4.f0, .int .i64 a.f5.f6.f4.f1, .int .i64 a.f5.f6.f4.f2, .int .i64 a.f5.f6.f5.f0, .int .i64 a.f5.f6.f5.f1, .int .i64 a.f5.f6.f5.f2, .int .i64 a.f5.f6.f6.f0, .int .i64 a.f5.f6.f6.f1, .int .i64 a.f5.f6.f7, .slice A7 a.f5.f7.length A7c, .slice A8 a.f5.f8.length A8c] := by rw [← Array.toArray_toList (xs := cs0), e0]
  subst f0
  clear e0
  have hu36 := Try.underlying36
  have hu34 := Try.underlying34
  have HKA := Aside0.mk hka
  have HWA := Aside0.mk hwa
  have HPR := Aside0.mk hpr
  have HPL := Aside0.mk hpl
  have HPB := Aside0.mk hpb
  clear hka hwa hpr hpl hpb
  have HB := Aside0.mk (Below.refl w.heap.size w)
  go_enter Try.func4, Try.ntmps4
  go_upto_region 2 with (first | ((with_reducible refine gate_dst (N := 2) rfl ?_); (try (refine gate_guard (by rfl) ?_; dsimp only)); refine box_event ?hg (N := 2) ?hd (cs := #[.string a.f0, .int .i64 a.f1.f0, .int .i64 a.f1.f1, .int .i64 a.f1.f2, .slice A2 a.f2.length A2c, .slice A3 a.f3.length A3c, .slice A4 a.f4.length A4c, .int .i64 a.f5.f0, .string a.f5.f1, .string a.f5.f2, .string a.f5.f3, .int .i64 a.f5.f4, .int .i64 a.f5.f5.f0, .int .i64 a.f5.f5.f1, .int .i64 a.f5.f5.f2, .int .i64 a.f5.f6.f0, .int .i64 a.f5.f6.f1, .int .i64 a.f5.f6.f2, .int .i64 a.f5.f6.f3, .int .i64 a.f5.f6.f4.f0, .int .i64 a.f5.f6.f4.f1, .int .i64 a.f5.f6.f4.f2, .int .i64 a.f5.f6.f5.f0, .int .i64 a.f5.f6.f5.f1, .int .i64 a.f5.f6.f5.f2, .int .i64 a.f5.f6.f6.f0, .int .i64 a.f5.f6.f6.f1, .int .i64 a.f5.f6.f7, .slice A7 a.f5.f7.length A7c, .slice A8 a.f5.f8.length A8c]) (t := 36) ?hr ?_; (case hd => rfl); (case hg => rfl); (case hr => first | (go_simp; done) | (go_simp; rfl)); intro g1 hg wv1_ hbox hb; have n0_ := Aside0.mk (below_step HB.out hb); have n1_ := Aside0.mk (hbox); have n2_ := Aside0.mk ((show w.heap.size ≤ g1 by rw [hg]; exact below_size HB.out)); clear HB; have HB := n0_; have BK1 := n1_; have ORD := n2_; clear n0_ n1_ n2_; clear hb hbox hg) | ((with_reducible refine gate_dst (N := 19) rfl ?_); (try (refine gate_guard (by rfl) ?_; dsimp only)); refine ldb_event rfl rfl (by first | rfl | (go_simp; done) | (go_simp; rfl)) Try.underlying36 ⟨_, rfl⟩ BK1.out 30 size36' [.string a.f0, .int .i64 a.f1.f0, .int .i64 a.f1.f1, .int .i64 a.f1.f2, .slice A2 a.f2.length A2c, .slice A3 a.f3.length A3c, .slice A4 a.f4.length A4c, .int .i64 a.f5.f0, .string a.f5.f1, .string a.f5.f2, .string a.f5.f3, .int .i64 a.f5.f4, .int .i64 a.f5.f5.f0, .int .i64 a.f5.f5.f1, .int .i64 a.f5.f5.f2, .int .i64 a.f5.f6.f0, .int .i64 a.f5.f6.f1, .int .i64 a.f5.f6.f2, .int .i64 a.f5.f6.f3, .int .i64 a.f5.f6.f4.f0, .int .i64 a.f5.f6.f4.f1, .int .i64 a.f5.f6.f4.f2, .int .i64 a.f5.f6.f5.f0, .int .i64 a.f5.f6.f5.f1, .int .i64 a.f5.f6.f5.f2, .int .i64 a.f5.f6.f6.f0, .int .i64 a.f5.f6.f6.f1, .int .i64 a.f5.f6.f7, .slice A7 a.f5.f7.length A7c, .slice A8 a.f5.f8.length A8c] rfl rfl ?_) | ((with_reducible refine gate_callee (f := 5) rfl ?_); (try (refine gate_guard (by rfl) ?_; dsimp only)); refine goesL_ (some 20) rfl rfl Try.func5 (by kernel_rfl) rfl #[.agg #[.string a.f0, .int .i64 a.f1.f0, .int .i64 a.f1.f1, .int .i64 a.f1.f2, .slice A2 a.f2.length A2c, .slice A3 a.f3.length A3c, .slice A4 a.f4.length A4c, .int .i64 a.f5.f0, .string a.f5.f1, .string a.f5.f2, .string a.f5.f3, .int .i64 a.f5.f4, .int .i64 a.f5.f5.f0, .int .i64 a.f5.f5.f1, .int .i64 a.f5.f5.f2, .int .i64 a.f5.f6.f0, .int .i64 a.f5.f6.f1, .int .i64 a.f5.f6.f2, .int .i64 a.f5.f6.f3, .int .i64 a.f5.f6.f4.f0, .int .i64 a.f5.f6.f4.f1, .int .i64 a.f5.f6.f4.f2, .int .i64 a.f5.f6.f5.f0, .int .i64 a.f5.f6.f5.f1, .int .i64 a.f5.f6.f5.f2, .int .i64 a.f5.f6.f6.f0, .int .i64 a.f5.f6.f6.f1, .int .i64 a.f5.f6.f7, .slice A7 a.f5.f7.length A7c, .slice A8 a.f5.f8.length A8c]] rfl (by (try simp only [List.map_toArray, List.map_cons, List.map_nil]); first | done | rfl) ?_; (with_reducible refine (beyond_any a [.string a.f0, .int .i64 a.f1.f0, .int .i64 a.f1.f1, .int .i64 a.f1.f2, .slice A2 a.f2.length A2c, .slice A3 a.f3.length A3c, .slice A4 a.f4.length A4c, .int .i64 a.f5.f0, .string a.f5.f1, .string a.f5.f2, .string a.f5.f3, .int .i64 a.f5.f4, .int .i64 a.f5.f5.f0, .int .i64 a.f5.f5.f1, .int .i64 a.f5.f5.f2, .int .i64 a.f5.f6.f0, .int .i64 a.f5.f6.f1, .int .i64 a.f5.f6.f2, .int .i64 a.f5.f6.f3, .int .i64 a.f5.f6.f4.f0, .int .i64 a.f5.f6.f4.f1, .int .i64 a.f5.f6.f4.f2, .int .i64 a.f5.f6.f5.f0, .int .i64 a.f5.f6.f5.f1, .int .i64 a.f5.f6.f5.f2, .int .i64 a.f5.f6.f6.f0, .int .i64 a.f5.f6.f6.f1, .int .i64 a.f5.f6.f7, .slice A7 a.f5.f7.length A7c, .slice A8 a.f5.f8.length A8c] _ (k36.K_below HB.out HKA.out)).mono ?_); rintro e wv2_ ⟨⟨r1_, rfl⟩, hb⟩; refine ⟨_, rfl, ?_⟩; have n0_ := Aside0.mk (below_step HB.out hb); have n1_ := Aside0.mk (blk_below BK1.out hb); clear HB BK1; have HB := n0_; have BK1 := n1_; clear n0_ n1_; clear hb))
  cases r1_ with
  | true =>
    go_wp2
    go_ret
    exact ⟨rfl, HB.out⟩
  | false =>
  go_upto_region 6 with (first | ((with_reducible refine gate_dst (N := 22) rfl ?_); (try (refine gate_guard (by rfl) ?_; dsimp only)); refine ldb_event rfl rfl (by first | rfl | (go_simp; done) | (go_simp; rfl)) Try.underlying36 ⟨_, rfl⟩ BK1.out 30 size36' [.string a.f0, .int .i64 a.f1.f0, .int .i64 a.f1.f1, .int .i64 a.f1.f2, .slice A2 a.f2.length A2c, .slice A3 a.f3.length A3c, .slice A4 a.f4.length A4c, .int .i64 a.f5.f0, .string a.f5.f1, .string a.f5.f2, .string a.f5.f3, .int .i64 a.f5.f4, .int .i64 a.f5.f5.f0, .int .i64 a.f5.f5.f1, .int .i64 a.f5.f5.f2, .int .i64 a.f5.f6.f0, .int .i64 a.f5.f6.f1, .int .i64 a.f5.f6.f2, .int .i64 a.f5.f6.f3, .int .i64 a.f5.f6.f4.f0, .int .i64 a.f5.f6.f4.f1, .int .i64 a.f5.f6.f4.f2, .int .i64 a.f5.f6.f5.f0, .int .i64 a.f5.f6.f5.f1, .int .i64 a.f5.f6.f5.f2, .int .i64 a.f5.f6.f6.f0, .int .i64 a.f5.f6.f6.f1, .int .i64 a.f5.f6.f7, .slice A7 a.f5.f7.length A7c, .slice A8 a.f5.f8.length A8c] rfl rfl ?_) | ((with_reducible refine gate_callee (f := 6) rfl ?_); (try (refine gate_guard (by rfl) ?_; dsimp only)); refine goesL_ (some 23) rfl rfl Try.func6 (by kernel_rfl) rfl #[.agg #[.string a.f0, .int .i64 a.f1.f0, .int .i64 a.f1.f1, .int .i64 a.f1.f2, .slice A2 a.f2.length A2c, .slice A3 a.f3.length A3c, .slice A4 a.f4.length A4c, .int .i64 a.f5.f0, .string a.f5.f1, .string a.f5.f2, .string a.f5.f3, .int .i64 a.f5.f4, .int .i64 a.f5.f5.f0, .int .i64 a.f5.f5.f1, .int .i64 a.f5.f5.f2, .int .i64 a.f5.f6.f0, .int .i64 a.f5.f6.f1, .int .i64 a.f5.f6.f2, .int .i64 a.f5.f6.f3, .int .i64 a.f5.f6.f4.f0, .int .i64 a.f5.f6.f4.f1, .int .i64 a.f5.f6.f4.f2, .int .i64 a.f5.f6.f5.f0, .int .i64 a.f5.f6.f5.f1, .int .i64 a.f5.f6.f5.f2, .int .i64 a.f5.f6.f6.f0, .int .i64 a.f5.f6.f6.f1, .int .i64 a.f5.f6.f7, .slice A7 a.f5.f7.length A7c, .slice A8 a.f5.f8.length A8c]] rfl (by (try simp only [List.map_toArray, List.map_cons, List.map_nil]); first | done | rfl) ?_; (with_reducible refine (dealCopy a HWA.out [.string a.f0, .int .i64 a.f1.f0, .int .i64 a.f1.f1, .int .i64 a.f1.f2, .slice A2 a.f2.length A2c, .slice A3 a.f3.length A3c, .slice A4 a.f4.length A4c, .int .i64 a.f5.f0, .string a.f5.f1, .string a.f5.f2, .string a.f5.f3, .int .i64 a.f5.f4, .int .i64 a.f5.f5.f0, .int .i64 a.f5.f5.f1, .int .i64 a.f5.f5.f2, .int .i64 a.f5.f6.f0, .int .i64 a.f5.f6.f1, .int .i64 a.f5.f6.f2, .int .i64 a.f5.f6.f3, .int .i64 a.f5.f6.f4.f0, .int .i64 a.f5.f6.f4.f1, .int .i64 a.f5.f6.f4.f2, .int .i64 a.f5.f6.f5.f0, .int .i64 a.f5.f6.f5.f1, .int .i64 a.f5.f6.f5.f2, .int .i64 a.f5.f6.f6.f0, .int .i64 a.f5.f6.f6.f1, .int .i64 a.f5.f6.f7, .slice A7 a.f5.f7.length A7c, .slice A8 a.f5.f8.length A8c] _ (k36.K_below HB.out HKA.out)).mono ?_); rintro e wv3_ ⟨X2, X2c, X3, X3c, X4, X4c, X7, X7c, X8, X8c, rfl, hD, hb⟩; refine ⟨_, rfl, ?_⟩; have n0_ := Aside0.mk (below_step HB.out hb); have n1_ := Aside0.mk (blk_below BK1.out hb); have n2_ := Aside0.mk (hD); have n3_ := Aside0.mk (Below.refl wv3_.heap.size wv3_); clear HB BK1; have HB := n0_; have BK1 := n1_; have DX := n2_; have HBX := n3_; clear n0_ n1_ n2_ n3_; clear hb hD) | ((with_reducible refine gate_dst (N := 6) rfl ?_); (try (refine gate_guard (by rfl) ?_; dsimp only)); refine box_event ?hg (N := 6) ?hd (cs := #[.string ⟨#[]⟩, .int .i64 0, .int .i64 0, .int .i64 0, .slice none 0 0, .slice none 0 0, .slice none 0 0, .int .i64 0, .string ⟨#[]⟩, .string ⟨#[]⟩, .string ⟨#[]⟩, .int .i64 0, .int .i64 0, .int .i64 0, .int .i64 0, .int .i64 0, .int .i64 0, .int .i64 0, .int .i64 0, .int .i64 0, .int .i64 0, .int .i64 0, .int .i64 0, .int .i64 0, .int .i64 0, .int .i64 0, .int .i64 0, .int .i64 0, .slice none 0 0, .slice none 0 0]) (t := 36) ?hr ?_; (case hd => rfl); (case hg => rfl); (case hr => first | (go_simp; done) | (go_simp; rfl)); intro g2 hg wv4_ hbox hb; have n0_ := Aside0.mk (below_step HB.out hb); have n1_ := Aside0.mk (blk_below BK1.out hb); have n2_ := Aside0.mk (below_step HBX.out hb); have n3_ := Aside0.mk (hbox); have n4_ := Aside0.mk (And.intro ORD.out (show g1 < g2 ∧ wv3_.heap.size ≤ g2 from ⟨by rw [hg]; exact blk_lt BK1.out, by rw [hg]; exact below_size HBX.out⟩)); clear HB BK1 HBX ORD; have HB := n0_; have BK1 := n1_; have HBX := n2_; have BK2 := n3_; have ORD := n4_; clear n0_ n1_ n2_ n3_ n4_; clear hb hbox hg) | ((with_reducible refine gate_store (t := 36) (p := 6) rfl ?_); refine st_event rfl rfl rfl (g := g2) (j := 0) (by first | rfl | (go_simp; done) | (go_simp; rfl)) (u := .agg #[.string a.f0, .int .i64 a.f1.f0, .int .i64 a.f1.f1, .int .i64 a.f1.f2, .slice X2 a.f2.length X2c, .slice X3 a.f3.length X3c, .slice X4 a.f4.length X4c, .int .i64 a.f5.f0, .string a.f5.f1, .string a.f5.f2, .string a.f5.f3, .int .i64 a.f5.f4, .int .i64 a.f5.f5.f0, .int .i64 a.f5.f5.f1, .int .i64 a.f5.f5.f2, .int .i64 a.f5.f6.f0, .int .i64 a.f5.f6.f1, .int .i64 a.f5.f6.f2, .int .i64 a.f5.f6.f3, .int .i64 a.f5.f6.f4.f0, .int .i64 a.f5.f6.f4.f1, .int .i64 a.f5.f6.f4.f2, .int .i64 a.f5.f6.f5.f0, .int .i64 a.f5.f6.f5.f1, .int .i64 a.f5.f6.f5.f2, .int .i64 a.f5.f6.f6.f0, .int .i64 a.f5.f6.f6.f1, .int .i64 a.f5.f6.f7, .slice X7 a.f5.f7.length X7c, .slice X8 a.f5.f8.length X8c]) (by first | rfl | (go_simp; done) | (go_simp; rfl)) BK2.out 30 size36' rfl (by simp) (by intro x hx; simp [Value.cells] at hx; rcases hx with rfl | rfl | rfl | rfl | rfl | rfl | rfl | rfl | rfl | rfl | rfl | rfl | rfl | rfl | rfl | rfl | rfl | rfl | rfl | rfl | rfl | rfl | rfl | rfl | rfl | rfl | rfl | rfl | rfl | rfl <;> rfl) #[.string a.f0, .int .i64 a.f1.f0, .int .i64 a.f1.f1, .int .i64 a.f1.f2, .slice X2 a.f2.length X2c, .slice X3 a.f3.length X3c, .slice X4 a.f4.length X4c, .int .i64 a.f5.f0, .string a.f5.f1, .string a.f5.f2, .string a.f5.f3, .int .i64 a.f5.f4, .int .i64 a.f5.f5.f0, .int .i64 a.f5.f5.f1, .int .i64 a.f5.f5.f2, .int .i64 a.f5.f6.f0, .int .i64 a.f5.f6.f1, .int .i64 a.f5.f6.f2, .int .i64 a.f5.f6.f3, .int .i64 a.f5.f6.f4.f0, .int .i64 a.f5.f6.f4.f1, .int .i64 a.f5.f6.f4.f2, .int .i64 a.f5.f6.f5.f0, .int .i64 a.f5.f6.f5.f1, .int .i64 a.f5.f6.f5.f2, .int .i64 a.f5.f6.f6.f0, .int .i64 a.f5.f6.f6.f1, .int .i64 a.f5.f6.f7, .slice X7 a.f5.f7.length X7c, .slice X8 a.f5.f8.length X8c] rfl ?_; intro wv5_ hbk ho; have n0_ := Aside0.mk (Other.below ho HB.out (by have := ORD.out; omega)); have n1_ := Aside0.mk (Other.blk ho BK1.out (by have := ORD.out; omega)); have n2_ := Aside0.mk (hbk); have n3_ := Aside0.mk (Other.below ho HBX.out (by have := ORD.out; omega)); clear HB BK1 BK2 HBX; have HB := n0_; have BK1 := n1_; have BK2 := n2_; have HBX := n3_; clear n0_ n1_ n2_ n3_; clear hbk ho) | ((with_reducible refine gate_dst (N := 25) rfl ?_); (try (refine gate_guard (by rfl) ?_; dsimp only)); refine ldb_event rfl rfl (by first | rfl | (go_simp; done) | (go_simp; rfl)) Try.underlying36 ⟨_, rfl⟩ BK1.out 30 size36' [.string a.f0, .int .i64 a.f1.f0, .int .i64 a.f1.f1, .int .i64 a.f1.f2, .slice A2 a.f2.length A2c, .slice A3 a.f3.length A3c, .slice A4 a.f4.length A4c, .int .i64 a.f5.f0, .string a.f5.f1, .string a.f5.f2, .string a.f5.f3, .int .i64 a.f5.f4, .int .i64 a.f5.f5.f0, .int .i64 a.f5.f5.f1, .int .i64 a.f5.f5.f2, .int .i64 a.f5.f6.f0, .int .i64 a.f5.f6.f1, .int .i64 a.f5.f6.f2, .int .i64 a.f5.f6.f3, .int .i64 a.f5.f6.f4.f0, .int .i64 a.f5.f6.f4.f1, .int .i64 a.f5.f6.f4.f2, .int .i64 a.f5.f6.f5.f0, .int .i64 a.f5.f6.f5.f1, .int .i64 a.f5.f6.f5.f2, .int .i64 a.f5.f6.f6.f0, .int .i64 a.f5.f6.f6.f1, .int .i64 a.f5.f6.f7, .slice A7 a.f5.f7.length A7c, .slice A8 a.f5.f8.length A8c] rfl rfl ?_) | ((with_reducible refine gate_callee (f := 10) rfl ?_); (try (refine gate_guard (by rfl) ?_; dsimp only)); refine goesL_ (some 27) rfl rfl Try.func10 (by kernel_rfl) rfl #[.agg #[.string a.f0, .int .i64 a.f1.f0, .int .i64 a.f1.f1, .int .i64 a.f1.f2, .slice A2 a.f2.length A2c, .slice A3 a.f3.length A3c, .slice A4 a.f4.length A4c, .int .i64 a.f5.f0, .string a.f5.f1, .string a.f5.f2, .string a.f5.f3, .int .i64 a.f5.f4, .int .i64 a.f5.f5.f0, .int .i64 a.f5.f5.f1, .int .i64 a.f5.f5.f2, .int .i64 a.f5.f6.f0, .int .i64 a.f5.f6.f1, .int .i64 a.f5.f6.f2, .int .i64 a.f5.f6.f3, .int .i64 a.f5.f6.f4.f0, .int .i64 a.f5.f6.f4.f1, .int .i64 a.f5.f6.f4.f2, .int .i64 a.f5.f6.f5.f0, .int .i64 a.f5.f6.f5.f1, .int .i64 a.f5.f6.f5.f2, .int .i64 a.f5.f6.f6.f0, .int .i64 a.f5.f6.f6.f1, .int .i64 a.f5.f6.f7, .slice A7 a.f5.f7.length A7c, .slice A8 a.f5.f8.length A8c], .slice P path.length pc] rfl (by (try simp only [List.map_toArray, List.map_cons, List.map_nil]); first | done | rfl) ?_; (with_reducible refine (refAt.uni a [.string a.f0, .int .i64 a.f1.f0, .int .i64 a.f1.f1, .int .i64 a.f1.f2, .slice A2 a.f2.length A2c, .slice A3 a.f3.length A3c, .slice A4 a.f4.length A4c, .int .i64 a.f5.f0, .string a.f5.f1, .string a.f5.f2, .string a.f5.f3, .int .i64 a.f5.f4, .int .i64 a.f5.f5.f0, .int .i64 a.f5.f5.f1, .int .i64 a.f5.f5.f2, .int .i64 a.f5.f6.f0, .int .i64 a.f5.f6.f1, .int .i64 a.f5.f6.f2, .int .i64 a.f5.f6.f3, .int .i64 a.f5.f6.f4.f0, .int .i64 a.f5.f6.f4.f1, .int .i64 a.f5.f6.f4.f2, .int .i64 a.f5.f6.f5.f0, .int .i64 a.f5.f6.f5.f1, .int .i64 a.f5.f6.f5.f2, .int .i64 a.f5.f6.f6.f0, .int .i64 a.f5.f6.f6.f1, .int .i64 a.f5.f6.f7, .slice A7 a.f5.f7.length A7c, .slice A8 a.f5.f8.length A8c] path P pc _ (k36.K_below HB.out HKA.out) (Kd.C_below HPR.out HB.out) HPB.out).mono ?_); rintro e wv6_ ⟨ds_, rfl, hK, hb⟩; refine ⟨_, rfl, ?_⟩; have n0_ := Aside0.mk (below_step HB.out hb); have n1_ := Aside0.mk (blk_below BK1.out hb); have n2_ := Aside0.mk (blk_below BK2.out hb); have n3_ := Aside0.mk (below_step HBX.out hb); have n4_ := Aside0.mk (hK); have n5_ := Aside0.mk ((show (Try.prog.info? 34).map (fun i => i.size) = some ds_.length by rw [k34_len hK]; exact size34)); have n6_ := Aside0.mk (k34_len hK); have n7_ := Aside0.mk (k34.K_one hK); have n8_ := Aside0.mk (Below.refl wv6_.heap.size wv6_); clear HB BK1 BK2 HBX; have HB := n0_; have BK1 := n1_; have BK2 := n2_; have HBX := n3_; have HKC := n4_; have SZC := n5_; have LNC := n6_; have ONEC := n7_; have HBC := n8_; clear n0_ n1_ n2_ n3_ n4_ n5_ n6_ n7_ n8_; clear hb hK) | ((with_reducible refine gate_dst (N := 7) rfl ?_); (try (refine gate_guard (by rfl) ?_; dsimp only)); refine box_event ?hg (N := 7) ?hd (cs := #[.int .i64 0, .string ⟨#[]⟩, .string ⟨#[]⟩, .string ⟨#[]⟩, .int .i64 0, .int .i64 0, .int .i64 0, .int .i64 0, .int .i64 0, .int .i64 0, .int .i64 0, .int .i64 0, .int .i64 0, .int .i64 0, .int .i64 0, .int .i64 0, .int .i64 0, .int .i64 0, .int .i64 0, .int .i64 0, .int .i64 0, .slice none 0 0, .slice none 0 0]) (t := 34) ?hr ?_; (case hd => rfl); (case hg => rfl); (case hr => first | (go_simp; done) | (go_simp; rfl)); intro g3 hg wv7_ hbox hb; have n0_ := Aside0.mk (below_step HB.out hb); have n1_ := Aside0.mk (blk_below BK1.out hb); have n2_ := Aside0.mk (blk_below BK2.out hb); have n3_ := Aside0.mk (below_step HBX.out hb); have n4_ := Aside0.mk (below_step HBC.out hb); have n5_ := Aside0.mk (hbox); have n6_ := Aside0.mk (And.intro ORD.out (show g2 < g3 ∧ wv3_.heap.size ≤ g3 ∧ wv6_.heap.size ≤ g3 from ⟨by rw [hg]; exact blk_lt BK2.out, by rw [hg]; exact below_size HBX.out, by rw [hg]; exact below_size HBC.out⟩)); clear HB BK1 BK2 HBX HBC ORD; have HB := n0_; have BK1 := n1_; have BK2 := n2_; have HBX := n3_; have HBC := n4_; have BK3 := n5_; have ORD := n6_; clear n0_ n1_ n2_ n3_ n4_ n5_ n6_; clear hb hbox hg) | ((with_reducible refine gate_store (t := 34) (p := 7) rfl ?_); refine stw_event rfl rfl rfl (g := g3) (by first | rfl | (go_simp; done) | (go_simp; rfl)) (cs := ds_) (by first | rfl | (go_simp; done) | (go_simp; rfl)) BK3.out (SZC.out) (by rw [LNC.out]; rfl) (ONEC.out) ?_; intro wv8_ hbk ho; have n0_ := Aside0.mk (Other.below ho HB.out (by have := ORD.out; omega)); have n1_ := Aside0.mk (Other.blk ho BK1.out (by have := ORD.out; omega)); have n2_ := Aside0.mk (Other.blk ho BK2.out (by have := ORD.out; omega)); have n3_ := Aside0.mk (hbk); have n4_ := Aside0.mk (Other.below ho HBX.out (by have := ORD.out; omega)); have n5_ := Aside0.mk (Other.below ho HBC.out (by have := ORD.out; omega)); clear HB BK1 BK2 BK3 HBX HBC; have HB := n0_; have BK1 := n1_; have BK2 := n2_; have BK3 := n3_; have HBX := n4_; have HBC := n5_; clear n0_ n1_ n2_ n3_ n4_ n5_; clear hbk ho))
  have H0 := Aside0.mk (Below.refl wv8_.heap.size wv8_)
  have DXK := Aside0.mk (DealB.below DX.out HBX.out).kk
  refine start_ (n := 11) (S := fun w' => w'.heap[g2]? = some (.cells #[.string a.f0, .int .i64 a.f1.f0, .int .i64 a.f1.f1, .int .i64 a.f1.f2, .slice X2 a.f2.length X2c, .slice X3 a.f3.length X3c, .slice X4 a.f4.length X4c, .int .i64 a.f5.f0, .string a.f5.f1, .string a.f5.f2, .string a.f5.f3, .int .i64 a.f5.f4, .int .i64 a.f5.f5.f0, .int .i64 a.f5.f5.f1, .int .i64 a.f5.f5.f2, .int .i64 a.f5.f6.f0, .int .i64 a.f5.f6.f1, .int .i64 a.f5.f6.f2, .int .i64 a.f5.f6.f3, .int .i64 a.f5.f6.f4.f0, .int .i64 a.f5.f6.f4.f1, .int .i64 a.f5.f6.f4.f2, .int .i64 a.f5.f6.f5.f0, .int .i64 a.f5.f6.f5.f1, .int .i64 a.f5.f6.f5.f2, .int .i64 a.f5.f6.f6.f0, .int .i64 a.f5.f6.f6.f1, .int .i64 a.f5.f6.f7, .slice X7 a.f5.f7.length X7c, .slice X8 a.f5.f8.length X8c] 36 (0, 0))) (ds := [9, 10]) #[false, false, false, false, false, false, false, false, false, false, false] (by kernel_rfl) rfl rfl (blk_below BK2.out (below_drew1 H0.out)) (fun hHeld => ?_)
  have HD := Aside0.mk (below_drew1 H0.out)
  have HE := Aside0.mk (below_drew1 (Below.refl wv8_.heap.size wv8_))
  generalize wv8_.drew = w6a at hHeld HD HE ⊢
  refine take_ (i := 0) (N := some 31) (v := ?_) (a' := ?_) #[true, false, false, false, false, false, false, false, false, false, false] rfl rfl (by kernel_rfl) (fun _ _ _ h => h) (Or.inl ⟨by rfl, ?_⟩) hHeld ?_ ?_
  rotate_left
  · rintro w' s2
    refine Eq.trans (ldb_run rfl (by first | rfl | (go_simp; done) | (go_simp; rfl)) Try.underlying36 ⟨_, rfl⟩ s2 30 size36' [.string a.f0, .int .i64 a.f1.f0, .int .i64 a.f1.f1, .int .i64 a.f1.f2, .slice X2 a.f2.length X2c, .slice X3 a.f3.length X3c, .slice X4 a.f4.length X4c, .int .i64 a.f5.f0, .string a.f5.f1, .string a.f5.f2, .string a.f5.f3, .int .i64 a.f5.f4, .int .i64 a.f5.f5.f0, .int .i64 a.f5.f5.f1, .int .i64 a.f5.f5.f2, .int .i64 a.f5.f6.f0, .int .i64 a.f5.f6.f1, .int .i64 a.f5.f6.f2, .int .i64 a.f5.f6.f3, .int .i64 a.f5.f6.f4.f0, .int .i64 a.f5.f6.f4.f1, .int .i64 a.f5.f6.f4.f2, .int .i64 a.f5.f6.f5.f0, .int .i64 a.f5.f6.f5.f1, .int .i64 a.f5.f6.f5.f2, .int .i64 a.f5.f6.f6.f0, .int .i64 a.f5.f6.f6.f1, .int .i64 a.f5.f6.f7, .slice X7 a.f5.f7.length X7c, .slice X8 a.f5.f8.length X8c] rfl rfl) ?_
    with_reducible rfl
  rotate_left
  · simp only [Act.put, List.setIfInBounds_toArray, List.set_cons_zero, List.set_cons_succ, i64_w, i32_w]
    rfl
  refine pure_ (i := 2) (N := some 33) (v := ?_) (a' := ?_) #[true, false, true, false, false, false, false, false, false, false, false] rfl rfl (by kernel_rfl) (fun _ _ _ h => h) (Or.inl ⟨by rfl, ?_⟩) ?_ ?_
  rotate_left
  · intro w'
    go_simp
    with_reducible rfl
  rotate_left
  · simp only [Act.put, List.setIfInBounds_toArray, List.set_cons_zero, List.set_cons_succ, i64_w, i32_w]
    rfl
  refine join_ (σ := Nat × Option Addr × Nat × List Value × Nat) 2 #[true, true, true, true, true, true, true, true, true, false, false] (fun s => [(32, .slice (some ⟨s.1, 0, none⟩) 0 0), (34, .slice s.2.1 path.length s.2.2.1), (35, .tuple #[.agg s.2.2.2.1.toArray, .int .i64 (foundE a path)]), (30, .tuple #[.agg s.2.2.2.1.toArray, .int .i64 (foundE a path)]), (36, .agg s.2.2.2.1.toArray), (37, .int .i64 (foundE a path)), (9, .pointer (some ⟨s.2.2.2.2, 0, none⟩))]) (fun s w' => Mid w6a (foundC a path) s.2.2.2.2 s.2.2.2.1 w') ?hcont6 ?hord6
  case hord6 =>
    intro hjoin
    have HM := Aside0.mk (Below.refl w6a.heap.size w6a)
    have HW := Aside0.mk hHeld
    refine two_ (i := 1) (j := 8) (Ni := some 32) (Nj := some 9) #[true, true, true, false, false, false, false, false, false, false, false] #[true, false, true, false, false, false, false, false, true, false, false] rfl rfl rfl rfl (by kernel_rfl) (by decide) (by decide) (fun K hK => ?_) (fun K hK => ?_)
    · refine empty_value (t := 3) (by rfl) rfl (by go_simp) ?_
      intro gb hgb w6a1 hbb hb
      have HGB := Aside0.mk (show w6a.heap.size ≤ gb by rw [hgb]; exact HM.out.size)
      have HMn := Aside0.mk (below_step HM.out hb)
      clear HM
      have HM := HMn
      clear HMn
      have HBB := Aside0.mk hbb
      clear hbb hb
      refine hK.out _ _ (blk_below HW.out HM.out) (fun _ => ?_)
      clear hK K
      refine norm_ (a' := ?_) ?_ ?_
      rotate_left
      · show Act.put _ (some 32) _ = _
        simp only [Act.put, List.setIfInBounds_toArray, List.set_cons_zero, List.set_cons_succ, i64_w, i32_w]
        rfl
      refine two_ (i := 3) (j := 8) (Ni := some 34) (Nj := some 9) #[true, true, true, true, false, false, false, false, false, false, false] #[true, true, true, false, false, false, false, false, true, false, false] rfl rfl rfl rfl (by kernel_rfl) (by decide) (by decide) (fun K hK => ?_) (fun K hK => ?_)
      · refine path_value (P := Try.prog) (path := path) (A := P) (pc := pc) (h := gb) (by rfl) rfl rfl rfl (by first | rfl | (go_simp; done) | (go_simp; rfl)) (by first | rfl | (go_simp; done) | (go_simp; rfl)) HBB.out (Kd.C_below (Kd.C_below HPR.out HB.out) (below_step HD.out HM.out)) HPL.out Try.underlying40 (by kernel_rfl) ?_
        intro Q6 q6 w6a1x hC hg
        have HMn := Aside0.mk (grown_below hg HGB.out HM.out HM.out.size)
        clear HM
        have HM := HMn
        clear HMn
        have HPC := Aside0.mk hC
        clear hC hg
        refine hK.out _ _ (blk_below HW.out HM.out) (fun _ => ?_)
        clear hK K
        refine norm_ (a' := ?_) ?_ ?_
        rotate_left
        · show Act.put _ (some 34) _ = _
          simp only [Act.put, List.setIfInBounds_toArray, List.set_cons_zero, List.set_cons_succ, i64_w, i32_w]
          rfl
        refine two_ (i := 4) (j := 8) (Ni := some 35) (Nj := some 9) #[true, true, true, true, true, false, false, false, false, false, false] #[true, true, true, true, false, false, false, false, true, false, false] rfl rfl rfl rfl (by kernel_rfl) (by decide) (by decide) (fun K hK => ?_) (fun K hK => ?_)
        · refine goes_ Try.func11 (by kernel_rfl) rfl #[.agg #[.string a.f0, .int .i64 a.f1.f0, .int .i64 a.f1.f1, .int .i64 a.f1.f2, .slice X2 a.f2.length X2c, .slice X3 a.f3.length X3c, .slice X4 a.f4.length X4c, .int .i64 a.f5.f0, .string a.f5.f1, .string a.f5.f2, .string a.f5.f3, .int .i64 a.f5.f4, .int .i64 a.f5.f5.f0, .int .i64 a.f5.f5.f1, .int .i64 a.f5.f5.f2, .int .i64 a.f5.f6.f0, .int .i64 a.f5.f6.f1, .int .i64 a.f5.f6.f2, .int .i64 a.f5.f6.f3, .int .i64 a.f5.f6.f4.f0, .int .i64 a.f5.f6.f4.f1, .int .i64 a.f5.f6.f4.f2, .int .i64 a.f5.f6.f5.f0, .int .i64 a.f5.f6.f5.f1, .int .i64 a.f5.f6.f5.f2, .int .i64 a.f5.f6.f6.f0, .int .i64 a.f5.f6.f6.f1, .int .i64 a.f5.f6.f7, .slice X7 a.f5.f7.length X7c, .slice X8 a.f5.f8.length X8c], .slice Q6 path.length q6] (by rfl) rfl rfl (by (try simp only [List.map_toArray, List.map_cons, List.map_nil]); first | done | rfl) ?_
          with_reducible refine (treeAt.uni a [.string a.f0, .int .i64 a.f1.f0, .int .i64 a.f1.f1, .int .i64 a.f1.f2, .slice X2 a.f2.length X2c, .slice X3 a.f3.length X3c, .slice X4 a.f4.length X4c, .int .i64 a.f5.f0, .string a.f5.f1, .string a.f5.f2, .string a.f5.f3, .int .i64 a.f5.f4, .int .i64 a.f5.f5.f0, .int .i64 a.f5.f5.f1, .int .i64 a.f5.f5.f2, .int .i64 a.f5.f6.f0, .int .i64 a.f5.f6.f1, .int .i64 a.f5.f6.f2, .int .i64 a.f5.f6.f3, .int .i64 a.f5.f6.f4.f0, .int .i64 a.f5.f6.f4.f1, .int .i64 a.f5.f6.f4.f2, .int .i64 a.f5.f6.f5.f0, .int .i64 a.f5.f6.f5.f1, .int .i64 a.f5.f6.f5.f2, .int .i64 a.f5.f6.f6.f0, .int .i64 a.f5.f6.f6.f1, .int .i64 a.f5.f6.f7, .slice X7 a.f5.f7.length X7c, .slice X8 a.f5.f8.length X8c] path Q6 q6 _ (k36.K_below (below_step HD.out HM.out) DXK.out) HPC.out HPB.out HWA.out.w5).mono ?_
          rintro e w6a1xx ⟨ds6, rfl, hF, hb⟩
          refine ⟨_, rfl, ?_⟩
          have HFr := Aside0.mk hF
          have HCb := Aside0.mk hb
          have HMc := Aside0.mk HM.out
          have HMn := Aside0.mk (below_step HM.out hb)
          clear HM
          have HM := HMn
          clear HMn
          clear hF hb
          refine hK.out _ _ (blk_below HW.out HM.out) (fun _ => ?_)
          clear hK K
          refine norm_ (a' := ?_) ?_ ?_
          rotate_left
          · show Act.put _ (some 35) _ = _
            simp only [Act.put, List.setIfInBounds_toArray, List.set_cons_zero, List.set_cons_succ, i64_w, i32_w]
            rfl
          refine pure_ (i := 5) (N := some 30) (v := ?_) (a' := ?_) #[true, true, true, true, true, true, false, false, false, false, false] rfl rfl (by kernel_rfl) (fun _ _ _ h => h) (Or.inl ⟨by rfl, ?_⟩) ?_ ?_
          rotate_left
          · intro w'
            go_simp
            with_reducible rfl
          rotate_left
          · simp only [Act.put, List.setIfInBounds_toArray, List.set_cons_zero, List.set_cons_succ, i64_w, i32_w]
            rfl
          refine pure_ (i := 6) (N := some 36) (v := ?_) (a' := ?_) #[true, true, true, true, true, true, true, false, false, false, false] rfl rfl (by kernel_rfl) (fun _ _ _ h => h) (Or.inl ⟨by rfl, ?_⟩) ?_ ?_
          rotate_left
          · intro w'
            go_simp
            with_reducible rfl
          rotate_left
          · simp only [Act.put, List.setIfInBounds_toArray, List.set_cons_zero, List.set_cons_succ, i64_w, i32_w]
            rfl
          refine pure_ (i := 7) (N := some 37) (v := ?_) (a' := ?_) #[true, true, true, true, true, true, true, true, false, false, false] rfl rfl (by kernel_rfl) (fun _ _ _ h => h) (Or.inl ⟨by rfl, ?_⟩) ?_ ?_
          rotate_left
          · intro w'
            go_simp
            with_reducible rfl
          rotate_left
          · simp only [Act.put, List.setIfInBounds_toArray, List.set_cons_zero, List.set_cons_succ, i64_w, i32_w]
            rfl
          refine one_ (i := 8) (N := some 9) #[true, true, true, true, true, true, true, true, true, false, false] rfl rfl (by kernel_rfl) (by decide) (fun K hK => ?_)
          refine box_value (t := 34) (cs := #[.int .i64 0, .string ⟨#[]⟩, .string ⟨#[]⟩, .string ⟨#[]⟩, .int .i64 0, .int .i64 0, .int .i64 0, .int .i64 0, .int .i64 0, .int .i64 0, .int .i64 0, .int .i64 0, .int .i64 0, .int .i64 0, .int .i64 0, .int .i64 0, .int .i64 0, .int .i64 0, .int .i64 0, .int .i64 0, .int .i64 0, .slice none 0 0, .slice none 0 0]) (by rfl) rfl (by first | (go_simp; done) | (go_simp; rfl)) ?_
          intro g6 hgx w6a1xxx hbx hb
          have HGX := Aside0.mk (show w6a.heap.size ≤ g6 by rw [hgx]; exact HM.out.size)
          have HMID := Aside0.mk (mid_behind HMc.out HFr.out HCb.out hgx hbx hb)
          have HMn := Aside0.mk (below_step HM.out hb)
          clear HM
          have HM := HMn
          clear HMn
          have HX := Aside0.mk hbx
          clear hbx hb
          refine hK.out _ _ (blk_below HW.out HM.out) (fun _ => ?_)
          clear hK K
          refine norm_ (a' := ?_) ?_ ?_
          rotate_left
          · show Act.put _ (some 9) _ = _
            simp only [Act.put, List.setIfInBounds_toArray, List.set_cons_zero, List.set_cons_succ, i64_w, i32_w]
            rfl
          exact norm_ (by simp only [putAll, Act.put, List.setIfInBounds_toArray, List.set_cons_zero, List.set_cons_succ, i64_w, i32_w]) (hjoin (gb, Q6, q6, ds6, g6) _ HMID.out)
        · refine box_value (t := 34) (cs := #[.int .i64 0, .string ⟨#[]⟩, .string ⟨#[]⟩, .string ⟨#[]⟩, .int .i64 0, .int .i64 0, .int .i64 0, .int .i64 0, .int .i64 0, .int .i64 0, .int .i64 0, .int .i64 0, .int .i64 0, .int .i64 0, .int .i64 0, .int .i64 0, .int .i64 0, .int .i64 0, .int .i64 0, .int .i64 0, .int .i64 0, .slice none 0 0, .slice none 0 0]) (by rfl) rfl (by first | (go_simp; done) | (go_simp; rfl)) ?_
          intro g6 hgx w6a1xx hbx hb
          have HGX := Aside0.mk (show w6a.heap.size ≤ g6 by rw [hgx]; exact HM.out.size)
          have HMn := Aside0.mk (below_step HM.out hb)
          clear HM
          have HM := HMn
          clear HMn
          have HX := Aside0.mk hbx
          have HPn := Aside0.mk (Kd.C_below HPC.out hb)
          clear HPC
          have HPC := HPn
          clear HPn
          clear hbx hb
          refine hK.out _ _ (blk_below HW.out HM.out) (fun _ => ?_)
          clear hK K
          refine norm_ (a' := ?_) ?_ ?_
          rotate_left
          · show Act.put _ (some 9) _ = _
            simp only [Act.put, List.setIfInBounds_toArray, List.set_cons_zero, List.set_cons_succ, i64_w, i32_w]
            rfl
          refine one_ (i := 4) (N := some 35) #[true, true, true, true, true, false, false, false, true, false, false] rfl rfl (by kernel_rfl) (by decide) (fun K hK => ?_)
          refine goes_ Try.func11 (by kernel_rfl) rfl #[.agg #[.string a.f0, .int .i64 a.f1.f0, .int .i64 a.f1.f1, .int .i64 a.f1.f2, .slice X2 a.f2.length X2c, .slice X3 a.f3.length X3c, .slice X4 a.f4.length X4c, .int .i64 a.f5.f0, .string a.f5.f1, .string a.f5.f2, .string a.f5.f3, .int .i64 a.f5.f4, .int .i64 a.f5.f5.f0, .int .i64 a.f5.f5.f1, .int .i64 a.f5.f5.f2, .int .i64 a.f5.f6.f0, .int .i64 a.f5.f6.f1, .int .i64 a.f5.f6.f2, .int .i64 a.f5.f6.f3, .int .i64 a.f5.f6.f4.f0, .int .i64 a.f5.f6.f4.f1, .int .i64 a.f5.f6.f4.f2, .int .i64 a.f5.f6.f5.f0, .int .i64 a.f5.f6.f5.f1, .int .i64 a.f5.f6.f5.f2, .int .i64 a.f5.f6.f6.f0, .int .i64 a.f5.f6.f6.f1, .int .i64 a.f5.f6.f7, .slice X7 a.f5.f7.length X7c, .slice X8 a.f5.f8.length X8c], .slice Q6 path.length q6] (by rfl) rfl rfl (by (try simp only [List.map_toArray, List.map_cons, List.map_nil]); first | done | rfl) ?_
          with_reducible refine (treeAt.uni a [.string a.f0, .int .i64 a.f1.f0, .int .i64 a.f1.f1, .int .i64 a.f1.f2, .slice X2 a.f2.length X2c, .slice X3 a.f3.length X3c, .slice X4 a.f4.length X4c, .int .i64 a.f5.f0, .string a.f5.f1, .string a.f5.f2, .string a.f5.f3, .int .i64 a.f5.f4, .int .i64 a.f5.f5.f0, .int .i64 a.f5.f5.f1, .int .i64 a.f5.f5.f2, .int .i64 a.f5.f6.f0, .int .i64 a.f5.f6.f1, .int .i64 a.f5.f6.f2, .int .i64 a.f5.f6.f3, .int .i64 a.f5.f6.f4.f0, .int .i64 a.f5.f6.f4.f1, .int .i64 a.f5.f6.f4.f2, .int .i64 a.f5.f6.f5.f0, .int .i64 a.f5.f6.f5.f1, .int .i64 a.f5.f6.f5.f2, .int .i64 a.f5.f6.f6.f0, .int .i64 a.f5.f6.f6.f1, .int .i64 a.f5.f6.f7, .slice X7 a.f5.f7.length X7c, .slice X8 a.f5.f8.length X8c] path Q6 q6 _ (k36.K_below (below_step HD.out HM.out) DXK.out) HPC.out HPB.out HWA.out.w5).mono ?_
          rintro e w6a1xxx ⟨ds6, rfl, hF, hb⟩
          refine ⟨_, rfl, ?_⟩
          have HMID := Aside0.mk (mid_ahead HM.out HGX.out HX.out hF hb)
          have HMn := Aside0.mk (below_step HM.out hb)
          clear HM
          have HM := HMn
          clear HMn
          clear hF hb
          refine hK.out _ _ (blk_below HW.out HM.out) (fun _ => ?_)
          clear hK K
          refine norm_ (a' := ?_) ?_ ?_
          rotate_left
          · show Act.put _ (some 35) _ = _
            simp only [Act.put, List.setIfInBounds_toArray, List.set_cons_zero, List.set_cons_succ, i64_w, i32_w]
            rfl
          refine pure_ (i := 5) (N := some 30) (v := ?_) (a' := ?_) #[true, true, true, true, true, true, false, false, true, false, false] rfl rfl (by kernel_rfl) (fun _ _ _ h => h) (Or.inl ⟨by rfl, ?_⟩) ?_ ?_
          rotate_left
          · intro w'
            go_simp
            with_reducible rfl
          rotate_left
          · simp only [Act.put, List.setIfInBounds_toArray, List.set_cons_zero, List.set_cons_succ, i64_w, i32_w]
            rfl
          refine pure_ (i := 6) (N := some 36) (v := ?_) (a' := ?_) #[true, true, true, true, true, true, true, false, true, false, false] rfl rfl (by kernel_rfl) (fun _ _ _ h => h) (Or.inl ⟨by rfl, ?_⟩) ?_ ?_
          rotate_left
          · intro w'
            go_simp
            with_reducible rfl
          rotate_left
          · simp only [Act.put, List.setIfInBounds_toArray, List.set_cons_zero, List.set_cons_succ, i64_w, i32_w]
            rfl
          refine pure_ (i := 7) (N := some 37) (v := ?_) (a' := ?_) #[true, true, true, true, true, true, true, true, true, false, false] rfl rfl (by kernel_rfl) (fun _ _ _ h => h) (Or.inl ⟨by rfl, ?_⟩) ?_ ?_
          rotate_left
          · intro w'
            go_simp
            with_reducible rfl
          rotate_left
          · simp only [Act.put, List.setIfInBounds_toArray, List.set_cons_zero, List.set_cons_succ, i64_w, i32_w]
            rfl
          exact norm_ (by simp only [putAll, Act.put, List.setIfInBounds_toArray, List.set_cons_zero, List.set_cons_succ, i64_w, i32_w]) (hjoin (gb, Q6, q6, ds6, g6) _ HMID.out)
      · refine box_value (t := 34) (cs := #[.int .i64 0, .string ⟨#[]⟩, .string ⟨#[]⟩, .string ⟨#[]⟩, .int .i64 0, .int .i64 0, .int .i64 0, .int .i64 0, .int .i64 0, .int .i64 0, .int .i64 0, .int .i64 0, .int .i64 0, .int .i64 0, .int .i64 0, .int .i64 0, .int .i64 0, .int .i64 0, .int .i64 0, .int .i64 0, .int .i64 0, .slice none 0 0, .slice none 0 0]) (by rfl) rfl (by first | (go_simp; done) | (go_simp; rfl)) ?_
        intro g6 hgx w6a1x hbx hb
        have HGX := Aside0.mk (show w6a.heap.size ≤ g6 by rw [hgx]; exact HM.out.size)
        have HMn := Aside0.mk (below_step HM.out hb)
        clear HM
        have HM := HMn
        clear HMn
        have HX := Aside0.mk hbx
        have HBn := Aside0.mk (blk_below HBB.out hb)
        clear HBB
        have HBB := HBn
        clear HBn
        clear hbx hb
        refine hK.out _ _ (blk_below HW.out HM.out) (fun _ => ?_)
        clear hK K
        refine norm_ (a' := ?_) ?_ ?_
        rotate_left
        · show Act.put _ (some 9) _ = _
          simp only [Act.put, List.setIfInBounds_toArray, List.set_cons_zero, List.set_cons_succ, i64_w, i32_w]
          rfl
        refine one_ (i := 3) (N := some 34) #[true, true, true, true, false, false, false, false, true, false, false] rfl rfl (by kernel_rfl) (by decide) (fun K hK => ?_)
        have HNE := Aside0.mk (show gb ≠ g6 from fun he => by have h1 := HBB.out; have h2 := HX.out; rw [he, h2] at h1; injection h1 with h1; injection h1 with h1 h3 h4; exact absurd h3 (by decide))
        refine path_value (P := Try.prog) (path := path) (A := P) (pc := pc) (h := gb) (by rfl) rfl rfl rfl (by first | rfl | (go_simp; done) | (go_simp; rfl)) (by first | rfl | (go_simp; done) | (go_simp; rfl)) HBB.out (Kd.C_below (Kd.C_below HPR.out HB.out) (below_step HD.out HM.out)) HPL.out Try.underlying40 (by kernel_rfl) ?_
        intro Q6 q6 w6a1xx hC hg
        have HMn := Aside0.mk (grown_below hg HGB.out HM.out HM.out.size)
        clear HM
        have HM := HMn
        clear HMn
        have HPC := Aside0.mk hC
        have HXn := Aside0.mk (blk_grown HX.out hg (fun he => by injection he with he; exact HNE.out he.symm))
        clear HX
        have HX := HXn
        clear HXn
        clear hC hg
        refine hK.out _ _ (blk_below HW.out HM.out) (fun _ => ?_)
        clear hK K
        refine norm_ (a' := ?_) ?_ ?_
        rotate_left
        · show Act.put _ (some 34) _ = _
          simp only [Act.put, List.setIfInBounds_toArray, List.set_cons_zero, List.set_cons_succ, i64_w, i32_w]
          rfl
        refine one_ (i := 4) (N := some 35) #[true, true, true, true, true, false, false, false, true, false, false] rfl rfl (by kernel_rfl) (by decide) (fun K hK => ?_)
        refine goes_ Try.func11 (by kernel_rfl) rfl #[.agg #[.string a.f0, .int .i64 a.f1.f0, .int .i64 a.f1.f1, .int .i64 a.f1.f2, .slice X2 a.f2.length X2c, .slice X3 a.f3.length X3c, .slice X4 a.f4.length X4c, .int .i64 a.f5.f0, .string a.f5.f1, .string a.f5.f2, .string a.f5.f3, .int .i64 a.f5.f4, .int .i64 a.f5.f5.f0, .int .i64 a.f5.f5.f1, .int .i64 a.f5.f5.f2, .int .i64 a.f5.f6.f0, .int .i64 a.f5.f6.f1, .int .i64 a.f5.f6.f2, .int .i64 a.f5.f6.f3, .int .i64 a.f5.f6.f4.f0, .int .i64 a.f5.f6.f4.f1, .int .i64 a.f5.f6.f4.f2, .int .i64 a.f5.f6.f5.f0, .int .i64 a.f5.f6.f5.f1, .int .i64 a.f5.f6.f5.f2, .int .i64 a.f5.f6.f6.f0, .int .i64 a.f5.f6.f6.f1, .int .i64 a.f5.f6.f7, .slice X7 a.f5.f7.length X7c, .slice X8 a.f5.f8.length X8c], .slice Q6 path.length q6] (by rfl) rfl rfl (by (try simp only [List.map_toArray, List.map_cons, List.map_nil]); first | done | rfl) ?_
        with_reducible refine (treeAt.uni a [.string a.f0, .int .i64 a.f1.f0, .int .i64 a.f1.f1, .int .i64 a.f1.f2, .slice X2 a.f2.length X2c, .slice X3 a.f3.length X3c, .slice X4 a.f4.length X4c, .int .i64 a.f5.f0, .string a.f5.f1, .string a.f5.f2, .string a.f5.f3, .int .i64 a.f5.f4, .int .i64 a.f5.f5.f0, .int .i64 a.f5.f5.f1, .int .i64 a.f5.f5.f2, .int .i64 a.f5.f6.f0, .int .i64 a.f5.f6.f1, .int .i64 a.f5.f6.f2, .int .i64 a.f5.f6.f3, .int .i64 a.f5.f6.f4.f0, .int .i64 a.f5.f6.f4.f1, .int .i64 a.f5.f6.f4.f2, .int .i64 a.f5.f6.f5.f0, .int .i64 a.f5.f6.f5.f1, .int .i64 a.f5.f6.f5.f2, .int .i64 a.f5.f6.f6.f0, .int .i64 a.f5.f6.f6.f1, .int .i64 a.f5.f6.f7, .slice X7 a.f5.f7.length X7c, .slice X8 a.f5.f8.length X8c] path Q6 q6 _ (k36.K_below (below_step HD.out HM.out) DXK.out) HPC.out HPB.out HWA.out.w5).mono ?_
        rintro e w6a1xxx ⟨ds6, rfl, hF, hb⟩
        refine ⟨_, rfl, ?_⟩
        have HMID := Aside0.mk (mid_ahead HM.out HGX.out HX.out hF hb)
        have HMn := Aside0.mk (below_step HM.out hb)
        clear HM
        have HM := HMn
        clear HMn
        clear hF hb
        refine hK.out _ _ (blk_below HW.out HM.out) (fun _ => ?_)
        clear hK K
        refine norm_ (a' := ?_) ?_ ?_
        rotate_left
        · show Act.put _ (some 35) _ = _
          simp only [Act.put, List.setIfInBounds_toArray, List.set_cons_zero, List.set_cons_succ, i64_w, i32_w]
          rfl
        refine pure_ (i := 5) (N := some 30) (v := ?_) (a' := ?_) #[true, true, true, true, true, true, false, false, true, false, false] rfl rfl (by kernel_rfl) (fun _ _ _ h => h) (Or.inl ⟨by rfl, ?_⟩) ?_ ?_
        rotate_left
        · intro w'
          go_simp
          with_reducible rfl
        rotate_left
        · simp only [Act.put, List.setIfInBounds_toArray, List.set_cons_zero, List.set_cons_succ, i64_w, i32_w]
          rfl
        refine pure_ (i := 6) (N := some 36) (v := ?_) (a' := ?_) #[true, true, true, true, true, true, true, false, true, false, false] rfl rfl (by kernel_rfl) (fun _ _ _ h => h) (Or.inl ⟨by rfl, ?_⟩) ?_ ?_
        rotate_left
        · intro w'
          go_simp
          with_reducible rfl
        rotate_left
        · simp only [Act.put, List.setIfInBounds_toArray, List.set_cons_zero, List.set_cons_succ, i64_w, i32_w]
          rfl
        refine pure_ (i := 7) (N := some 37) (v := ?_) (a' := ?_) #[true, true, true, true, true, true, true, true, true, false, false] rfl rfl (by kernel_rfl) (fun _ _ _ h => h) (Or.inl ⟨by rfl, ?_⟩) ?_ ?_
        rotate_left
        · intro w'
          go_simp
          with_reducible rfl
        rotate_left
        · simp only [Act.put, List.setIfInBounds_toArray, List.set_cons_zero, List.set_cons_succ, i64_w, i32_w]
          rfl
        exact norm_ (by simp only [putAll, Act.put, List.setIfInBounds_toArray, List.set_cons_zero, List.set_cons_succ, i64_w, i32_w]) (hjoin (gb, Q6, q6, ds6, g6) _ HMID.out)
    · refine box_value (t := 34) (cs := #[.int .i64 0, .string ⟨#[]⟩, .string ⟨#[]⟩, .string ⟨#[]⟩, .int .i64 0, .int .i64 0, .int .i64 0, .int .i64 0, .int .i64 0, .int .i64 0, .int .i64 0, .int .i64 0, .int .i64 0, .int .i64 0, .int .i64 0, .int .i64 0, .int .i64 0, .int .i64 0, .int .i64 0, .int .i64 0, .int .i64 0, .slice none 0 0, .slice none 0 0]) (by rfl) rfl (by first | (go_simp; done) | (go_simp; rfl)) ?_
      intro g6 hgx w6a1 hbx hb
      have HGX := Aside0.mk (show w6a.heap.size ≤ g6 by rw [hgx]; exact HM.out.size)
      have HMn := Aside0.mk (below_step HM.out hb)
      clear HM
      have HM := HMn
      clear HMn
      have HX := Aside0.mk hbx
      clear hbx hb
      refine hK.out _ _ (blk_below HW.out HM.out) (fun _ => ?_)
      clear hK K
      refine norm_ (a' := ?_) ?_ ?_
      rotate_left
      · show Act.put _ (some 9) _ = _
        simp only [Act.put, List.setIfInBounds_toArray, List.set_cons_zero, List.set_cons_succ, i64_w, i32_w]
        rfl
      refine one_ (i := 1) (N := some 32) #[true, true, true, false, false, false, false, false, true, false, false] rfl rfl (by kernel_rfl) (by decide) (fun K hK => ?_)
      refine empty_value (t := 3) (by rfl) rfl (by go_simp) ?_
      intro gb hgb w6a1x hbb hb
      have HGB := Aside0.mk (show w6a.heap.size ≤ gb by rw [hgb]; exact HM.out.size)
      have HMn := Aside0.mk (below_step HM.out hb)
      clear HM
      have HM := HMn
      clear HMn
      have HBB := Aside0.mk hbb
      have HXn := Aside0.mk (blk_below HX.out hb)
      clear HX
      have HX := HXn
      clear HXn
      clear hbb hb
      refine hK.out _ _ (blk_below HW.out HM.out) (fun _ => ?_)
      clear hK K
      refine norm_ (a' := ?_) ?_ ?_
      rotate_left
      · show Act.put _ (some 32) _ = _
        simp only [Act.put, List.setIfInBounds_toArray, List.set_cons_zero, List.set_cons_succ, i64_w, i32_w]
        rfl
      refine one_ (i := 3) (N := some 34) #[true, true, true, true, false, false, false, false, true, false, false] rfl rfl (by kernel_rfl) (by decide) (fun K hK => ?_)
      have HNE := Aside0.mk (show gb ≠ g6 from fun he => by have h1 := HBB.out; have h2 := HX.out; rw [he, h2] at h1; injection h1 with h1; injection h1 with h1 h3 h4; exact absurd h3 (by decide))
      refine path_value (P := Try.prog) (path := path) (A := P) (pc := pc) (h := gb) (by rfl) rfl rfl rfl (by first | rfl | (go_simp; done) | (go_simp; rfl)) (by first | rfl | (go_simp; done) | (go_simp; rfl)) HBB.out (Kd.C_below (Kd.C_below HPR.out HB.out) (below_step HD.out HM.out)) HPL.out Try.underlying40 (by kernel_rfl) ?_
      intro Q6 q6 w6a1xx hC hg
      have HMn := Aside0.mk (grown_below hg HGB.out HM.out HM.out.size)
      clear HM
      have HM := HMn
      clear HMn
      have HPC := Aside0.mk hC
      have HXn := Aside0.mk (blk_grown HX.out hg (fun he => by injection he with he; exact HNE.out he.symm))
      clear HX
      have HX := HXn
      clear HXn
      clear hC hg
      refine hK.out _ _ (blk_below HW.out HM.out) (fun _ => ?_)
      clear hK K
      refine norm_ (a' := ?_) ?_ ?_
      rotate_left
      · show Act.put _ (some 34) _ = _
        simp only [Act.put, List.setIfInBounds_toArray, List.set_cons_zero, List.set_cons_succ, i64_w, i32_w]
        rfl
      refine one_ (i := 4) (N := some 35) #[true, true, true, true, true, false, false, false, true, false, false] rfl rfl (by kernel_rfl) (by decide) (fun K hK => ?_)
      refine goes_ Try.func11 (by kernel_rfl) rfl #[.agg #[.string a.f0, .int .i64 a.f1.f0, .int .i64 a.f1.f1, .int .i64 a.f1.f2, .slice X2 a.f2.length X2c, .slice X3 a.f3.length X3c, .slice X4 a.f4.length X4c, .int .i64 a.f5.f0, .string a.f5.f1, .string a.f5.f2, .string a.f5.f3, .int .i64 a.f5.f4, .int .i64 a.f5.f5.f0, .int .i64 a.f5.f5.f1, .int .i64 a.f5.f5.f2, .int .i64 a.f5.f6.f0, .int .i64 a.f5.f6.f1, .int .i64 a.f5.f6.f2, .int .i64 a.f5.f6.f3, .int .i64 a.f5.f6.f4.f0, .int .i64 a.f5.f6.f4.f1, .int .i64 a.f5.f6.f4.f2, .int .i64 a.f5.f6.f5.f0, .int .i64 a.f5.f6.f5.f1, .int .i64 a.f5.f6.f5.f2, .int .i64 a.f5.f6.f6.f0, .int .i64 a.f5.f6.f6.f1, .int .i64 a.f5.f6.f7, .slice X7 a.f5.f7.length X7c, .slice X8 a.f5.f8.length X8c], .slice Q6 path.length q6] (by rfl) rfl rfl (by (try simp only [List.map_toArray, List.map_cons, List.map_nil]); first | done | rfl) ?_
      with_reducible refine (treeAt.uni a [.string a.f0, .int .i64 a.f1.f0, .int .i64 a.f1.f1, .int .i64 a.f1.f2, .slice X2 a.f2.length X2c, .slice X3 a.f3.length X3c, .slice X4 a.f4.length X4c, .int .i64 a.f5.f0, .string a.f5.f1, .string a.f5.f2, .string a.f5.f3, .int .i64 a.f5.f4, .int .i64 a.f5.f5.f0, .int .i64 a.f5.f5.f1, .int .i64 a.f5.f5.f2, .int .i64 a.f5.f6.f0, .int .i64 a.f5.f6.f1, .int .i64 a.f5.f6.f2, .int .i64 a.f5.f6.f3, .int .i64 a.f5.f6.f4.f0, .int .i64 a.f5.f6.f4.f1, .int .i64 a.f5.f6.f4.f2, .int .i64 a.f5.f6.f5.f0, .int .i64 a.f5.f6.f5.f1, .int .i64 a.f5.f6.f5.f2, .int .i64 a.f5.f6.f6.f0, .int .i64 a.f5.f6.f6.f1, .int .i64 a.f5.f6.f7, .slice X7 a.f5.f7.length X7c, .slice X8 a.f5.f8.length X8c] path Q6 q6 _ (k36.K_below (below_step HD.out HM.out) DXK.out) HPC.out HPB.out HWA.out.w5).mono ?_
      rintro e w6a1xxx ⟨ds6, rfl, hF, hb⟩
      refine ⟨_, rfl, ?_⟩
      have HMID := Aside0.mk (mid_ahead HM.out HGX.out HX.out hF hb)
      have HMn := Aside0.mk (below_step HM.out hb)
      clear HM
      have HM := HMn
      clear HMn
      clear hF hb
      refine hK.out _ _ (blk_below HW.out HM.out) (fun _ => ?_)
      clear hK K
      refine norm_ (a' := ?_) ?_ ?_
      rotate_left
      · show Act.put _ (some 35) _ = _
        simp only [Act.put, List.setIfInBounds_toArray, List.set_cons_zero, List.set_cons_succ, i64_w, i32_w]
        rfl
      refine pure_ (i := 5) (N := some 30) (v := ?_) (a' := ?_) #[true, true, true, true, true, true, false, false, true, false, false] rfl rfl (by kernel_rfl) (fun _ _ _ h => h) (Or.inl ⟨by rfl, ?_⟩) ?_ ?_
      rotate_left
      · intro w'
        go_simp
        with_reducible rfl
      rotate_left
      · simp only [Act.put, List.setIfInBounds_toArray, List.set_cons_zero, List.set_cons_succ, i64_w, i32_w]
        rfl
      refine pure_ (i := 6) (N := some 36) (v := ?_) (a' := ?_) #[true, true, true, true, true, true, true, false, true, false, false] rfl rfl (by kernel_rfl) (fun _ _ _ h => h) (Or.inl ⟨by rfl, ?_⟩) ?_ ?_
      rotate_left
      · intro w'
        go_simp
        with_reducible rfl
      rotate_left
      · simp only [Act.put, List.setIfInBounds_toArray, List.set_cons_zero, List.set_cons_succ, i64_w, i32_w]
        rfl
      refine pure_ (i := 7) (N := some 37) (v := ?_) (a' := ?_) #[true, true, true, true, true, true, true, true, true, false, false] rfl rfl (by kernel_rfl) (fun _ _ _ h => h) (Or.inl ⟨by rfl, ?_⟩) ?_ ?_
      rotate_left
      · intro w'
        go_simp
        with_reducible rfl
      rotate_left
      · simp only [Act.put, List.setIfInBounds_toArray, List.set_cons_zero, List.set_cons_succ, i64_w, i32_w]
        rfl
      exact norm_ (by simp only [putAll, Act.put, List.setIfInBounds_toArray, List.set_cons_zero, List.set_cons_succ, i64_w, i32_w]) (hjoin (gb, Q6, q6, ds6, g6) _ HMID.out)
  rintro ⟨gb, Q6, q6, ds6, g6⟩ w6m HMID0
  have HMID := Aside0.mk HMID0
  clear HMID0
  refine norm_ (a' := ?_) ?_ ?_
  rotate_left
  · simp only [putAll, Act.put, List.setIfInBounds_toArray, List.set_cons_zero, List.set_cons_succ, i64_w, i32_w]
    rfl
  refine last_ (i := 9) (N := none) #[true, true, true, true, true, true, true, true, true, true, false] rfl rfl (by kernel_rfl) (by decide) (fun K hK => ?_)
  have hln := k34.K_len (k34.K_of_M HMID.out.2.2.2)
  have hon := k34.K_one (k34.K_of_M HMID.out.2.2.2)
  refine stw_step (by rfl) rfl rfl (g := g6) (by first | rfl | (go_simp; done) | (go_simp; rfl)) (cs := ds6) (by first | rfl | (go_simp; done) | (go_simp; rfl)) HMID.out.2.2.1 (by rw [hln]; exact size34) (by rw [hln]; rfl) hon ?_
  intro w6b hbk ho
  have hgot : Got w6b w6a.heap.size w6b.heap.size g6 (foundC a path) ds6 ∧ Below w6a.heap.size w6a w6b := mid_got HMID.out ho hbk
  have G6 := Aside0.mk hgot.1
  have H6 := Aside0.mk (below_step HE.out hgot.2)
  have C6 := Aside0.mk (below_step H0.out H6.out)
  have SZ6 := Aside0.mk HE.out.size
  clear hgot hln hon hbk ho
  refine hK.out _ _ ?_
  clear hK K
  refine norm_ (a' := ?_) ?_ ?_
  rotate_left
  · show Act.put _ none _ = _
    simp only [Act.put, List.setIfInBounds_toArray, List.set_cons_zero, List.set_cons_succ, i64_w, i32_w]
    rfl
  refine pure_ (i := 10) (N := some 10) (v := ?_) (a' := ?_) #[true, true, true, true, true, true, true, true, true, true, true] rfl rfl (by kernel_rfl) (fun _ _ _ h => h) (Or.inl ⟨by rfl, ?_⟩) ?_ ?_
  rotate_left
  · intro w'
    go_simp
    with_reducible rfl
  rotate_left
  · simp only [Act.put, List.setIfInBounds_toArray, List.set_cons_zero, List.set_cons_succ, i64_w, i32_w]
    rfl
  refine done_ (by kernel_rfl) ?_
  clear HMID HD HE hHeld
  go_upto_region 7 with (fail)
  refine start_ (n := 11) (S := fun w' => w'.heap[g2]? = some (.cells #[.string a.f0, .int .i64 a.f1.f0, .int .i64 a.f1.f1, .int .i64 a.f1.f2, .slice X2 a.f2.length X2c, .slice X3 a.f3.length X3c, .slice X4 a.f4.length X4c, .int .i64 a.f5.f0, .string a.f5.f1, .string a.f5.f2, .string a.f5.f3, .int .i64 a.f5.f4, .int .i64 a.f5.f5.f0, .int .i64 a.f5.f5.f1, .int .i64 a.f5.f5.f2, .int .i64 a.f5.f6.f0, .int .i64 a.f5.f6.f1, .int .i64 a.f5.f6.f2, .int .i64 a.f5.f6.f3, .int .i64 a.f5.f6.f4.f0, .int .i64 a.f5.f6.f4.f1, .int .i64 a.f5.f6.f4.f2, .int .i64 a.f5.f6.f5.f0, .int .i64 a.f5.f6.f5.f1, .int .i64 a.f5.f6.f5.f2, .int .i64 a.f5.f6.f6.f0, .int .i64 a.f5.f6.f6.f1, .int .i64 a.f5.f6.f7, .slice X7 a.f5.f7.length X7c, .slice X8 a.f5.f8.length X8c] 36 (0, 0))) (ds := [9, 10]) #[false, false, false, false, false, false, false, false, false, false, false] (by kernel_rfl) rfl rfl (blk_below BK2.out (below_drew1 C6.out)) (fun hHeld => ?_)
  have HD := Aside0.mk (below_drew1 C6.out)
  have HE := Aside0.mk (below_drew1 (Below.refl w6b.heap.size w6b))
  generalize w6b.drew = w7a at hHeld HD HE ⊢
  refine take_ (i := 0) (N := some 39) (v := ?_) (a' := ?_) #[true, false, false, false, false, false, false, false, false, false, false] rfl rfl (by kernel_rfl) (fun _ _ _ h => h) (Or.inl ⟨by rfl, ?_⟩) hHeld ?_ ?_
  rotate_left
  · rintro w' s2
    refine Eq.trans (ldb_run rfl (by first | rfl | (go_simp; done) | (go_simp; rfl)) Try.underlying36 ⟨_, rfl⟩ s2 30 size36' [.string a.f0, .int .i64 a.f1.f0, .int .i64 a.f1.f1, .int .i64 a.f1.f2, .slice X2 a.f2.length X2c, .slice X3 a.f3.length X3c, .slice X4 a.f4.length X4c, .int .i64 a.f5.f0, .string a.f5.f1, .string a.f5.f2, .string a.f5.f3, .int .i64 a.f5.f4, .int .i64 a.f5.f5.f0, .int .i64 a.f5.f5.f1, .int .i64 a.f5.f5.f2, .int .i64 a.f5.f6.f0, .int .i64 a.f5.f6.f1, .int .i64 a.f5.f6.f2, .int .i64 a.f5.f6.f3, .int .i64 a.f5.f6.f4.f0, .int .i64 a.f5.f6.f4.f1, .int .i64 a.f5.f6.f4.f2, .int .i64 a.f5.f6.f5.f0, .int .i64 a.f5.f6.f5.f1, .int .i64 a.f5.f6.f5.f2, .int .i64 a.f5.f6.f6.f0, .int .i64 a.f5.f6.f6.f1, .int .i64 a.f5.f6.f7, .slice X7 a.f5.f7.length X7c, .slice X8 a.f5.f8.length X8c] rfl rfl) ?_
    with_reducible rfl
  rotate_left
  · simp only [Act.put, List.setIfInBounds_toArray, List.set_cons_zero, List.set_cons_succ, i64_w, i32_w]
    rfl
  refine pure_ (i := 2) (N := some 41) (v := ?_) (a' := ?_) #[true, false, true, false, false, false, false, false, false, false, false] rfl rfl (by kernel_rfl) (fun _ _ _ h => h) (Or.inl ⟨by rfl, ?_⟩) ?_ ?_
  rotate_left
  · intro w'
    go_simp
    with_reducible rfl
  rotate_left
  · simp only [Act.put, List.setIfInBounds_toArray, List.set_cons_zero, List.set_cons_succ, i64_w, i32_w]
    rfl
  refine join_ (σ := Nat × Option Addr × Nat × List Value × Nat) 2 #[true, true, true, true, true, true, true, true, true, false, false] (fun s => [(40, .slice (some ⟨s.1, 0, none⟩) 0 0), (42, .slice s.2.1 path.length s.2.2.1), (43, .tuple #[.agg s.2.2.2.1.toArray, .int .i64 (foundE a path)]), (38, .tuple #[.agg s.2.2.2.1.toArray, .int .i64 (foundE a path)]), (44, .agg s.2.2.2.1.toArray), (45, .int .i64 (foundE a path)), (11, .pointer (some ⟨s.2.2.2.2, 0, none⟩))]) (fun s w' => Mid w7a (foundC a path) s.2.2.2.2 s.2.2.2.1 w') ?hcont7 ?hord7
  case hord7 =>
    intro hjoin
    have HM := Aside0.mk (Below.refl w7a.heap.size w7a)
    have HW := Aside0.mk hHeld
    refine two_ (i := 1) (j := 8) (Ni := some 40) (Nj := some 11) #[true, true, true, false, false, false, false, false, false, false, false] #[true, false, true, false, false, false, false, false, true, false, false] rfl rfl rfl rfl (by kernel_rfl) (by decide) (by decide) (fun K hK => ?_) (fun K hK => ?_)
    · refine empty_value (t := 3) (by rfl) rfl (by go_simp) ?_
      intro gb hgb w7a1 hbb hb
      have HGB := Aside0.mk (show w7a.heap.size ≤ gb by rw [hgb]; exact HM.out.size)
      have HMn := Aside0.mk (below_step HM.out hb)
      clear HM
      have HM := HMn
      clear HMn
      have HBB := Aside0.mk hbb
      clear hbb hb
      refine hK.out _ _ (blk_below HW.out HM.out) (fun _ => ?_)
      clear hK K
      refine norm_ (a' := ?_) ?_ ?_
      rotate_left
      · show Act.put _ (some 40) _ = _
        simp only [Act.put, List.setIfInBounds_toArray, List.set_cons_zero, List.set_cons_succ, i64_w, i32_w]
        rfl
      refine two_ (i := 3) (j := 8) (Ni := some 42) (Nj := some 11) #[true, true, true, true, false, false, false, false, false, false, false] #[true, true, true, false, false, false, false, false, true, false, false] rfl rfl rfl rfl (by kernel_rfl) (by decide) (by decide) (fun K hK => ?_) (fun K hK => ?_)
      · refine path_value (P := Try.prog) (path := path) (A := P) (pc := pc) (h := gb) (by rfl) rfl rfl rfl (by first | rfl | (go_simp; done) | (go_simp; rfl)) (by first | rfl | (go_simp; done) | (go_simp; rfl)) HBB.out (Kd.C_below (Kd.C_below HPR.out HB.out) (below_step HD.out HM.out)) HPL.out Try.underlying40 (by kernel_rfl) ?_
        intro Q7 q7 w7a1x hC hg
        have HMn := Aside0.mk (grown_below hg HGB.out HM.out HM.out.size)
        clear HM
        have HM := HMn
        clear HMn
        have HPC := Aside0.mk hC
        clear hC hg
        refine hK.out _ _ (blk_below HW.out HM.out) (fun _ => ?_)
        clear hK K
        refine norm_ (a' := ?_) ?_ ?_
        rotate_left
        · show Act.put _ (some 42) _ = _
          simp only [Act.put, List.setIfInBounds_toArray, List.set_cons_zero, List.set_cons_succ, i64_w, i32_w]
          rfl
        refine two_ (i := 4) (j := 8) (Ni := some 43) (Nj := some 11) #[true, true, true, true, true, false, false, false, false, false, false] #[true, true, true, true, false, false, false, false, true, false, false] rfl rfl rfl rfl (by kernel_rfl) (by decide) (by decide) (fun K hK => ?_) (fun K hK => ?_)
        · refine goes_ Try.func11 (by kernel_rfl) rfl #[.agg #[.string a.f0, .int .i64 a.f1.f0, .int .i64 a.f1.f1, .int .i64 a.f1.f2, .slice X2 a.f2.length X2c, .slice X3 a.f3.length X3c, .slice X4 a.f4.length X4c, .int .i64 a.f5.f0, .string a.f5.f1, .string a.f5.f2, .string a.f5.f3, .int .i64 a.f5.f4, .int .i64 a.f5.f5.f0, .int .i64 a.f5.f5.f1, .int .i64 a.f5.f5.f2, .int .i64 a.f5.f6.f0, .int .i64 a.f5.f6.f1, .int .i64 a.f5.f6.f2, .int .i64 a.f5.f6.f3, .int .i64 a.f5.f6.f4.f0, .int .i64 a.f5.f6.f4.f1, .int .i64 a.f5.f6.f4.f2, .int .i64 a.f5.f6.f5.f0, .int .i64 a.f5.f6.f5.f1, .int .i64 a.f5.f6.f5.f2, .int .i64 a.f5.f6.f6.f0, .int .i64 a.f5.f6.f6.f1, .int .i64 a.f5.f6.f7, .slice X7 a.f5.f7.length X7c, .slice X8 a.f5.f8.length X8c], .slice Q7 path.length q7] (by rfl) rfl rfl (by (try simp only [List.map_toArray, List.map_cons, List.map_nil]); first | done | rfl) ?_
          with_reducible refine (treeAt.uni a [.string a.f0, .int .i64 a.f1.f0, .int .i64 a.f1.f1, .int .i64 a.f1.f2, .slice X2 a.f2.length X2c, .slice X3 a.f3.length X3c, .slice X4 a.f4.length X4c, .int .i64 a.f5.f0, .string a.f5.f1, .string a.f5.f2, .string a.f5.f3, .int .i64 a.f5.f4, .int .i64 a.f5.f5.f0, .int .i64 a.f5.f5.f1, .int .i64 a.f5.f5.f2, .int .i64 a.f5.f6.f0, .int .i64 a.f5.f6.f1, .int .i64 a.f5.f6.f2, .int .i64 a.f5.f6.f3, .int .i64 a.f5.f6.f4.f0, .int .i64 a.f5.f6.f4.f1, .int .i64 a.f5.f6.f4.f2, .int .i64 a.f5.f6.f5.f0, .int .i64 a.f5.f6.f5.f1, .int .i64 a.f5.f6.f5.f2, .int .i64 a.f5.f6.f6.f0, .int .i64 a.f5.f6.f6.f1, .int .i64 a.f5.f6.f7, .slice X7 a.f5.f7.length X7c, .slice X8 a.f5.f8.length X8c] path Q7 q7 _ (k36.K_below (below_step HD.out HM.out) DXK.out) HPC.out HPB.out HWA.out.w5).mono ?_
          rintro e w7a1xx ⟨ds7, rfl, hF, hb⟩
          refine ⟨_, rfl, ?_⟩
          have HFr := Aside0.mk hF
          have HCb := Aside0.mk hb
          have HMc := Aside0.mk HM.out
          have HMn := Aside0.mk (below_step HM.out hb)
          clear HM
          have HM := HMn
          clear HMn
          clear hF hb
          refine hK.out _ _ (blk_below HW.out HM.out) (fun _ => ?_)
          clear hK K
          refine norm_ (a' := ?_) ?_ ?_
          rotate_left
          · show Act.put _ (some 43) _ = _
            simp only [Act.put, List.setIfInBounds_toArray, List.set_cons_zero, List.set_cons_succ, i64_w, i32_w]
            rfl
          refine pure_ (i := 5) (N := some 38) (v := ?_) (a' := ?_) #[true, true, true, true, true, true, false, false, false, false, false] rfl rfl (by kernel_rfl) (fun _ _ _ h => h) (Or.inl ⟨by rfl, ?_⟩) ?_ ?_
          rotate_left
          · intro w'
            go_simp
            with_reducible rfl
          rotate_left
          · simp only [Act.put, List.setIfInBounds_toArray, List.set_cons_zero, List.set_cons_succ, i64_w, i32_w]
            rfl
          refine pure_ (i := 6) (N := some 44) (v := ?_) (a' := ?_) #[true, true, true, true, true, true, true, false, false, false, false] rfl rfl (by kernel_rfl) (fun _ _ _ h => h) (Or.inl ⟨by rfl, ?_⟩) ?_ ?_
          rotate_left
          · intro w'
            go_simp
            with_reducible rfl
          rotate_left
          · simp only [Act.put, List.setIfInBounds_toArray, List.set_cons_zero, List.set_cons_succ, i64_w, i32_w]
            rfl
          refine pure_ (i := 7) (N := some 45) (v := ?_) (a' := ?_) #[true, true, true, true, true, true, true, true, false, false, false] rfl rfl (by kernel_rfl) (fun _ _ _ h => h) (Or.inl ⟨by rfl, ?_⟩) ?_ ?_
          rotate_left
          · intro w'
            go_simp
            with_reducible rfl
          rotate_left
          · simp only [Act.put, List.setIfInBounds_toArray, List.set_cons_zero, List.set_cons_succ, i64_w, i32_w]
            rfl
          refine one_ (i := 8) (N := some 11) #[true, true, true, true, true, true, true, true, true, false, false] rfl rfl (by kernel_rfl) (by decide) (fun K hK => ?_)
          refine box_value (t := 34) (cs := #[.int .i64 0, .string ⟨#[]⟩, .string ⟨#[]⟩, .string ⟨#[]⟩, .int .i64 0, .int .i64 0, .int .i64 0, .int .i64 0, .int .i64 0, .int .i64 0, .int .i64 0, .int .i64 0, .int .i64 0, .int .i64 0, .int .i64 0, .int .i64 0, .int .i64 0, .int .i64 0, .int .i64 0, .int .i64 0, .int .i64 0, .slice none 0 0, .slice none 0 0]) (by rfl) rfl (by first | (go_simp; done) | (go_simp; rfl)) ?_
          intro g7 hgx w7a1xxx hbx hb
          have HGX := Aside0.mk (show w7a.heap.size ≤ g7 by rw [hgx]; exact HM.out.size)
          have HMID := Aside0.mk (mid_behind HMc.out HFr.out HCb.out hgx hbx hb)
          have HMn := Aside0.mk (below_step HM.out hb)
          clear HM
          have HM := HMn
          clear HMn
          have HX := Aside0.mk hbx
          clear hbx hb
          refine hK.out _ _ (blk_below HW.out HM.out) (fun _ => ?_)
          clear hK K
          refine norm_ (a' := ?_) ?_ ?_
          rotate_left
          · show Act.put _ (some 11) _ = _
            simp only [Act.put, List.setIfInBounds_toArray, List.set_cons_zero, List.set_cons_succ, i64_w, i32_w]
            rfl
          exact norm_ (by simp only [putAll, Act.put, List.setIfInBounds_toArray, List.set_cons_zero, List.set_cons_succ, i64_w, i32_w]) (hjoin (gb, Q7, q7, ds7, g7) _ HMID.out)
        · refine box_value (t := 34) (cs := #[.int .i64 0, .string ⟨#[]⟩, .string ⟨#[]⟩, .string ⟨#[]⟩, .int .i64 0, .int .i64 0, .int .i64 0, .int .i64 0, .int .i64 0, .int .i64 0, .int .i64 0, .int .i64 0, .int .i64 0, .int .i64 0, .int .i64 0, .int .i64 0, .int .i64 0, .int .i64 0, .int .i64 0, .int .i64 0, .int .i64 0, .slice none 0 0, .slice none 0 0]) (by rfl) rfl (by first | (go_simp; done) | (go_simp; rfl)) ?_
          intro g7 hgx w7a1xx hbx hb
          have HGX := Aside0.mk (show w7a.heap.size ≤ g7 by rw [hgx]; exact HM.out.size)
          have HMn := Aside0.mk (below_step HM.out hb)
          clear HM
          have HM := HMn
          clear HMn
          have HX := Aside0.mk hbx
          have HPn := Aside0.mk (Kd.C_below HPC.out hb)
          clear HPC
          have HPC := HPn
          clear HPn
          clear hbx hb
          refine hK.out _ _ (blk_below HW.out HM.out) (fun _ => ?_)
          clear hK K
          refine norm_ (a' := ?_) ?_ ?_
          rotate_left
          · show Act.put _ (some 11) _ = _
            simp only [Act.put, List.setIfInBounds_toArray, List.set_cons_zero, List.set_cons_succ, i64_w, i32_w]
            rfl
          refine one_ (i := 4) (N := some 43) #[true, true, true, true, true, false, false, false, true, false, false] rfl rfl (by kernel_rfl) (by decide) (fun K hK => ?_)
          refine goes_ Try.func11 (by kernel_rfl) rfl #[.agg #[.string a.f0, .int .i64 a.f1.f0, .int .i64 a.f1.f1, .int .i64 a.f1.f2, .slice X2 a.f2.length X2c, .slice X3 a.f3.length X3c, .slice X4 a.f4.length X4c, .int .i64 a.f5.f0, .string a.f5.f1, .string a.f5.f2, .string a.f5.f3, .int .i64 a.f5.f4, .int .i64 a.f5.f5.f0, .int .i64 a.f5.f5.f1, .int .i64 a.f5.f5.f2, .int .i64 a.f5.f6.f0, .int .i64 a.f5.f6.f1, .int .i64 a.f5.f6.f2, .int .i64 a.f5.f6.f3, .int .i64 a.f5.f6.f4.f0, .int .i64 a.f5.f6.f4.f1, .int .i64 a.f5.f6.f4.f2, .int .i64 a.f5.f6.f5.f0, .int .i64 a.f5.f6.f5.f1, .int .i64 a.f5.f6.f5.f2, .int .i64 a.f5.f6.f6.f0, .int .i64 a.f5.f6.f6.f1, .int .i64 a.f5.f6.f7, .slice X7 a.f5.f7.length X7c, .slice X8 a.f5.f8.length X8c], .slice Q7 path.length q7] (by rfl) rfl rfl (by (try simp only [List.map_toArray, List.map_cons, List.map_nil]); first | done | rfl) ?_
          with_reducible refine (treeAt.uni a [.string a.f0, .int .i64 a.f1.f0, .int .i64 a.f1.f1, .int .i64 a.f1.f2, .slice X2 a.f2.length X2c, .slice X3 a.f3.length X3c, .slice X4 a.f4.length X4c, .int .i64 a.f5.f0, .string a.f5.f1, .string a.f5.f2, .string a.f5.f3, .int .i64 a.f5.f4, .int .i64 a.f5.f5.f0, .int .i64 a.f5.f5.f1, .int .i64 a.f5.f5.f2, .int .i64 a.f5.f6.f0, .int .i64 a.f5.f6.f1, .int .i64 a.f5.f6.f2, .int .i64 a.f5.f6.f3, .int .i64 a.f5.f6.f4.f0, .int .i64 a.f5.f6.f4.f1, .int .i64 a.f5.f6.f4.f2, .int .i64 a.f5.f6.f5.f0, .int .i64 a.f5.f6.f5.f1, .int .i64 a.f5.f6.f5.f2, .int .i64 a.f5.f6.f6.f0, .int .i64 a.f5.f6.f6.f1, .int .i64 a.f5.f6.f7, .slice X7 a.f5.f7.length X7c, .slice X8 a.f5.f8.length X8c] path Q7 q7 _ (k36.K_below (below_step HD.out HM.out) DXK.out) HPC.out HPB.out HWA.out.w5).mono ?_
          rintro e w7a1xxx ⟨ds7, rfl, hF, hb⟩
          refine ⟨_, rfl, ?_⟩
          have HMID := Aside0.mk (mid_ahead HM.out HGX.out HX.out hF hb)
          have HMn := Aside0.mk (below_step HM.out hb)
          clear HM
          have HM := HMn
          clear HMn
          clear hF hb
          refine hK.out _ _ (blk_below HW.out HM.out) (fun _ => ?_)
          clear hK K
          refine norm_ (a' := ?_) ?_ ?_
          rotate_left
          · show Act.put _ (some 43) _ = _
            simp only [Act.put, List.setIfInBounds_toArray, List.set_cons_zero, List.set_cons_succ, i64_w, i32_w]
            rfl
          refine pure_ (i := 5) (N := some 38) (v := ?_) (a' := ?_) #[true, true, true, true, true, true, false, false, true, false, false] rfl rfl (by kernel_rfl) (fun _ _ _ h => h) (Or.inl ⟨by rfl, ?_⟩) ?_ ?_
          rotate_left
          · intro w'
            go_simp
            with_reducible rfl
          rotate_left
          · simp only [Act.put, List.setIfInBounds_toArray, List.set_cons_zero, List.set_cons_succ, i64_w, i32_w]
            rfl
          refine pure_ (i := 6) (N := some 44) (v := ?_) (a' := ?_) #[true, true, true, true, true, true, true, false, true, false, false] rfl rfl (by kernel_rfl) (fun _ _ _ h => h) (Or.inl ⟨by rfl, ?_⟩) ?_ ?_
          rotate_left
          · intro w'
            go_simp
            with_reducible rfl
          rotate_left
          · simp only [Act.put, List.setIfInBounds_toArray, List.set_cons_zero, List.set_cons_succ, i64_w, i32_w]
            rfl
          refine pure_ (i := 7) (N := some 45) (v := ?_) (a' := ?_) #[true, true, true, true, true, true, true, true, true, false, false] rfl rfl (by kernel_rfl) (fun _ _ _ h => h) (Or.inl ⟨by rfl, ?_⟩) ?_ ?_
          rotate_left
          · intro w'
            go_simp
            with_reducible rfl
          rotate_left
          · simp only [Act.put, List.setIfInBounds_toArray, List.set_cons_zero, List.set_cons_succ, i64_w, i32_w]
            rfl
          exact norm_ (by simp only [putAll, Act.put, List.setIfInBounds_toArray, List.set_cons_zero, List.set_cons_succ, i64_w, i32_w]) (hjoin (gb, Q7, q7, ds7, g7) _ HMID.out)
      · refine box_value (t := 34) (cs := #[.int .i64 0, .string ⟨#[]⟩, .string ⟨#[]⟩, .string ⟨#[]⟩, .int .i64 0, .int .i64 0, .int .i64 0, .int .i64 0, .int .i64 0, .int .i64 0, .int .i64 0, .int .i64 0, .int .i64 0, .int .i64 0, .int .i64 0, .int .i64 0, .int .i64 0, .int .i64 0, .int .i64 0, .int .i64 0, .int .i64 0, .slice none 0 0, .slice none 0 0]) (by rfl) rfl (by first | (go_simp; done) | (go_simp; rfl)) ?_
        intro g7 hgx w7a1x hbx hb
        have HGX := Aside0.mk (show w7a.heap.size ≤ g7 by rw [hgx]; exact HM.out.size)
        have HMn := Aside0.mk (below_step HM.out hb)
        clear HM
        have HM := HMn
        clear HMn
        have HX := Aside0.mk hbx
        have HBn := Aside0.mk (blk_below HBB.out hb)
        clear HBB
        have HBB := HBn
        clear HBn
        clear hbx hb
        refine hK.out _ _ (blk_below HW.out HM.out) (fun _ => ?_)
        clear hK K
        refine norm_ (a' := ?_) ?_ ?_
        rotate_left
        · show Act.put _ (some 11) _ = _
          simp only [Act.put, List.setIfInBounds_toArray, List.set_cons_zero, List.set_cons_succ, i64_w, i32_w]
          rfl
        refine one_ (i := 3) (N := some 42) #[true, true, true, true, false, false, false, false, true, false, false] rfl rfl (by kernel_rfl) (by decide) (fun K hK => ?_)
        have HNE := Aside0.mk (show gb ≠ g7 from fun he => by have h1 := HBB.out; have h2 := HX.out; rw [he, h2] at h1; injection h1 with h1; injection h1 with h1 h3 h4; exact absurd h3 (by decide))
        refine path_value (P := Try.prog) (path := path) (A := P) (pc := pc) (h := gb) (by rfl) rfl rfl rfl (by first | rfl | (go_simp; done) | (go_simp; rfl)) (by first | rfl | (go_simp; done) | (go_simp; rfl)) HBB.out (Kd.C_below (Kd.C_below HPR.out HB.out) (below_step HD.out HM.out)) HPL.out Try.underlying40 (by kernel_rfl) ?_
        intro Q7 q7 w7a1xx hC hg
        have HMn := Aside0.mk (grown_below hg HGB.out HM.out HM.out.size)
        clear HM
        have HM := HMn
        clear HMn
        have HPC := Aside0.mk hC
        have HXn := Aside0.mk (blk_grown HX.out hg (fun he => by injection he with he; exact HNE.out he.symm))
        clear HX
        have HX := HXn
        clear HXn
        clear hC hg
        refine hK.out _ _ (blk_below HW.out HM.out) (fun _ => ?_)
        clear hK K
        refine norm_ (a' := ?_) ?_ ?_
        rotate_left
        · show Act.put _ (some 42) _ = _
          simp only [Act.put, List.setIfInBounds_toArray, List.set_cons_zero, List.set_cons_succ, i64_w, i32_w]
          rfl
        refine one_ (i := 4) (N := some 43) #[true, true, true, true, true, false, false, false, true, false, false] rfl rfl (by kernel_rfl) (by decide) (fun K hK => ?_)
        refine goes_ Try.func11 (by kernel_rfl) rfl #[.agg #[.string a.f0, .int .i64 a.f1.f0, .int .i64 a.f1.f1, .int .i64 a.f1.f2, .slice X2 a.f2.length X2c, .slice X3 a.f3.length X3c, .slice X4 a.f4.length X4c, .int .i64 a.f5.f0, .string a.f5.f1, .string a.f5.f2, .string a.f5.f3, .int .i64 a.f5.f4, .int .i64 a.f5.f5.f0, .int .i64 a.f5.f5.f1, .int .i64 a.f5.f5.f2, .int .i64 a.f5.f6.f0, .int .i64 a.f5.f6.f1, .int .i64 a.f5.f6.f2, .int .i64 a.f5.f6.f3, .int .i64 a.f5.f6.f4.f0, .int .i64 a.f5.f6.f4.f1, .int .i64 a.f5.f6.f4.f2, .int .i64 a.f5.f6.f5.f0, .int .i64 a.f5.f6.f5.f1, .int .i64 a.f5.f6.f5.f2, .int .i64 a.f5.f6.f6.f0, .int .i64 a.f5.f6.f6.f1, .int .i64 a.f5.f6.f7, .slice X7 a.f5.f7.length X7c, .slice X8 a.f5.f8.length X8c], .slice Q7 path.length q7] (by rfl) rfl rfl (by (try simp only [List.map_toArray, List.map_cons, List.map_nil]); first | done | rfl) ?_
        with_reducible refine (treeAt.uni a [.string a.f0, .int .i64 a.f1.f0, .int .i64 a.f1.f1, .int .i64 a.f1.f2, .slice X2 a.f2.length X2c, .slice X3 a.f3.length X3c, .slice X4 a.f4.length X4c, .int .i64 a.f5.f0, .string a.f5.f1, .string a.f5.f2, .string a.f5.f3, .int .i64 a.f5.f4, .int .i64 a.f5.f5.f0, .int .i64 a.f5.f5.f1, .int .i64 a.f5.f5.f2, .int .i64 a.f5.f6.f0, .int .i64 a.f5.f6.f1, .int .i64 a.f5.f6.f2, .int .i64 a.f5.f6.f3, .int .i64 a.f5.f6.f4.f0, .int .i64 a.f5.f6.f4.f1, .int .i64 a.f5.f6.f4.f2, .int .i64 a.f5.f6.f5.f0, .int .i64 a.f5.f6.f5.f1, .int .i64 a.f5.f6.f5.f2, .int .i64 a.f5.f6.f6.f0, .int .i64 a.f5.f6.f6.f1, .int .i64 a.f5.f6.f7, .slice X7 a.f5.f7.length X7c, .slice X8 a.f5.f8.length X8c] path Q7 q7 _ (k36.K_below (below_step HD.out HM.out) DXK.out) HPC.out HPB.out HWA.out.w5).mono ?_
        rintro e w7a1xxx ⟨ds7, rfl, hF, hb⟩
        refine ⟨_, rfl, ?_⟩
        have HMID := Aside0.mk (mid_ahead HM.out HGX.out HX.out hF hb)
        have HMn := Aside0.mk (below_step HM.out hb)
        clear HM
        have HM := HMn
        clear HMn
        clear hF hb
        refine hK.out _ _ (blk_below HW.out HM.out) (fun _ => ?_)
        clear hK K
        refine norm_ (a' := ?_) ?_ ?_
        rotate_left
        · show Act.put _ (some 43) _ = _
          simp only [Act.put, List.setIfInBounds_toArray, List.set_cons_zero, List.set_cons_succ, i64_w, i32_w]
          rfl
        refine pure_ (i := 5) (N := some 38) (v := ?_) (a' := ?_) #[true, true, true, true, true, true, false, false, true, false, false] rfl rfl (by kernel_rfl) (fun _ _ _ h => h) (Or.inl ⟨by rfl, ?_⟩) ?_ ?_
        rotate_left
        · intro w'
          go_simp
          with_reducible rfl
        rotate_left
        · simp only [Act.put, List.setIfInBounds_toArray, List.set_cons_zero, List.set_cons_succ, i64_w, i32_w]
          rfl
        refine pure_ (i := 6) (N := some 44) (v := ?_) (a' := ?_) #[true, true, true, true, true, true, true, false, true, false, false] rfl rfl (by kernel_rfl) (fun _ _ _ h => h) (Or.inl ⟨by rfl, ?_⟩) ?_ ?_
        rotate_left
        · intro w'
          go_simp
          with_reducible rfl
        rotate_left
        · simp only [Act.put, List.setIfInBounds_toArray, List.set_cons_zero, List.set_cons_succ, i64_w, i32_w]
          rfl
        refine pure_ (i := 7) (N := some 45) (v := ?_) (a' := ?_) #[true, true, true, true, true, true, true, true, true, false, false] rfl rfl (by kernel_rfl) (fun _ _ _ h => h) (Or.inl ⟨by rfl, ?_⟩) ?_ ?_
        rotate_left
        · intro w'
          go_simp
          with_reducible rfl
        rotate_left
        · simp only [Act.put, List.setIfInBounds_toArray, List.set_cons_zero, List.set_cons_succ, i64_w, i32_w]
          rfl
        exact norm_ (by simp only [putAll, Act.put, List.setIfInBounds_toArray, List.set_cons_zero, List.set_cons_succ, i64_w, i32_w]) (hjoin (gb, Q7, q7, ds7, g7) _ HMID.out)
    · refine box_value (t := 34) (cs := #[.int .i64 0, .string ⟨#[]⟩, .string ⟨#[]⟩, .string ⟨#[]⟩, .int .i64 0, .int .i64 0, .int .i64 0, .int .i64 0, .int .i64 0, .int .i64 0, .int .i64 0, .int .i64 0, .int .i64 0, .int .i64 0, .int .i64 0, .int .i64 0, .int .i64 0, .int .i64 0, .int .i64 0, .int .i64 0, .int .i64 0, .slice none 0 0, .slice none 0 0]) (by rfl) rfl (by first | (go_simp; done) | (go_simp; rfl)) ?_
      intro g7 hgx w7a1 hbx hb
      have HGX := Aside0.mk (show w7a.heap.size ≤ g7 by rw [hgx]; exact HM.out.size)
      have HMn := Aside0.mk (below_step HM.out hb)
      clear HM
      have HM := HMn
      clear HMn
      have HX := Aside0.mk hbx
      clear hbx hb
      refine hK.out _ _ (blk_below HW.out HM.out) (fun _ => ?_)
      clear hK K
      refine norm_ (a' := ?_) ?_ ?_
      rotate_left
      · show Act.put _ (some 11) _ = _
        simp only [Act.put, List.setIfInBounds_toArray, List.set_cons_zero, List.set_cons_succ, i64_w, i32_w]
        rfl
      refine one_ (i := 1) (N := some 40) #[true, true, true, false, false, false, false, false, true, false, false] rfl rfl (by kernel_rfl) (by decide) (fun K hK => ?_)
      refine empty_value (t := 3) (by rfl) rfl (by go_simp) ?_
      intro gb hgb w7a1x hbb hb
      have HGB := Aside0.mk (show w7a.heap.size ≤ gb by rw [hgb]; exact HM.out.size)
      have HMn := Aside0.mk (below_step HM.out hb)
      clear HM
      have HM := HMn
      clear HMn
      have HBB := Aside0.mk hbb
      have HXn := Aside0.mk (blk_below HX.out hb)
      clear HX
      have HX := HXn
      clear HXn
      clear hbb hb
      refine hK.out _ _ (blk_below HW.out HM.out) (fun _ => ?_)
      clear hK K
      refine norm_ (a' := ?_) ?_ ?_
      rotate_left
      · show Act.put _ (some 40) _ = _
        simp only [Act.put, List.setIfInBounds_toArray, List.set_cons_zero, List.set_cons_succ, i64_w, i32_w]
        rfl
      refine one_ (i := 3) (N := some 42) #[true, true, true, true, false, false, false, false, true, false, false] rfl rfl (by kernel_rfl) (by decide) (fun K hK => ?_)
      have HNE := Aside0.mk (show gb ≠ g7 from fun he => by have h1 := HBB.out; have h2 := HX.out; rw [he, h2] at h1; injection h1 with h1; injection h1 with h1 h3 h4; exact absurd h3 (by decide))
      refine path_value (P := Try.prog) (path := path) (A := P) (pc := pc) (h := gb) (by rfl) rfl rfl rfl (by first | rfl | (go_simp; done) | (go_simp; rfl)) (by first | rfl | (go_simp; done) | (go_simp; rfl)) HBB.out (Kd.C_below (Kd.C_below HPR.out HB.out) (below_step HD.out HM.out)) HPL.out Try.underlying40 (by kernel_rfl) ?_
      intro Q7 q7 w7a1xx hC hg
      have HMn := Aside0.mk (grown_below hg HGB.out HM.out HM.out.size)
      clear HM
      have HM := HMn
      clear HMn
      have HPC := Aside0.mk hC
      have HXn := Aside0.mk (blk_grown HX.out hg (fun he => by injection he with he; exact HNE.out he.symm))
      clear HX
      have HX := HXn
      clear HXn
      clear hC hg
      refine hK.out _ _ (blk_below HW.out HM.out) (fun _ => ?_)
      clear hK K
      refine norm_ (a' := ?_) ?_ ?_
      rotate_left
      · show Act.put _ (some 42) _ = _
        simp only [Act.put, List.setIfInBounds_toArray, List.set_cons_zero, List.set_cons_succ, i64_w, i32_w]
        rfl
      refine one_ (i := 4) (N := some 43) #[true, true, true, true, true, false, false, false, true, false, false] rfl rfl (by kernel_rfl) (by decide) (fun K hK => ?_)
      refine goes_ Try.func11 (by kernel_rfl) rfl #[.agg #[.string a.f0, .int .i64 a.f1.f0, .int .i64 a.f1.f1, .int .i64 a.f1.f2, .slice X2 a.f2.length X2c, .slice X3 a.f3.length X3c, .slice X4 a.f4.length X4c, .int .i64 a.f5.f0, .string a.f5.f1, .string a.f5.f2, .string a.f5.f3, .int .i64 a.f5.f4, .int .i64 a.f5.f5.f0, .int .i64 a.f5.f5.f1, .int .i64 a.f5.f5.f2, .int .i64 a.f5.f6.f0, .int .i64 a.f5.f6.f1, .int .i64 a.f5.f6.f2, .int .i64 a.f5.f6.f3, .int .i64 a.f5.f6.f4.f0, .int .i64 a.f5.f6.f4.f1, .int .i64 a.f5.f6.f4.f2, .int .i64 a.f5.f6.f5.f0, .int .i64 a.f5.f6.f5.f1, .int .i64 a.f5.f6.f5.f2, .int .i64 a.f5.f6.f6.f0, .int .i64 a.f5.f6.f6.f1, .int .i64 a.f5.f6.f7, .slice X7 a.f5.f7.length X7c, .slice X8 a.f5.f8.length X8c], .slice Q7 path.length q7] (by rfl) rfl rfl (by (try simp only [List.map_toArray, List.map_cons, List.map_nil]); first | done | rfl) ?_
      with_reducible refine (treeAt.uni a [.string a.f0, .int .i64 a.f1.f0, .int .i64 a.f1.f1, .int .i64 a.f1.f2, .slice X2 a.f2.length X2c, .slice X3 a.f3.length X3c, .slice X4 a.f4.length X4c, .int .i64 a.f5.f0, .string a.f5.f1, .string a.f5.f2, .string a.f5.f3, .int .i64 a.f5.f4, .int .i64 a.f5.f5.f0, .int .i64 a.f5.f5.f1, .int .i64 a.f5.f5.f2, .int .i64 a.f5.f6.f0, .int .i64 a.f5.f6.f1, .int .i64 a.f5.f6.f2, .int .i64 a.f5.f6.f3, .int .i64 a.f5.f6.f4.f0, .int .i64 a.f5.f6.f4.f1, .int .i64 a.f5.f6.f4.f2, .int .i64 a.f5.f6.f5.f0, .int .i64 a.f5.f6.f5.f1, .int .i64 a.f5.f6.f5.f2, .int .i64 a.f5.f6.f6.f0, .int .i64 a.f5.f6.f6.f1, .int .i64 a.f5.f6.f7, .slice X7 a.f5.f7.length X7c, .slice X8 a.f5.f8.length X8c] path Q7 q7 _ (k36.K_below (below_step HD.out HM.out) DXK.out) HPC.out HPB.out HWA.out.w5).mono ?_
      rintro e w7a1xxx ⟨ds7, rfl, hF, hb⟩
      refine ⟨_, rfl, ?_⟩
      have HMID := Aside0.mk (mid_ahead HM.out HGX.out HX.out hF hb)
      have HMn := Aside0.mk (below_step HM.out hb)
      clear HM
      have HM := HMn
      clear HMn
      clear hF hb
      refine hK.out _ _ (blk_below HW.out HM.out) (fun _ => ?_)
      clear hK K
      refine norm_ (a' := ?_) ?_ ?_
      rotate_left
      · show Act.put _ (some 43) _ = _
        simp only [Act.put, List.setIfInBounds_toArray, List.set_cons_zero, List.set_cons_succ, i64_w, i32_w]
        rfl
      refine pure_ (i := 5) (N := some 38) (v := ?_) (a' := ?_) #[true, true, true, true, true, true, false, false, true, false, false] rfl rfl (by kernel_rfl) (fun _ _ _ h => h) (Or.inl ⟨by rfl, ?_⟩) ?_ ?_
      rotate_left
      · intro w'
        go_simp
        with_reducible rfl
      rotate_left
      · simp only [Act.put, List.setIfInBounds_toArray, List.set_cons_zero, List.set_cons_succ, i64_w, i32_w]
        rfl
      refine pure_ (i := 6) (N := some 44) (v := ?_) (a' := ?_) #[true, true, true, true, true, true, true, false, true, false, false] rfl rfl (by kernel_rfl) (fun _ _ _ h => h) (Or.inl ⟨by rfl, ?_⟩) ?_ ?_
      rotate_left
      · intro w'
        go_simp
        with_reducible rfl
      rotate_left
      · simp only [Act.put, List.setIfInBounds_toArray, List.set_cons_zero, List.set_cons_succ, i64_w, i32_w]
        rfl
      refine pure_ (i := 7) (N := some 45) (v := ?_) (a' := ?_) #[true, true, true, true, true, true, true, true, true, false, false] rfl rfl (by kernel_rfl) (fun _ _ _ h => h) (Or.inl ⟨by rfl, ?_⟩) ?_ ?_
      rotate_left
      · intro w'
        go_simp
        with_reducible rfl
      rotate_left
      · simp only [Act.put, List.setIfInBounds_toArray, List.set_cons_zero, List.set_cons_succ, i64_w, i32_w]
        rfl
      exact norm_ (by simp only [putAll, Act.put, List.setIfInBounds_toArray, List.set_cons_zero, List.set_cons_succ, i64_w, i32_w]) (hjoin (gb, Q7, q7, ds7, g7) _ HMID.out)
  rintro ⟨gb, Q7, q7, ds7, g7⟩ w7m HMID0
  have HMID := Aside0.mk HMID0
  clear HMID0
  refine norm_ (a' := ?_) ?_ ?_
  rotate_left
  · simp only [putAll, Act.put, List.setIfInBounds_toArray, List.set_cons_zero, List.set_cons_succ, i64_w, i32_w]
    rfl
  refine last_ (i := 9) (N := none) #[true, true, true, true, true, true, true, true, true, true, false] rfl rfl (by kernel_rfl) (by decide) (fun K hK => ?_)
  have hln := k34.K_len (k34.K_of_M HMID.out.2.2.2)
  have hon := k34.K_one (k34.K_of_M HMID.out.2.2.2)
  refine stw_step (by rfl) rfl rfl (g := g7) (by first | rfl | (go_simp; done) | (go_simp; rfl)) (cs := ds7) (by first | rfl | (go_simp; done) | (go_simp; rfl)) HMID.out.2.2.1 (by rw [hln]; exact size34) (by rw [hln]; rfl) hon ?_
  intro w7b hbk ho
  have hgot : Got w7b w7a.heap.size w7b.heap.size g7 (foundC a path) ds7 ∧ Below w7a.heap.size w7a w7b := mid_got HMID.out ho hbk
  have G7 := Aside0.mk hgot.1
  have H7 := Aside0.mk (below_step HE.out hgot.2)
  have C7 := Aside0.mk (below_step C6.out H7.out)
  have SZ7 := Aside0.mk HE.out.size
  clear hgot hln hon hbk ho
  refine hK.out _ _ ?_
  clear hK K
  refine norm_ (a' := ?_) ?_ ?_
  rotate_left
  · show Act.put _ none _ = _
    simp only [Act.put, List.setIfInBounds_toArray, List.set_cons_zero, List.set_cons_succ, i64_w, i32_w]
    rfl
  refine pure_ (i := 10) (N := some 12) (v := ?_) (a' := ?_) #[true, true, true, true, true, true, true, true, true, true, true] rfl rfl (by kernel_rfl) (fun _ _ _ h => h) (Or.inl ⟨by rfl, ?_⟩) ?_ ?_
  rotate_left
  · intro w'
    go_simp
    with_reducible rfl
  rotate_left
  · simp only [Act.put, List.setIfInBounds_toArray, List.set_cons_zero, List.set_cons_succ, i64_w, i32_w]
    rfl
  refine done_ (by kernel_rfl) ?_
  clear HMID HD HE hHeld
  have H6S := Aside0.mk (Nat.le_refl w6b.heap.size)
  go_upto_region 12 with (first | ((with_reducible refine gate_callee (f := 12) rfl ?_); (try (refine gate_guard (by rfl) ?_; dsimp only)); refine goesL_ (some 46) rfl rfl Try.func12 (by kernel_rfl) rfl #[.pointer (some ⟨g6, 0, none⟩)] rfl (by (try simp only [List.map_toArray, List.map_cons, List.map_nil]); first | done | rfl) ?_; (with_reducible refine (Got.scrawl (Got.below G6.out H7.out) (foundC_wf HWA.out.w5 path)).mono ?_); rintro e w8 ⟨rfl, hs⟩; refine ⟨_, rfl, ?_⟩; have C8 := Aside0.mk (Soft.past C7.out C7.out.size hs (fun k hk => Nat.le_trans SZ6.out hk.1)); have G7s := Aside0.mk (Got.soft G7.out hs (fun k hk => .inl (Nat.lt_of_lt_of_le hk.2 (Nat.le_trans H6S.out SZ7.out)))); clear hs) | ((with_reducible refine gate_dst (N := 47) rfl ?_); (try (refine gate_guard (by rfl) ?_; dsimp only)); refine ldw_event rfl rfl (by first | rfl | (go_simp; done) | (go_simp; rfl)) Try.underlying34 ⟨_, rfl⟩ G7s.out.blk (by rw [got_cells G7s.out]; exact size34) ?_) | ((with_reducible refine gate_dst (N := 48) rfl ?_); (try (refine gate_guard (by rfl) ?_; dsimp only)); refine ldw_event rfl rfl (by first | rfl | (go_simp; done) | (go_simp; rfl)) Try.underlying34 ⟨_, rfl⟩ (blk_below BK3.out C8.out) SZC.out ?_) | ((with_reducible refine gate_callee (f := 13) rfl ?_); (try (refine gate_guard (by rfl) ?_; dsimp only)); refine goesL_ (some 49) rfl rfl Try.func13 (by kernel_rfl) rfl #[.agg ds7.toArray, .agg ds_.toArray] rfl (by (try simp only [List.map_toArray, List.map_cons, List.map_nil]); first | done | rfl) ?_; (with_reducible refine (same_found HWA.out.w5 path ds7 ds_ _ G7s.out.k (k34.K_below C8.out (k34.K_below HBC.out HKC.out))).mono ?_); rintro e w9 ⟨rfl, hb⟩; refine ⟨_, rfl, ?_⟩; have C9 := Aside0.mk (below_step C8.out hb); clear hb))
  refine start_ (n := 11) (S := fun w' => w'.heap[g2]? = some (.cells #[.string a.f0, .int .i64 a.f1.f0, .int .i64 a.f1.f1, .int .i64 a.f1.f2, .slice X2 a.f2.length X2c, .slice X3 a.f3.length X3c, .slice X4 a.f4.length X4c, .int .i64 a.f5.f0, .string a.f5.f1, .string a.f5.f2, .string a.f5.f3, .int .i64 a.f5.f4, .int .i64 a.f5.f5.f0, .int .i64 a.f5.f5.f1, .int .i64 a.f5.f5.f2, .int .i64 a.f5.f6.f0, .int .i64 a.f5.f6.f1, .int .i64 a.f5.f6.f2, .int .i64 a.f5.f6.f3, .int .i64 a.f5.f6.f4.f0, .int .i64 a.f5.f6.f4.f1, .int .i64 a.f5.f6.f4.f2, .int .i64 a.f5.f6.f5.f0, .int .i64 a.f5.f6.f5.f1, .int .i64 a.f5.f6.f5.f2, .int .i64 a.f5.f6.f6.f0, .int .i64 a.f5.f6.f6.f1, .int .i64 a.f5.f6.f7, .slice X7 a.f5.f7.length X7c, .slice X8 a.f5.f8.length X8c] 36 (0, 0))) (ds := [9, 10]) #[false, false, false, false, false, false, false, false, false, false, false] (by kernel_rfl) rfl rfl (blk_below BK2.out (below_drew1 C9.out)) (fun hHeld => ?_)
  have HD := Aside0.mk (below_drew1 C9.out)
  have HE := Aside0.mk (below_drew1 (Below.refl w9.heap.size w9))
  generalize w9.drew = w12a at hHeld HD HE ⊢
  refine take_ (i := 0) (N := some 53) (v := ?_) (a' := ?_) #[true, false, false, false, false, false, false, false, false, false, false] rfl rfl (by kernel_rfl) (fun _ _ _ h => h) (Or.inl ⟨by rfl, ?_⟩) hHeld ?_ ?_
  rotate_left
  · rintro w' s2
    refine Eq.trans (ldb_run rfl (by first | rfl | (go_simp; done) | (go_simp; rfl)) Try.underlying36 ⟨_, rfl⟩ s2 30 size36' [.string a.f0, .int .i64 a.f1.f0, .int .i64 a.f1.f1, .int .i64 a.f1.f2, .slice X2 a.f2.length X2c, .slice X3 a.f3.length X3c, .slice X4 a.f4.length X4c, .int .i64 a.f5.f0, .string a.f5.f1, .string a.f5.f2, .string a.f5.f3, .int .i64 a.f5.f4, .int .i64 a.f5.f5.f0, .int .i64 a.f5.f5.f1, .int .i64 a.f5.f5.f2, .int .i64 a.f5.f6.f0, .int .i64 a.f5.f6.f1, .int .i64 a.f5.f6.f2, .int .i64 a.f5.f6.f3, .int .i64 a.f5.f6.f4.f0, .int .i64 a.f5.f6.f4.f1, .int .i64 a.f5.f6.f4.f2, .int .i64 a.f5.f6.f5.f0, .int .i64 a.f5.f6.f5.f1, .int .i64 a.f5.f6.f5.f2, .int .i64 a.f5.f6.f6.f0, .int .i64 a.f5.f6.f6.f1, .int .i64 a.f5.f6.f7, .slice X7 a.f5.f7.length X7c, .slice X8 a.f5.f8.length X8c] rfl rfl) ?_
    with_reducible rfl
  rotate_left
  · simp only [Act.put, List.setIfInBounds_toArray, List.set_cons_zero, List.set_cons_succ, i64_w, i32_w]
    rfl
  refine pure_ (i := 2) (N := some 55) (v := ?_) (a' := ?_) #[true, false, true, false, false, false, false, false, false, false, false] rfl rfl (by kernel_rfl) (fun _ _ _ h => h) (Or.inl ⟨by rfl, ?_⟩) ?_ ?_
  rotate_left
  · intro w'
    go_simp
    with_reducible rfl
  rotate_left
  · simp only [Act.put, List.setIfInBounds_toArray, List.set_cons_zero, List.set_cons_succ, i64_w, i32_w]
    rfl
  refine join_ (σ := Nat × Option Addr × Nat × List Value × Nat) 2 #[true, true, true, true, true, true, true, true, true, false, false] (fun s => [(54, .slice (some ⟨s.1, 0, none⟩) 0 0), (56, .slice s.2.1 path.length s.2.2.1), (57, .tuple #[.agg s.2.2.2.1.toArray, .int .i64 (foundE a path)]), (52, .tuple #[.agg s.2.2.2.1.toArray, .int .i64 (foundE a path)]), (58, .agg s.2.2.2.1.toArray), (59, .int .i64 (foundE a path)), (14, .pointer (some ⟨s.2.2.2.2, 0, none⟩))]) (fun s w' => Mid w12a (foundC a path) s.2.2.2.2 s.2.2.2.1 w') ?hcont12 ?hord12
  case hord12 =>
    intro hjoin
    have HM := Aside0.mk (Below.refl w12a.heap.size w12a)
    have HW := Aside0.mk hHeld
    refine two_ (i := 1) (j := 8) (Ni := some 54) (Nj := some 14) #[true, true, true, false, false, false, false, false, false, false, false] #[true, false, true, false, false, false, false, false, true, false, false] rfl rfl rfl rfl (by kernel_rfl) (by decide) (by decide) (fun K hK => ?_) (fun K hK => ?_)
    · refine empty_value (t := 3) (by rfl) rfl (by go_simp) ?_
      intro gb hgb w12a1 hbb hb
      have HGB := Aside0.mk (show w12a.heap.size ≤ gb by rw [hgb]; exact HM.out.size)
      have HMn := Aside0.mk (below_step HM.out hb)
      clear HM
      have HM := HMn
      clear HMn
      have HBB := Aside0.mk hbb
      clear hbb hb
      refine hK.out _ _ (blk_below HW.out HM.out) (fun _ => ?_)
      clear hK K
      refine norm_ (a' := ?_) ?_ ?_
      rotate_left
      · show Act.put _ (some 54) _ = _
        simp only [Act.put, List.setIfInBounds_toArray, List.set_cons_zero, List.set_cons_succ, i64_w, i32_w]
        rfl
      refine two_ (i := 3) (j := 8) (Ni := some 56) (Nj := some 14) #[true, true, true, true, false, false, false, false, false, false, false] #[true, true, true, false, false, false, false, false, true, false, false] rfl rfl rfl rfl (by kernel_rfl) (by decide) (by decide) (fun K hK => ?_) (fun K hK => ?_)
      · refine path_value (P := Try.prog) (path := path) (A := P) (pc := pc) (h := gb) (by rfl) rfl rfl rfl (by first | rfl | (go_simp; done) | (go_simp; rfl)) (by first | rfl | (go_simp; done) | (go_simp; rfl)) HBB.out (Kd.C_below (Kd.C_below HPR.out HB.out) (below_step HD.out HM.out)) HPL.out Try.underlying40 (by kernel_rfl) ?_
        intro Q12 q12 w12a1x hC hg
        have HMn := Aside0.mk (grown_below hg HGB.out HM.out HM.out.size)
        clear HM
        have HM := HMn
        clear HMn
        have HPC := Aside0.mk hC
        clear hC hg
        refine hK.out _ _ (blk_below HW.out HM.out) (fun _ => ?_)
        clear hK K
        refine norm_ (a' := ?_) ?_ ?_
        rotate_left
        · show Act.put _ (some 56) _ = _
          simp only [Act.put, List.setIfInBounds_toArray, List.set_cons_zero, List.set_cons_succ, i64_w, i32_w]
          rfl
        refine two_ (i := 4) (j := 8) (Ni := some 57) (Nj := some 14) #[true, true, true, true, true, false, false, false, false, false, false] #[true, true, true, true, false, false, false, false, true, false, false] rfl rfl rfl rfl (by kernel_rfl) (by decide) (by decide) (fun K hK => ?_) (fun K hK => ?_)
        · refine goes_ Try.func11 (by kernel_rfl) rfl #[.agg #[.string a.f0, .int .i64 a.f1.f0, .int .i64 a.f1.f1, .int .i64 a.f1.f2, .slice X2 a.f2.length X2c, .slice X3 a.f3.length X3c, .slice X4 a.f4.length X4c, .int .i64 a.f5.f0, .string a.f5.f1, .string a.f5.f2, .string a.f5.f3, .int .i64 a.f5.f4, .int .i64 a.f5.f5.f0, .int .i64 a.f5.f5.f1, .int .i64 a.f5.f5.f2, .int .i64 a.f5.f6.f0, .int .i64 a.f5.f6.f1, .int .i64 a.f5.f6.f2, .int .i64 a.f5.f6.f3, .int .i64 a.f5.f6.f4.f0, .int .i64 a.f5.f6.f4.f1, .int .i64 a.f5.f6.f4.f2, .int .i64 a.f5.f6.f5.f0, .int .i64 a.f5.f6.f5.f1, .int .i64 a.f5.f6.f5.f2, .int .i64 a.f5.f6.f6.f0, .int .i64 a.f5.f6.f6.f1, .int .i64 a.f5.f6.f7, .slice X7 a.f5.f7.length X7c, .slice X8 a.f5.f8.length X8c], .slice Q12 path.length q12] (by rfl) rfl rfl (by (try simp only [List.map_toArray, List.map_cons, List.map_nil]); first | done | rfl) ?_
          with_reducible refine (treeAt.uni a [.string a.f0, .int .i64 a.f1.f0, .int .i64 a.f1.f1, .int .i64 a.f1.f2, .slice X2 a.f2.length X2c, .slice X3 a.f3.length X3c, .slice X4 a.f4.length X4c, .int .i64 a.f5.f0, .string a.f5.f1, .string a.f5.f2, .string a.f5.f3, .int .i64 a.f5.f4, .int .i64 a.f5.f5.f0, .int .i64 a.f5.f5.f1, .int .i64 a.f5.f5.f2, .int .i64 a.f5.f6.f0, .int .i64 a.f5.f6.f1, .int .i64 a.f5.f6.f2, .int .i64 a.f5.f6.f3, .int .i64 a.f5.f6.f4.f0, .int .i64 a.f5.f6.f4.f1, .int .i64 a.f5.f6.f4.f2, .int .i64 a.f5.f6.f5.f0, .int .i64 a.f5.f6.f5.f1, .int .i64 a.f5.f6.f5.f2, .int .i64 a.f5.f6.f6.f0, .int .i64 a.f5.f6.f6.f1, .int .i64 a.f5.f6.f7, .slice X7 a.f5.f7.length X7c, .slice X8 a.f5.f8.length X8c] path Q12 q12 _ (k36.K_below (below_step HD.out HM.out) DXK.out) HPC.out HPB.out HWA.out.w5).mono ?_
          rintro e w12a1xx ⟨ds12, rfl, hF, hb⟩
          refine ⟨_, rfl, ?_⟩
          have HFr := Aside0.mk hF
          have HCb := Aside0.mk hb
          have HMc := Aside0.mk HM.out
          have HMn := Aside0.mk (below_step HM.out hb)
          clear HM
          have HM := HMn
          clear HMn
          clear hF hb
          refine hK.out _ _ (blk_below HW.out HM.out) (fun _ => ?_)
          clear hK K
          refine norm_ (a' := ?_) ?_ ?_
          rotate_left
          · show Act.put _ (some 57) _ = _
            simp only [Act.put, List.setIfInBounds_toArray, List.set_cons_zero, List.set_cons_succ, i64_w, i32_w]
            rfl
          refine pure_ (i := 5) (N := some 52) (v := ?_) (a' := ?_) #[true, true, true, true, true, true, false, false, false, false, false] rfl rfl (by kernel_rfl) (fun _ _ _ h => h) (Or.inl ⟨by rfl, ?_⟩) ?_ ?_
          rotate_left
          · intro w'
            go_simp
            with_reducible rfl
          rotate_left
          · simp only [Act.put, List.setIfInBounds_toArray, List.set_cons_zero, List.set_cons_succ, i64_w, i32_w]
            rfl
          refine pure_ (i := 6) (N := some 58) (v := ?_) (a' := ?_) #[true, true, true, true, true, true, true, false, false, false, false] rfl rfl (by kernel_rfl) (fun _ _ _ h => h) (Or.inl ⟨by rfl, ?_⟩) ?_ ?_
          rotate_left
          · intro w'
            go_simp
            with_reducible rfl
          rotate_left
          · simp only [Act.put, List.setIfInBounds_toArray, List.set_cons_zero, List.set_cons_succ, i64_w, i32_w]
            rfl
          refine pure_ (i := 7) (N := some 59) (v := ?_) (a' := ?_) #[true, true, true, true, true, true, true, true, false, false, false] rfl rfl (by kernel_rfl) (fun _ _ _ h => h) (Or.inl ⟨by rfl, ?_⟩) ?_ ?_
          rotate_left
          · intro w'
            go_simp
            with_reducible rfl
          rotate_left
          · simp only [Act.put, List.setIfInBounds_toArray, List.set_cons_zero, List.set_cons_succ, i64_w, i32_w]
            rfl
          refine one_ (i := 8) (N := some 14) #[true, true, true, true, true, true, true, true, true, false, false] rfl rfl (by kernel_rfl) (by decide) (fun K hK => ?_)
          refine box_value (t := 34) (cs := #[.int .i64 0, .string ⟨#[]⟩, .string ⟨#[]⟩, .string ⟨#[]⟩, .int .i64 0, .int .i64 0, .int .i64 0, .int .i64 0, .int .i64 0, .int .i64 0, .int .i64 0, .int .i64 0, .int .i64 0, .int .i64 0, .int .i64 0, .int .i64 0, .int .i64 0, .int .i64 0, .int .i64 0, .int .i64 0, .int .i64 0, .slice none 0 0, .slice none 0 0]) (by rfl) rfl (by first | (go_simp; done) | (go_simp; rfl)) ?_
          intro g12 hgx w12a1xxx hbx hb
          have HGX := Aside0.mk (show w12a.heap.size ≤ g12 by rw [hgx]; exact HM.out.size)
          have HMID := Aside0.mk (mid_behind HMc.out HFr.out HCb.out hgx hbx hb)
          have HMn := Aside0.mk (below_step HM.out hb)
          clear HM
          have HM := HMn
          clear HMn
          have HX := Aside0.mk hbx
          clear hbx hb
          refine hK.out _ _ (blk_below HW.out HM.out) (fun _ => ?_)
          clear hK K
          refine norm_ (a' := ?_) ?_ ?_
          rotate_left
          · show Act.put _ (some 14) _ = _
            simp only [Act.put, List.setIfInBounds_toArray, List.set_cons_zero, List.set_cons_succ, i64_w, i32_w]
            rfl
          exact norm_ (by simp only [putAll, Act.put, List.setIfInBounds_toArray, List.set_cons_zero, List.set_cons_succ, i64_w, i32_w]) (hjoin (gb, Q12, q12, ds12, g12) _ HMID.out)
        · refine box_value (t := 34) (cs := #[.int .i64 0, .string ⟨#[]⟩, .string ⟨#[]⟩, .string ⟨#[]⟩, .int .i64 0, .int .i64 0, .int .i64 0, .int .i64 0, .int .i64 0, .int .i64 0, .int .i64 0, .int .i64 0, .int .i64 0, .int .i64 0, .int .i64 0, .int .i64 0, .int .i64 0, .int .i64 0, .int .i64 0, .int .i64 0, .int .i64 0, .slice none 0 0, .slice none 0 0]) (by rfl) rfl (by first | (go_simp; done) | (go_simp; rfl)) ?_
          intro g12 hgx w12a1xx hbx hb
          have HGX := Aside0.mk (show w12a.heap.size ≤ g12 by rw [hgx]; exact HM.out.size)
          have HMn := Aside0.mk (below_step HM.out hb)
          clear HM
          have HM := HMn
          clear HMn
          have HX := Aside0.mk hbx
          have HPn := Aside0.mk (Kd.C_below HPC.out hb)
          clear HPC
          have HPC := HPn
          clear HPn
          clear hbx hb
          refine hK.out _ _ (blk_below HW.out HM.out) (fun _ => ?_)
          clear hK K
          refine norm_ (a' := ?_) ?_ ?_
          rotate_left
          · show Act.put _ (some 14) _ = _
            simp only [Act.put, List.setIfInBounds_toArray, List.set_cons_zero, List.set_cons_succ, i64_w, i32_w]
            rfl
          refine one_ (i := 4) (N := some 57) #[true, true, true, true, true, false, false, false, true, false, false] rfl rfl (by kernel_rfl) (by decide) (fun K hK => ?_)
          refine goes_ Try.func11 (by kernel_rfl) rfl #[.agg #[.string a.f0, .int .i64 a.f1.f0, .int .i64 a.f1.f1, .int .i64 a.f1.f2, .slice X2 a.f2.length X2c, .slice X3 a.f3.length X3c, .slice X4 a.f4.length X4c, .int .i64 a.f5.f0, .string a.f5.f1, .string a.f5.f2, .string a.f5.f3, .int .i64 a.f5.f4, .int .i64 a.f5.f5.f0, .int .i64 a.f5.f5.f1, .int .i64 a.f5.f5.f2, .int .i64 a.f5.f6.f0, .int .i64 a.f5.f6.f1, .int .i64 a.f5.f6.f2, .int .i64 a.f5.f6.f3, .int .i64 a.f5.f6.f4.f0, .int .i64 a.f5.f6.f4.f1, .int .i64 a.f5.f6.f4.f2, .int .i64 a.f5.f6.f5.f0, .int .i64 a.f5.f6.f5.f1, .int .i64 a.f5.f6.f5.f2, .int .i64 a.f5.f6.f6.f0, .int .i64 a.f5.f6.f6.f1, .int .i64 a.f5.f6.f7, .slice X7 a.f5.f7.length X7c, .slice X8 a.f5.f8.length X8c], .slice Q12 path.length q12] (by rfl) rfl rfl (by (try simp only [List.map_toArray, List.map_cons, List.map_nil]); first | done | rfl) ?_
          with_reducible refine (treeAt.uni a [.string a.f0, .int .i64 a.f1.f0, .int .i64 a.f1.f1, .int .i64 a.f1.f2, .slice X2 a.f2.length X2c, .slice X3 a.f3.length X3c, .slice X4 a.f4.length X4c, .int .i64 a.f5.f0, .string a.f5.f1, .string a.f5.f2, .string a.f5.f3, .int .i64 a.f5.f4, .int .i64 a.f5.f5.f0, .int .i64 a.f5.f5.f1, .int .i64 a.f5.f5.f2, .int .i64 a.f5.f6.f0, .int .i64 a.f5.f6.f1, .int .i64 a.f5.f6.f2, .int .i64 a.f5.f6.f3, .int .i64 a.f5.f6.f4.f0, .int .i64 a.f5.f6.f4.f1, .int .i64 a.f5.f6.f4.f2, .int .i64 a.f5.f6.f5.f0, .int .i64 a.f5.f6.f5.f1, .int .i64 a.f5.f6.f5.f2, .int .i64 a.f5.f6.f6.f0, .int .i64 a.f5.f6.f6.f1, .int .i64 a.f5.f6.f7, .slice X7 a.f5.f7.length X7c, .slice X8 a.f5.f8.length X8c] path Q12 q12 _ (k36.K_below (below_step HD.out HM.out) DXK.out) HPC.out HPB.out HWA.out.w5).mono ?_
          rintro e w12a1xxx ⟨ds12, rfl, hF, hb⟩
          refine ⟨_, rfl, ?_⟩
          have HMID := Aside0.mk (mid_ahead HM.out HGX.out HX.out hF hb)
          have HMn := Aside0.mk (below_step HM.out hb)
          clear HM
          have HM := HMn
          clear HMn
          clear hF hb
          refine hK.out _ _ (blk_below HW.out HM.out) (fun _ => ?_)
          clear hK K
          refine norm_ (a' := ?_) ?_ ?_
          rotate_left
          · show Act.put _ (some 57) _ = _
            simp only [Act.put, List.setIfInBounds_toArray, List.set_cons_zero, List.set_cons_succ, i64_w, i32_w]
            rfl
          refine pure_ (i := 5) (N := some 52) (v := ?_) (a' := ?_) #[true, true, true, true, true, true, false, false, true, false, false] rfl rfl (by kernel_rfl) (fun _ _ _ h => h) (Or.inl ⟨by rfl, ?_⟩) ?_ ?_
          rotate_left
          · intro w'
            go_simp
            with_reducible rfl
          rotate_left
          · simp only [Act.put, List.setIfInBounds_toArray, List.set_cons_zero, List.set_cons_succ, i64_w, i32_w]
            rfl
          refine pure_ (i := 6) (N := some 58) (v := ?_) (a' := ?_) #[true, true, true, true, true, true, true, false, true, false, false] rfl rfl (by kernel_rfl) (fun _ _ _ h => h) (Or.inl ⟨by rfl, ?_⟩) ?_ ?_
          rotate_left
          · intro w'
            go_simp
            with_reducible rfl
          rotate_left
          · simp only [Act.put, List.setIfInBounds_toArray, List.set_cons_zero, List.set_cons_succ, i64_w, i32_w]
            rfl
          refine pure_ (i := 7) (N := some 59) (v := ?_) (a' := ?_) #[true, true, true, true, true, true, true, true, true, false, false] rfl rfl (by kernel_rfl) (fun _ _ _ h => h) (Or.inl ⟨by rfl, ?_⟩) ?_ ?_
          rotate_left
          · intro w'
            go_simp
            with_reducible rfl
          rotate_left
          · simp only [Act.put, List.setIfInBounds_toArray, List.set_cons_zero, List.set_cons_succ, i64_w, i32_w]
            rfl
          exact norm_ (by simp only [putAll, Act.put, List.setIfInBounds_toArray, List.set_cons_zero, List.set_cons_succ, i64_w, i32_w]) (hjoin (gb, Q12, q12, ds12, g12) _ HMID.out)
      · refine box_value (t := 34) (cs := #[.int .i64 0, .string ⟨#[]⟩, .string ⟨#[]⟩, .string ⟨#[]⟩, .int .i64 0, .int .i64 0, .int .i64 0, .int .i64 0, .int .i64 0, .int .i64 0, .int .i64 0, .int .i64 0, .int .i64 0, .int .i64 0, .int .i64 0, .int .i64 0, .int .i64 0, .int .i64 0, .int .i64 0, .int .i64 0, .int .i64 0, .slice none 0 0, .slice none 0 0]) (by rfl) rfl (by first | (go_simp; done) | (go_simp; rfl)) ?_
        intro g12 hgx w12a1x hbx hb
        have HGX := Aside0.mk (show w12a.heap.size ≤ g12 by rw [hgx]; exact HM.out.size)
        have HMn := Aside0.mk (below_step HM.out hb)
        clear HM
        have HM := HMn
        clear HMn
        have HX := Aside0.mk hbx
        have HBn := Aside0.mk (blk_below HBB.out hb)
        clear HBB
        have HBB := HBn
        clear HBn
        clear hbx hb
        refine hK.out _ _ (blk_below HW.out HM.out) (fun _ => ?_)
        clear hK K
        refine norm_ (a' := ?_) ?_ ?_
        rotate_left
        · show Act.put _ (some 14) _ = _
          simp only [Act.put, List.setIfInBounds_toArray, List.set_cons_zero, List.set_cons_succ, i64_w, i32_w]
          rfl
        refine one_ (i := 3) (N := some 56) #[true, true, true, true, false, false, false, false, true, false, false] rfl rfl (by kernel_rfl) (by decide) (fun K hK => ?_)
        have HNE := Aside0.mk (show gb ≠ g12 from fun he => by have h1 := HBB.out; have h2 := HX.out; rw [he, h2] at h1; injection h1 with h1; injection h1 with h1 h3 h4; exact absurd h3 (by decide))
        refine path_value (P := Try.prog) (path := path) (A := P) (pc := pc) (h := gb) (by rfl) rfl rfl rfl (by first | rfl | (go_simp; done) | (go_simp; rfl)) (by first | rfl | (go_simp; done) | (go_simp; rfl)) HBB.out (Kd.C_below (Kd.C_below HPR.out HB.out) (below_step HD.out HM.out)) HPL.out Try.underlying40 (by kernel_rfl) ?_
        intro Q12 q12 w12a1xx hC hg
        have HMn := Aside0.mk (grown_below hg HGB.out HM.out HM.out.size)
        clear HM
        have HM := HMn
        clear HMn
        have HPC := Aside0.mk hC
        have HXn := Aside0.mk (blk_grown HX.out hg (fun he => by injection he with he; exact HNE.out he.symm))
        clear HX
        have HX := HXn
        clear HXn
        clear hC hg
        refine hK.out _ _ (blk_below HW.out HM.out) (fun _ => ?_)
        clear hK K
        refine norm_ (a' := ?_) ?_ ?_
        rotate_left
        · show Act.put _ (some 56) _ = _
          simp only [Act.put, List.setIfInBounds_toArray, List.set_cons_zero, List.set_cons_succ, i64_w, i32_w]
          rfl
        refine one_ (i := 4) (N := some 57) #[true, true, true, true, true, false, false, false, true, false, false] rfl rfl (by kernel_rfl) (by decide) (fun K hK => ?_)
        refine goes_ Try.func11 (by kernel_rfl) rfl #[.agg #[.string a.f0, .int .i64 a.f1.f0, .int .i64 a.f1.f1, .int .i64 a.f1.f2, .slice X2 a.f2.length X2c, .slice X3 a.f3.length X3c, .slice X4 a.f4.length X4c, .int .i64 a.f5.f0, .string a.f5.f1, .string a.f5.f2, .string a.f5.f3, .int .i64 a.f5.f4, .int .i64 a.f5.f5.f0, .int .i64 a.f5.f5.f1, .int .i64 a.f5.f5.f2, .int .i64 a.f5.f6.f0, .int .i64 a.f5.f6.f1, .int .i64 a.f5.f6.f2, .int .i64 a.f5.f6.f3, .int .i64 a.f5.f6.f4.f0, .int .i64 a.f5.f6.f4.f1, .int .i64 a.f5.f6.f4.f2, .int .i64 a.f5.f6.f5.f0, .int .i64 a.f5.f6.f5.f1, .int .i64 a.f5.f6.f5.f2, .int .i64 a.f5.f6.f6.f0, .int .i64 a.f5.f6.f6.f1, .int .i64 a.f5.f6.f7, .slice X7 a.f5.f7.length X7c, .slice X8 a.f5.f8.length X8c], .slice Q12 path.length q12] (by rfl) rfl rfl (by (try simp only [List.map_toArray, List.map_cons, List.map_nil]); first | done | rfl) ?_
        with_reducible refine (treeAt.uni a [.string a.f0, .int .i64 a.f1.f0, .int .i64 a.f1.f1, .int .i64 a.f1.f2, .slice X2 a.f2.length X2c, .slice X3 a.f3.length X3c, .slice X4 a.f4.length X4c, .int .i64 a.f5.f0, .string a.f5.f1, .string a.f5.f2, .string a.f5.f3, .int .i64 a.f5.f4, .int .i64 a.f5.f5.f0, .int .i64 a.f5.f5.f1, .int .i64 a.f5.f5.f2, .int .i64 a.f5.f6.f0, .int .i64 a.f5.f6.f1, .int .i64 a.f5.f6.f2, .int .i64 a.f5.f6.f3, .int .i64 a.f5.f6.f4.f0, .int .i64 a.f5.f6.f4.f1, .int .i64 a.f5.f6.f4.f2, .int .i64 a.f5.f6.f5.f0, .int .i64 a.f5.f6.f5.f1, .int .i64 a.f5.f6.f5.f2, .int .i64 a.f5.f6.f6.f0, .int .i64 a.f5.f6.f6.f1, .int .i64 a.f5.f6.f7, .slice X7 a.f5.f7.length X7c, .slice X8 a.f5.f8.length X8c] path Q12 q12 _ (k36.K_below (below_step HD.out HM.out) DXK.out) HPC.out HPB.out HWA.out.w5).mono ?_
        rintro e w12a1xxx ⟨ds12, rfl, hF, hb⟩
        refine ⟨_, rfl, ?_⟩
        have HMID := Aside0.mk (mid_ahead HM.out HGX.out HX.out hF hb)
        have HMn := Aside0.mk (below_step HM.out hb)
        clear HM
        have HM := HMn
        clear HMn
        clear hF hb
        refine hK.out _ _ (blk_below HW.out HM.out) (fun _ => ?_)
        clear hK K
        refine norm_ (a' := ?_) ?_ ?_
        rotate_left
        · show Act.put _ (some 57) _ = _
          simp only [Act.put, List.setIfInBounds_toArray, List.set_cons_zero, List.set_cons_succ, i64_w, i32_w]
          rfl
        refine pure_ (i := 5) (N := some 52) (v := ?_) (a' := ?_) #[true, true, true, true, true, true, false, false, true, false, false] rfl rfl (by kernel_rfl) (fun _ _ _ h => h) (Or.inl ⟨by rfl, ?_⟩) ?_ ?_
        rotate_left
        · intro w'
          go_simp
          with_reducible rfl
        rotate_left
        · simp only [Act.put, List.setIfInBounds_toArray, List.set_cons_zero, List.set_cons_succ, i64_w, i32_w]
          rfl
        refine pure_ (i := 6) (N := some 58) (v := ?_) (a' := ?_) #[true, true, true, true, true, true, true, false, true, false, false] rfl rfl (by kernel_rfl) (fun _ _ _ h => h) (Or.inl ⟨by rfl, ?_⟩) ?_ ?_
        rotate_left
        · intro w'
          go_simp
          with_reducible rfl
        rotate_left
        · simp only [Act.put, List.setIfInBounds_toArray, List.set_cons_zero, List.set_cons_succ, i64_w, i32_w]
          rfl
        refine pure_ (i := 7) (N := some 59) (v := ?_) (a' := ?_) #[true, true, true, true, true, true, true, true, true, false, false] rfl rfl (by kernel_rfl) (fun _ _ _ h => h) (Or.inl ⟨by rfl, ?_⟩) ?_ ?_
        rotate_left
        · intro w'
          go_simp
          with_reducible rfl
        rotate_left
        · simp only [Act.put, List.setIfInBounds_toArray, List.set_cons_zero, List.set_cons_succ, i64_w, i32_w]
          rfl
        exact norm_ (by simp only [putAll, Act.put, List.setIfInBounds_toArray, List.set_cons_zero, List.set_cons_succ, i64_w, i32_w]) (hjoin (gb, Q12, q12, ds12, g12) _ HMID.out)
    · refine box_value (t := 34) (cs := #[.int .i64 0, .string ⟨#[]⟩, .string ⟨#[]⟩, .string ⟨#[]⟩, .int .i64 0, .int .i64 0, .int .i64 0, .int .i64 0, .int .i64 0, .int .i64 0, .int .i64 0, .int .i64 0, .int .i64 0, .int .i64 0, .int .i64 0, .int .i64 0, .int .i64 0, .int .i64 0, .int .i64 0, .int .i64 0, .int .i64 0, .slice none 0 0, .slice none 0 0]) (by rfl) rfl (by first | (go_simp; done) | (go_simp; rfl)) ?_
      intro g12 hgx w12a1 hbx hb
      have HGX := Aside0.mk (show w12a.heap.size ≤ g12 by rw [hgx]; exact HM.out.size)
      have HMn := Aside0.mk (below_step HM.out hb)
      clear HM
      have HM := HMn
      clear HMn
      have HX := Aside0.mk hbx
      clear hbx hb
      refine hK.out _ _ (blk_below HW.out HM.out) (fun _ => ?_)
      clear hK K
      refine norm_ (a' := ?_) ?_ ?_
      rotate_left
      · show Act.put _ (some 14) _ = _
        simp only [Act.put, List.setIfInBounds_toArray, List.set_cons_zero, List.set_cons_succ, i64_w, i32_w]
        rfl
      refine one_ (i := 1) (N := some 54) #[true, true, true, false, false, false, false, false, true, false, false] rfl rfl (by kernel_rfl) (by decide) (fun K hK => ?_)
      refine empty_value (t := 3) (by rfl) rfl (by go_simp) ?_
      intro gb hgb w12a1x hbb hb
      have HGB := Aside0.mk (show w12a.heap.size ≤ gb by rw [hgb]; exact HM.out.size)
      have HMn := Aside0.mk (below_step HM.out hb)
      clear HM
      have HM := HMn
      clear HMn
      have HBB := Aside0.mk hbb
      have HXn := Aside0.mk (blk_below HX.out hb)
      clear HX
      have HX := HXn
      clear HXn
      clear hbb hb
      refine hK.out _ _ (blk_below HW.out HM.out) (fun _ => ?_)
      clear hK K
      refine norm_ (a' := ?_) ?_ ?_
      rotate_left
      · show Act.put _ (some 54) _ = _
        simp only [Act.put, List.setIfInBounds_toArray, List.set_cons_zero, List.set_cons_succ, i64_w, i32_w]
        rfl
      refine one_ (i := 3) (N := some 56) #[true, true, true, true, false, false, false, false, true, false, false] rfl rfl (by kernel_rfl) (by decide) (fun K hK => ?_)
      have HNE := Aside0.mk (show gb ≠ g12 from fun he => by have h1 := HBB.out; have h2 := HX.out; rw [he, h2] at h1; injection h1 with h1; injection h1 with h1 h3 h4; exact absurd h3 (by decide))
      refine path_value (P := Try.prog) (path := path) (A := P) (pc := pc) (h := gb) (by rfl) rfl rfl rfl (by first | rfl | (go_simp; done) | (go_simp; rfl)) (by first | rfl | (go_simp; done) | (go_simp; rfl)) HBB.out (Kd.C_below (Kd.C_below HPR.out HB.out) (below_step HD.out HM.out)) HPL.out Try.underlying40 (by kernel_rfl) ?_
      intro Q12 q12 w12a1xx hC hg
      have HMn := Aside0.mk (grown_below hg HGB.out HM.out HM.out.size)
      clear HM
      have HM := HMn
      clear HMn
      have HPC := Aside0.mk hC
      have HXn := Aside0.mk (blk_grown HX.out hg (fun he => by injection he with he; exact HNE.out he.symm))
      clear HX
      have HX := HXn
      clear HXn
      clear hC hg
      refine hK.out _ _ (blk_below HW.out HM.out) (fun _ => ?_)
      clear hK K
      refine norm_ (a' := ?_) ?_ ?_
      rotate_left
      · show Act.put _ (some 56) _ = _
        simp only [Act.put, List.setIfInBounds_toArray, List.set_cons_zero, List.set_cons_succ, i64_w, i32_w]
        rfl
      refine one_ (i := 4) (N := some 57) #[true, true, true, true, true, false, false, false, true, false, false] rfl rfl (by kernel_rfl) (by decide) (fun K hK => ?_)
      refine goes_ Try.func11 (by kernel_rfl) rfl #[.agg #[.string a.f0, .int .i64 a.f1.f0, .int .i64 a.f1.f1, .int .i64 a.f1.f2, .slice X2 a.f2.length X2c, .slice X3 a.f3.length X3c, .slice X4 a.f4.length X4c, .int .i64 a.f5.f0, .string a.f5.f1, .string a.f5.f2, .string a.f5.f3, .int .i64 a.f5.f4, .int .i64 a.f5.f5.f0, .int .i64 a.f5.f5.f1, .int .i64 a.f5.f5.f2, .int .i64 a.f5.f6.f0, .int .i64 a.f5.f6.f1, .int .i64 a.f5.f6.f2, .int .i64 a.f5.f6.f3, .int .i64 a.f5.f6.f4.f0, .int .i64 a.f5.f6.f4.f1, .int .i64 a.f5.f6.f4.f2, .int .i64 a.f5.f6.f5.f0, .int .i64 a.f5.f6.f5.f1, .int .i64 a.f5.f6.f5.f2, .int .i64 a.f5.f6.f6.f0, .int .i64 a.f5.f6.f6.f1, .int .i64 a.f5.f6.f7, .slice X7 a.f5.f7.length X7c, .slice X8 a.f5.f8.length X8c], .slice Q12 path.length q12] (by rfl) rfl rfl (by (try simp only [List.map_toArray, List.map_cons, List.map_nil]); first | done | rfl) ?_
      with_reducible refine (treeAt.uni a [.string a.f0, .int .i64 a.f1.f0, .int .i64 a.f1.f1, .int .i64 a.f1.f2, .slice X2 a.f2.length X2c, .slice X3 a.f3.length X3c, .slice X4 a.f4.length X4c, .int .i64 a.f5.f0, .string a.f5.f1, .string a.f5.f2, .string a.f5.f3, .int .i64 a.f5.f4, .int .i64 a.f5.f5.f0, .int .i64 a.f5.f5.f1, .int .i64 a.f5.f5.f2, .int .i64 a.f5.f6.f0, .int .i64 a.f5.f6.f1, .int .i64 a.f5.f6.f2, .int .i64 a.f5.f6.f3, .int .i64 a.f5.f6.f4.f0, .int .i64 a.f5.f6.f4.f1, .int .i64 a.f5.f6.f4.f2, .int .i64 a.f5.f6.f5.f0, .int .i64 a.f5.f6.f5.f1, .int .i64 a.f5.f6.f5.f2, .int .i64 a.f5.f6.f6.f0, .int .i64 a.f5.f6.f6.f1, .int .i64 a.f5.f6.f7, .slice X7 a.f5.f7.length X7c, .slice X8 a.f5.f8.length X8c] path Q12 q12 _ (k36.K_below (below_step HD.out HM.out) DXK.out) HPC.out HPB.out HWA.out.w5).mono ?_
      rintro e w12a1xxx ⟨ds12, rfl, hF, hb⟩
      refine ⟨_, rfl, ?_⟩
      have HMID := Aside0.mk (mid_ahead HM.out HGX.out HX.out hF hb)
      have HMn := Aside0.mk (below_step HM.out hb)
      clear HM
      have HM := HMn
      clear HMn
      clear hF hb
      refine hK.out _ _ (blk_below HW.out HM.out) (fun _ => ?_)
      clear hK K
      refine norm_ (a' := ?_) ?_ ?_
      rotate_left
      · show Act.put _ (some 57) _ = _
        simp only [Act.put, List.setIfInBounds_toArray, List.set_cons_zero, List.set_cons_succ, i64_w, i32_w]
        rfl
      refine pure_ (i := 5) (N := some 52) (v := ?_) (a' := ?_) #[true, true, true, true, true, true, false, false, true, false, false] rfl rfl (by kernel_rfl) (fun _ _ _ h => h) (Or.inl ⟨by rfl, ?_⟩) ?_ ?_
      rotate_left
      · intro w'
        go_simp
        with_reducible rfl
      rotate_left
      · simp only [Act.put, List.setIfInBounds_toArray, List.set_cons_zero, List.set_cons_succ, i64_w, i32_w]
        rfl
      refine pure_ (i := 6) (N := some 58) (v := ?_) (a' := ?_) #[true, true, true, true, true, true, true, false, true, false, false] rfl rfl (by kernel_rfl) (fun _ _ _ h => h) (Or.inl ⟨by rfl, ?_⟩) ?_ ?_
      rotate_left
      · intro w'
        go_simp
        with_reducible rfl
      rotate_left
      · simp only [Act.put, List.setIfInBounds_toArray, List.set_cons_zero, List.set_cons_succ, i64_w, i32_w]
        rfl
      refine pure_ (i := 7) (N := some 59) (v := ?_) (a' := ?_) #[true, true, true, true, true, true, true, true, true, false, false] rfl rfl (by kernel_rfl) (fun _ _ _ h => h) (Or.inl ⟨by rfl, ?_⟩) ?_ ?_
      rotate_left
      · intro w'
        go_simp
        with_reducible rfl
      rotate_left
      · simp only [Act.put, List.setIfInBounds_toArray, List.set_cons_zero, List.set_cons_succ, i64_w, i32_w]
        rfl
      exact norm_ (by simp only [putAll, Act.put, List.setIfInBounds_toArray, List.set_cons_zero, List.set_cons_succ, i64_w, i32_w]) (hjoin (gb, Q12, q12, ds12, g12) _ HMID.out)
  rintro ⟨gb, Q12, q12, ds12, g12⟩ w12m HMID0
  have HMID := Aside0.mk HMID0
  clear HMID0
  refine norm_ (a' := ?_) ?_ ?_
  rotate_left
  · simp only [putAll, Act.put, List.setIfInBounds_toArray, List.set_cons_zero, List.set_cons_succ, i64_w, i32_w]
    rfl
  refine last_ (i := 9) (N := none) #[true, true, true, true, true, true, true, true, true, true, false] rfl rfl (by kernel_rfl) (by decide) (fun K hK => ?_)
  have hln := k34.K_len (k34.K_of_M HMID.out.2.2.2)
  have hon := k34.K_one (k34.K_of_M HMID.out.2.2.2)
  refine stw_step (by rfl) rfl rfl (g := g12) (by first | rfl | (go_simp; done) | (go_simp; rfl)) (cs := ds12) (by first | rfl | (go_simp; done) | (go_simp; rfl)) HMID.out.2.2.1 (by rw [hln]; exact size34) (by rw [hln]; rfl) hon ?_
  intro w12b hbk ho
  have hgot : Got w12b w12a.heap.size w12b.heap.size g12 (foundC a path) ds12 ∧ Below w12a.heap.size w12a w12b := mid_got HMID.out ho hbk
  have G12 := Aside0.mk hgot.1
  have H12 := Aside0.mk (below_step HE.out hgot.2)
  have C12 := Aside0.mk (below_step C9.out H12.out)
  have SZ12 := Aside0.mk HE.out.size
  clear hgot hln hon hbk ho
  refine hK.out _ _ ?_
  clear hK K
  refine norm_ (a' := ?_) ?_ ?_
  rotate_left
  · show Act.put _ none _ = _
    simp only [Act.put, List.setIfInBounds_toArray, List.set_cons_zero, List.set_cons_succ, i64_w, i32_w]
    rfl
  refine pure_ (i := 10) (N := some 15) (v := ?_) (a' := ?_) #[true, true, true, true, true, true, true, true, true, true, true] rfl rfl (by kernel_rfl) (fun _ _ _ h => h) (Or.inl ⟨by rfl, ?_⟩) ?_ ?_
  rotate_left
  · intro w'
    go_simp
    with_reducible rfl
  rotate_left
  · simp only [Act.put, List.setIfInBounds_toArray, List.set_cons_zero, List.set_cons_succ, i64_w, i32_w]
    rfl
  refine done_ (by kernel_rfl) ?_
  clear HMID HD HE hHeld
  go_upto_region 18 with (first | ((with_reducible refine gate_dst (N := 60) rfl ?_); (try (refine gate_guard (by rfl) ?_; dsimp only)); refine ldw_event rfl rfl (by first | rfl | (go_simp; done) | (go_simp; rfl)) Try.underlying34 ⟨_, rfl⟩ G12.out.blk (by rw [got_cells G12.out]; exact size34) ?_) | ((with_reducible refine gate_dst (N := 61) rfl ?_); (try (refine gate_guard (by rfl) ?_; dsimp only)); refine ldw_event rfl rfl (by first | rfl | (go_simp; done) | (go_simp; rfl)) Try.underlying34 ⟨_, rfl⟩ (blk_below BK3.out C12.out) SZC.out ?_) | ((with_reducible refine gate_callee (f := 13) rfl ?_); (try (refine gate_guard (by rfl) ?_; dsimp only)); refine goesL_ (some 62) rfl rfl Try.func13 (by kernel_rfl) rfl #[.agg ds12.toArray, .agg ds_.toArray] rfl (by (try simp only [List.map_toArray, List.map_cons, List.map_nil]); first | done | rfl) ?_; (with_reducible refine (same_found HWA.out.w5 path ds12 ds_ _ G12.out.k (k34.K_below C12.out (k34.K_below HBC.out HKC.out))).mono ?_); rintro e w13 ⟨rfl, hb⟩; refine ⟨_, rfl, ?_⟩; have C13 := Aside0.mk (below_step C12.out hb); have G12s := Aside0.mk (Got.below G12.out hb); clear hb) | ((with_reducible refine gate_callee (f := 12) rfl ?_); (try (refine gate_guard (by rfl) ?_; dsimp only)); refine goesL_ (some 70) rfl rfl Try.func12 (by kernel_rfl) rfl #[.pointer (some ⟨g12, 0, none⟩)] rfl (by (try simp only [List.map_toArray, List.map_cons, List.map_nil]); first | done | rfl) ?_; (with_reducible refine (Got.scrawl G12s.out (foundC_wf HWA.out.w5 path)).mono ?_); rintro e w16 ⟨rfl, hs⟩; refine ⟨_, rfl, ?_⟩; have C16 := Aside0.mk (Soft.past C13.out C13.out.size hs (fun k hk => Nat.le_trans (Nat.le_trans C9.out.size SZ12.out) hk.1)); clear hs) | ((with_reducible refine gate_dst (N := 71) rfl ?_); (try (refine gate_guard (by rfl) ?_; dsimp only)); refine ldb_event rfl rfl (by first | rfl | (go_simp; done) | (go_simp; rfl)) Try.underlying36 ⟨_, rfl⟩ (blk_below BK2.out C16.out) 30 size36' [.string a.f0, .int .i64 a.f1.f0, .int .i64 a.f1.f1, .int .i64 a.f1.f2, .slice X2 a.f2.length X2c, .slice X3 a.f3.length X3c, .slice X4 a.f4.length X4c, .int .i64 a.f5.f0, .string a.f5.f1, .string a.f5.f2, .string a.f5.f3, .int .i64 a.f5.f4, .int .i64 a.f5.f5.f0, .int .i64 a.f5.f5.f1, .int .i64 a.f5.f5.f2, .int .i64 a.f5.f6.f0, .int .i64 a.f5.f6.f1, .int .i64 a.f5.f6.f2, .int .i64 a.f5.f6.f3, .int .i64 a.f5.f6.f4.f0, .int .i64 a.f5.f6.f4.f1, .int .i64 a.f5.f6.f4.f2, .int .i64 a.f5.f6.f5.f0, .int .i64 a.f5.f6.f5.f1, .int .i64 a.f5.f6.f5.f2, .int .i64 a.f5.f6.f6.f0, .int .i64 a.f5.f6.f6.f1, .int .i64 a.f5.f6.f7, .slice X7 a.f5.f7.length X7c, .slice X8 a.f5.f8.length X8c] rfl rfl ?_) | ((with_reducible refine gate_dst (N := 72) rfl ?_); (try (refine gate_guard (by rfl) ?_; dsimp only)); refine ldb_event rfl rfl (by first | rfl | (go_simp; done) | (go_simp; rfl)) Try.underlying36 ⟨_, rfl⟩ (blk_below BK1.out C16.out) 30 size36' [.string a.f0, .int .i64 a.f1.f0, .int .i64 a.f1.f1, .int .i64 a.f1.f2, .slice A2 a.f2.length A2c, .slice A3 a.f3.length A3c, .slice A4 a.f4.length A4c, .int .i64 a.f5.f0, .string a.f5.f1, .string a.f5.f2, .string a.f5.f3, .int .i64 a.f5.f4, .int .i64 a.f5.f5.f0, .int .i64 a.f5.f5.f1, .int .i64 a.f5.f5.f2, .int .i64 a.f5.f6.f0, .int .i64 a.f5.f6.f1, .int .i64 a.f5.f6.f2, .int .i64 a.f5.f6.f3, .int .i64 a.f5.f6.f4.f0, .int .i64 a.f5.f6.f4.f1, .int .i64 a.f5.f6.f4.f2, .int .i64 a.f5.f6.f5.f0, .int .i64 a.f5.f6.f5.f1, .int .i64 a.f5.f6.f5.f2, .int .i64 a.f5.f6.f6.f0, .int .i64 a.f5.f6.f6.f1, .int .i64 a.f5.f6.f7, .slice A7 a.f5.f7.length A7c, .slice A8 a.f5.f8.length A8c] rfl rfl ?_) | ((with_reducible refine gate_callee (f := 9) rfl ?_); (try (refine gate_guard (by rfl) ?_; dsimp only)); refine goesL_ (some 73) rfl rfl Try.func9 (by kernel_rfl) rfl #[.agg #[.string a.f0, .int .i64 a.f1.f0, .int .i64 a.f1.f1, .int .i64 a.f1.f2, .slice X2 a.f2.length X2c, .slice X3 a.f3.length X3c, .slice X4 a.f4.length X4c, .int .i64 a.f5.f0, .string a.f5.f1, .string a.f5.f2, .string a.f5.f3, .int .i64 a.f5.f4, .int .i64 a.f5.f5.f0, .int .i64 a.f5.f5.f1, .int .i64 a.f5.f5.f2, .int .i64 a.f5.f6.f0, .int .i64 a.f5.f6.f1, .int .i64 a.f5.f6.f2, .int .i64 a.f5.f6.f3, .int .i64 a.f5.f6.f4.f0, .int .i64 a.f5.f6.f4.f1, .int .i64 a.f5.f6.f4.f2, .int .i64 a.f5.f6.f5.f0, .int .i64 a.f5.f6.f5.f1, .int .i64 a.f5.f6.f5.f2, .int .i64 a.f5.f6.f6.f0, .int .i64 a.f5.f6.f6.f1, .int .i64 a.f5.f6.f7, .slice X7 a.f5.f7.length X7c, .slice X8 a.f5.f8.length X8c], .agg #[.string a.f0, .int .i64 a.f1.f0, .int .i64 a.f1.f1, .int .i64 a.f1.f2, .slice A2 a.f2.length A2c, .slice A3 a.f3.length A3c, .slice A4 a.f4.length A4c, .int .i64 a.f5.f0, .string a.f5.f1, .string a.f5.f2, .string a.f5.f3, .int .i64 a.f5.f4, .int .i64 a.f5.f5.f0, .int .i64 a.f5.f5.f1, .int .i64 a.f5.f5.f2, .int .i64 a.f5.f6.f0, .int .i64 a.f5.f6.f1, .int .i64 a.f5.f6.f2, .int .i64 a.f5.f6.f3, .int .i64 a.f5.f6.f4.f0, .int .i64 a.f5.f6.f4.f1, .int .i64 a.f5.f6.f4.f2, .int .i64 a.f5.f6.f5.f0, .int .i64 a.f5.f6.f5.f1, .int .i64 a.f5.f6.f5.f2, .int .i64 a.f5.f6.f6.f0, .int .i64 a.f5.f6.f6.f1, .int .i64 a.f5.f6.f7, .slice A7 a.f5.f7.length A7c, .slice A8 a.f5.f8.length A8c]] rfl (by (try simp only [List.map_toArray, List.map_cons, List.map_nil]); first | done | rfl) ?_; (with_reducible refine (intact.of a (fun q hq => S56.wf2 (HWA.out.w4s q hq)) HWA.out.w5 X2 X2c X3 X3c X4 X4c X7 X7c X8 X8c A2 A2c A3 A3c A4 A4c A7 A7c A8 A8c _ (DealB.below (DealB.below DX.out HBX.out) C16.out).k2 (DealB.below (DealB.below DX.out HBX.out) C16.out).k3 (DealB.below (DealB.below DX.out HBX.out) C16.out).k4 (DealB.below (DealB.below DX.out HBX.out) C16.out).k5 (DealB.below (DealB.below DX.out HBX.out) C16.out).kk (k36.K_below C16.out (k36.K_below HB.out HKA.out))).mono ?_); rintro e w17 ⟨rfl, hb⟩; refine ⟨_, rfl, ?_⟩; have C17 := Aside0.mk (below_step C16.out hb); clear hb))
  refine start_ (n := 11) (S := fun w' => w'.heap[g2]? = some (.cells #[.string a.f0, .int .i64 a.f1.f0, .int .i64 a.f1.f1, .int .i64 a.f1.f2, .slice X2 a.f2.length X2c, .slice X3 a.f3.length X3c, .slice X4 a.f4.length X4c, .int .i64 a.f5.f0, .string a.f5.f1, .string a.f5.f2, .string a.f5.f3, .int .i64 a.f5.f4, .int .i64 a.f5.f5.f0, .int .i64 a.f5.f5.f1, .int .i64 a.f5.f5.f2, .int .i64 a.f5.f6.f0, .int .i64 a.f5.f6.f1, .int .i64 a.f5.f6.f2, .int .i64 a.f5.f6.f3, .int .i64 a.f5.f6.f4.f0, .int .i64 a.f5.f6.f4.f1, .int .i64 a.f5.f6.f4.f2, .int .i64 a.f5.f6.f5.f0, .int .i64 a.f5.f6.f5.f1, .int .i64 a.f5.f6.f5.f2, .int .i64 a.f5.f6.f6.f0, .int .i64 a.f5.f6.f6.f1, .int .i64 a.f5.f6.f7, .slice X7 a.f5.f7.length X7c, .slice X8 a.f5.f8.length X8c] 36 (0, 0))) (ds := [9, 10]) #[false, false, false, false, false, false, false, false, false, false, false] (by kernel_rfl) rfl rfl (blk_below BK2.out (below_drew1 C17.out)) (fun hHeld => ?_)
  have HD := Aside0.mk (below_drew1 C17.out)
  have HE := Aside0.mk (below_drew1 (Below.refl w17.heap.size w17))
  generalize w17.drew = w18a at hHeld HD HE ⊢
  refine take_ (i := 0) (N := some 75) (v := ?_) (a' := ?_) #[true, false, false, false, false, false, false, false, false, false, false] rfl rfl (by kernel_rfl) (fun _ _ _ h => h) (Or.inl ⟨by rfl, ?_⟩) hHeld ?_ ?_
  rotate_left
  · rintro w' s2
    refine Eq.trans (ldb_run rfl (by first | rfl | (go_simp; done) | (go_simp; rfl)) Try.underlying36 ⟨_, rfl⟩ s2 30 size36' [.string a.f0, .int .i64 a.f1.f0, .int .i64 a.f1.f1, .int .i64 a.f1.f2, .slice X2 a.f2.length X2c, .slice X3 a.f3.length X3c, .slice X4 a.f4.length X4c, .int .i64 a.f5.f0, .string a.f5.f1, .string a.f5.f2, .string a.f5.f3, .int .i64 a.f5.f4, .int .i64 a.f5.f5.f0, .int .i64 a.f5.f5.f1, .int .i64 a.f5.f5.f2, .int .i64 a.f5.f6.f0, .int .i64 a.f5.f6.f1, .int .i64 a.f5.f6.f2, .int .i64 a.f5.f6.f3, .int .i64 a.f5.f6.f4.f0, .int .i64 a.f5.f6.f4.f1, .int .i64 a.f5.f6.f4.f2, .int .i64 a.f5.f6.f5.f0, .int .i64 a.f5.f6.f5.f1, .int .i64 a.f5.f6.f5.f2, .int .i64 a.f5.f6.f6.f0, .int .i64 a.f5.f6.f6.f1, .int .i64 a.f5.f6.f7, .slice X7 a.f5.f7.length X7c, .slice X8 a.f5.f8.length X8c] rfl rfl) ?_
    with_reducible rfl
  rotate_left
  · simp only [Act.put, List.setIfInBounds_toArray, List.set_cons_zero, List.set_cons_succ, i64_w, i32_w]
    rfl
  refine pure_ (i := 2) (N := some 77) (v := ?_) (a' := ?_) #[true, false, true, false, false, false, false, false, false, false, false] rfl rfl (by kernel_rfl) (fun _ _ _ h => h) (Or.inl ⟨by rfl, ?_⟩) ?_ ?_
  rotate_left
  · intro w'
    go_simp
    with_reducible rfl
  rotate_left
  · simp only [Act.put, List.setIfInBounds_toArray, List.set_cons_zero, List.set_cons_succ, i64_w, i32_w]
    rfl
  refine join_ (σ := Nat × Option Addr × Nat × List Value × Nat) 2 #[true, true, true, true, true, true, true, true, true, false, false] (fun s => [(76, .slice (some ⟨s.1, 0, none⟩) 0 0), (78, .slice s.2.1 path.length s.2.2.1), (79, .tuple #[.agg s.2.2.2.1.toArray, .int .i64 (foundE a path)]), (74, .tuple #[.agg s.2.2.2.1.toArray, .int .i64 (foundE a path)]), (80, .agg s.2.2.2.1.toArray), (81, .int .i64 (foundE a path)), (18, .pointer (some ⟨s.2.2.2.2, 0, none⟩))]) (fun s w' => Mid w18a (foundC a path) s.2.2.2.2 s.2.2.2.1 w') ?hcont18 ?hord18
  case hord18 =>
    intro hjoin
    have HM := Aside0.mk (Below.refl w18a.heap.size w18a)
    have HW := Aside0.mk hHeld
    refine two_ (i := 1) (j := 8) (Ni := some 76) (Nj := some 18) #[true, true, true, false, false, false, false, false, false, false, false] #[true, false, true, false, false, false, false, false, true, false, false] rfl rfl rfl rfl (by kernel_rfl) (by decide) (by decide) (fun K hK => ?_) (fun K hK => ?_)
    · refine empty_value (t := 3) (by rfl) rfl (by go_simp) ?_
      intro gb hgb w18a1 hbb hb
      have HGB := Aside0.mk (show w18a.heap.size ≤ gb by rw [hgb]; exact HM.out.size)
      have HMn := Aside0.mk (below_step HM.out hb)
      clear HM
      have HM := HMn
      clear HMn
      have HBB := Aside0.mk hbb
      clear hbb hb
      refine hK.out _ _ (blk_below HW.out HM.out) (fun _ => ?_)
      clear hK K
      refine norm_ (a' := ?_) ?_ ?_
      rotate_left
      · show Act.put _ (some 76) _ = _
        simp only [Act.put, List.setIfInBounds_toArray, List.set_cons_zero, List.set_cons_succ, i64_w, i32_w]
        rfl
      refine two_ (i := 3) (j := 8) (Ni := some 78) (Nj := some 18) #[true, true, true, true, false, false, false, false, false, false, false] #[true, true, true, false, false, false, false, false, true, false, false] rfl rfl rfl rfl (by kernel_rfl) (by decide) (by decide) (fun K hK => ?_) (fun K hK => ?_)
      · refine path_value (P := Try.prog) (path := path) (A := P) (pc := pc) (h := gb) (by rfl) rfl rfl rfl (by first | rfl | (go_simp; done) | (go_simp; rfl)) (by first | rfl | (go_simp; done) | (go_simp; rfl)) HBB.out (Kd.C_below (Kd.C_below HPR.out HB.out) (below_step HD.out HM.out)) HPL.out Try.underlying40 (by kernel_rfl) ?_
        intro Q18 q18 w18a1x hC hg
        have HMn := Aside0.mk (grown_below hg HGB.out HM.out HM.out.size)
        clear HM
        have HM := HMn
        clear HMn
        have HPC := Aside0.mk hC
        clear hC hg
        refine hK.out _ _ (blk_below HW.out HM.out) (fun _ => ?_)
        clear hK K
        refine norm_ (a' := ?_) ?_ ?_
        rotate_left
        · show Act.put _ (some 78) _ = _
          simp only [Act.put, List.setIfInBounds_toArray, List.set_cons_zero, List.set_cons_succ, i64_w, i32_w]
          rfl
        refine two_ (i := 4) (j := 8) (Ni := some 79) (Nj := some 18) #[true, true, true, true, true, false, false, false, false, false, false] #[true, true, true, true, false, false, false, false, true, false, false] rfl rfl rfl rfl (by kernel_rfl) (by decide) (by decide) (fun K hK => ?_) (fun K hK => ?_)
        · refine goes_ Try.func11 (by kernel_rfl) rfl #[.agg #[.string a.f0, .int .i64 a.f1.f0, .int .i64 a.f1.f1, .int .i64 a.f1.f2, .slice X2 a.f2.length X2c, .slice X3 a.f3.length X3c, .slice X4 a.f4.length X4c, .int .i64 a.f5.f0, .string a.f5.f1, .string a.f5.f2, .string a.f5.f3, .int .i64 a.f5.f4, .int .i64 a.f5.f5.f0, .int .i64 a.f5.f5.f1, .int .i64 a.f5.f5.f2, .int .i64 a.f5.f6.f0, .int .i64 a.f5.f6.f1, .int .i64 a.f5.f6.f2, .int .i64 a.f5.f6.f3, .int .i64 a.f5.f6.f4.f0, .int .i64 a.f5.f6.f4.f1, .int .i64 a.f5.f6.f4.f2, .int .i64 a.f5.f6.f5.f0, .int .i64 a.f5.f6.f5.f1, .int .i64 a.f5.f6.f5.f2, .int .i64 a.f5.f6.f6.f0, .int .i64 a.f5.f6.f6.f1, .int .i64 a.f5.f6.f7, .slice X7 a.f5.f7.length X7c, .slice X8 a.f5.f8.length X8c], .slice Q18 path.length q18] (by rfl) rfl rfl (by (try simp only [List.map_toArray, List.map_cons, List.map_nil]); first | done | rfl) ?_
          with_reducible refine (treeAt.uni a [.string a.f0, .int .i64 a.f1.f0, .int .i64 a.f1.f1, .int .i64 a.f1.f2, .slice X2 a.f2.length X2c, .slice X3 a.f3.length X3c, .slice X4 a.f4.length X4c, .int .i64 a.f5.f0, .string a.f5.f1, .string a.f5.f2, .string a.f5.f3, .int .i64 a.f5.f4, .int .i64 a.f5.f5.f0, .int .i64 a.f5.f5.f1, .int .i64 a.f5.f5.f2, .int .i64 a.f5.f6.f0, .int .i64 a.f5.f6.f1, .int .i64 a.f5.f6.f2, .int .i64 a.f5.f6.f3, .int .i64 a.f5.f6.f4.f0, .int .i64 a.f5.f6.f4.f1, .int .i64 a.f5.f6.f4.f2, .int .i64 a.f5.f6.f5.f0, .int .i64 a.f5.f6.f5.f1, .int .i64 a.f5.f6.f5.f2, .int .i64 a.f5.f6.f6.f0, .int .i64 a.f5.f6.f6.f1, .int .i64 a.f5.f6.f7, .slice X7 a.f5.f7.length X7c, .slice X8 a.f5.f8.length X8c] path Q18 q18 _ (k36.K_below (below_step HD.out HM.out) DXK.out) HPC.out HPB.out HWA.out.w5).mono ?_
          rintro e w18a1xx ⟨ds18, rfl, hF, hb⟩
          refine ⟨_, rfl, ?_⟩
          have HFr := Aside0.mk hF
          have HCb := Aside0.mk hb
          have HMc := Aside0.mk HM.out
          have HMn := Aside0.mk (below_step HM.out hb)
          clear HM
          have HM := HMn
          clear HMn
          clear hF hb
          refine hK.out _ _ (blk_below HW.out HM.out) (fun _ => ?_)
          clear hK K
          refine norm_ (a' := ?_) ?_ ?_
          rotate_left
          · show Act.put _ (some 79) _ = _
            simp only [Act.put, List.setIfInBounds_toArray, List.set_cons_zero, List.set_cons_succ, i64_w, i32_w]
            rfl
          refine pure_ (i := 5) (N := some 74) (v := ?_) (a' := ?_) #[true, true, true, true, true, true, false, false, false, false, false] rfl rfl (by kernel_rfl) (fun _ _ _ h => h) (Or.inl ⟨by rfl, ?_⟩) ?_ ?_
          rotate_left
          · intro w'
            go_simp
            with_reducible rfl
          rotate_left
          · simp only [Act.put, List.setIfInBounds_toArray, List.set_cons_zero, List.set_cons_succ, i64_w, i32_w]
            rfl
          refine pure_ (i := 6) (N := some 80) (v := ?_) (a' := ?_) #[true, true, true, true, true, true, true, false, false, false, false] rfl rfl (by kernel_rfl) (fun _ _ _ h => h) (Or.inl ⟨by rfl, ?_⟩) ?_ ?_
          rotate_left
          · intro w'
            go_simp
            with_reducible rfl
          rotate_left
          · simp only [Act.put, List.setIfInBounds_toArray, List.set_cons_zero, List.set_cons_succ, i64_w, i32_w]
            rfl
          refine pure_ (i := 7) (N := some 81) (v := ?_) (a' := ?_) #[true, true, true, true, true, true, true, true, false, false, false] rfl rfl (by kernel_rfl) (fun _ _ _ h => h) (Or.inl ⟨by rfl, ?_⟩) ?_ ?_
          rotate_left
          · intro w'
            go_simp
            with_reducible rfl
          rotate_left
          · simp only [Act.put, List.setIfInBounds_toArray, List.set_cons_zero, List.set_cons_succ, i64_w, i32_w]
            rfl
          refine one_ (i := 8) (N := some 18) #[true, true, true, true, true, true, true, true, true, false, false] rfl rfl (by kernel_rfl) (by decide) (fun K hK => ?_)
          refine box_value (t := 34) (cs := #[.int .i64 0, .string ⟨#[]⟩, .string ⟨#[]⟩, .string ⟨#[]⟩, .int .i64 0, .int .i64 0, .int .i64 0, .int .i64 0, .int .i64 0, .int .i64 0, .int .i64 0, .int .i64 0, .int .i64 0, .int .i64 0, .int .i64 0, .int .i64 0, .int .i64 0, .int .i64 0, .int .i64 0, .int .i64 0, .int .i64 0, .slice none 0 0, .slice none 0 0]) (by rfl) rfl (by first | (go_simp; done) | (go_simp; rfl)) ?_
          intro g18 hgx w18a1xxx hbx hb
          have HGX := Aside0.mk (show w18a.heap.size ≤ g18 by rw [hgx]; exact HM.out.size)
          have HMID := Aside0.mk (mid_behind HMc.out HFr.out HCb.out hgx hbx hb)
          have HMn := Aside0.mk (below_step HM.out hb)
          clear HM
          have HM := HMn
          clear HMn
          have HX := Aside0.mk hbx
          clear hbx hb
          refine hK.out _ _ (blk_below HW.out HM.out) (fun _ => ?_)
          clear hK K
          refine norm_ (a' := ?_) ?_ ?_
          rotate_left
          · show Act.put _ (some 18) _ = _
            simp only [Act.put, List.setIfInBounds_toArray, List.set_cons_zero, List.set_cons_succ, i64_w, i32_w]
            rfl
          exact norm_ (by simp only [putAll, Act.put, List.setIfInBounds_toArray, List.set_cons_zero, List.set_cons_succ, i64_w, i32_w]) (hjoin (gb, Q18, q18, ds18, g18) _ HMID.out)
        · refine box_value (t := 34) (cs := #[.int .i64 0, .string ⟨#[]⟩, .string ⟨#[]⟩, .string ⟨#[]⟩, .int .i64 0, .int .i64 0, .int .i64 0, .int .i64 0, .int .i64 0, .int .i64 0, .int .i64 0, .int .i64 0, .int .i64 0, .int .i64 0, .int .i64 0, .int .i64 0, .int .i64 0, .int .i64 0, .int .i64 0, .int .i64 0, .int .i64 0, .slice none 0 0, .slice none 0 0]) (by rfl) rfl (by first | (go_simp; done) | (go_simp; rfl)) ?_
          intro g18 hgx w18a1xx hbx hb
          have HGX := Aside0.mk (show w18a.heap.size ≤ g18 by rw [hgx]; exact HM.out.size)
          have HMn := Aside0.mk (below_step HM.out hb)
          clear HM
          have HM := HMn
          clear HMn
          have HX := Aside0.mk hbx
          have HPn := Aside0.mk (Kd.C_below HPC.out hb)
          clear HPC
          have HPC := HPn
          clear HPn
          clear hbx hb
          refine hK.out _ _ (blk_below HW.out HM.out) (fun _ => ?_)
          clear hK K
          refine norm_ (a' := ?_) ?_ ?_
          rotate_left
          · show Act.put _ (some 18) _ = _
            simp only [Act.put, List.setIfInBounds_toArray, List.set_cons_zero, List.set_cons_succ, i64_w, i32_w]
            rfl
          refine one_ (i := 4) (N := some 79) #[true, true, true, true, true, false, false, false, true, false, false] rfl rfl (by kernel_rfl) (by decide) (fun K hK => ?_)
          refine goes_ Try.func11 (by kernel_rfl) rfl #[.agg #[.string a.f0, .int .i64 a.f1.f0, .int .i64 a.f1.f1, .int .i64 a.f1.f2, .slice X2 a.f2.length X2c, .slice X3 a.f3.length X3c, .slice X4 a.f4.length X4c, .int .i64 a.f5.f0, .string a.f5.f1, .string a.f5.f2, .string a.f5.f3, .int .i64 a.f5.f4, .int .i64 a.f5.f5.f0, .int .i64 a.f5.f5.f1, .int .i64 a.f5.f5.f2, .int .i64 a.f5.f6.f0, .int .i64 a.f5.f6.f1, .int .i64 a.f5.f6.f2, .int .i64 a.f5.f6.f3, .int .i64 a.f5.f6.f4.f0, .int .i64 a.f5.f6.f4.f1, .int .i64 a.f5.f6.f4.f2, .int .i64 a.f5.f6.f5.f0, .int .i64 a.f5.f6.f5.f1, .int .i64 a.f5.f6.f5.f2, .int .i64 a.f5.f6.f6.f0, .int .i64 a.f5.f6.f6.f1, .int .i64 a.f5.f6.f7, .slice X7 a.f5.f7.length X7c, .slice X8 a.f5.f8.length X8c], .slice Q18 path.length q18] (by rfl) rfl rfl (by (try simp only [List.map_toArray, List.map_cons, List.map_nil]); first | done | rfl) ?_
          with_reducible refine (treeAt.uni a [.string a.f0, .int .i64 a.f1.f0, .int .i64 a.f1.f1, .int .i64 a.f1.f2, .slice X2 a.f2.length X2c, .slice X3 a.f3.length X3c, .slice X4 a.f4.length X4c, .int .i64 a.f5.f0, .string a.f5.f1, .string a.f5.f2, .string a.f5.f3, .int .i64 a.f5.f4, .int .i64 a.f5.f5.f0, .int .i64 a.f5.f5.f1, .int .i64 a.f5.f5.f2, .int .i64 a.f5.f6.f0, .int .i64 a.f5.f6.f1, .int .i64 a.f5.f6.f2, .int .i64 a.f5.f6.f3, .int .i64 a.f5.f6.f4.f0, .int .i64 a.f5.f6.f4.f1, .int .i64 a.f5.f6.f4.f2, .int .i64 a.f5.f6.f5.f0, .int .i64 a.f5.f6.f5.f1, .int .i64 a.f5.f6.f5.f2, .int .i64 a.f5.f6.f6.f0, .int .i64 a.f5.f6.f6.f1, .int .i64 a.f5.f6.f7, .slice X7 a.f5.f7.length X7c, .slice X8 a.f5.f8.length X8c] path Q18 q18 _ (k36.K_below (below_step HD.out HM.out) DXK.out) HPC.out HPB.out HWA.out.w5).mono ?_
          rintro e w18a1xxx ⟨ds18, rfl, hF, hb⟩
          refine ⟨_, rfl, ?_⟩
          have HMID := Aside0.mk (mid_ahead HM.out HGX.out HX.out hF hb)
          have HMn := Aside0.mk (below_step HM.out hb)
          clear HM
          have HM := HMn
          clear HMn
          clear hF hb
          refine hK.out _ _ (blk_below HW.out HM.out) (fun _ => ?_)
          clear hK K
          refine norm_ (a' := ?_) ?_ ?_
          rotate_left
          · show Act.put _ (some 79) _ = _
            simp only [Act.put, List.setIfInBounds_toArray, List.set_cons_zero, List.set_cons_succ, i64_w, i32_w]
            rfl
          refine pure_ (i := 5) (N := some 74) (v := ?_) (a' := ?_) #[true, true, true, true, true, true, false, false, true, false, false] rfl rfl (by kernel_rfl) (fun _ _ _ h => h) (Or.inl ⟨by rfl, ?_⟩) ?_ ?_
          rotate_left
          · intro w'
            go_simp
            with_reducible rfl
          rotate_left
          · simp only [Act.put, List.setIfInBounds_toArray, List.set_cons_zero, List.set_cons_succ, i64_w, i32_w]
            rfl
          refine pure_ (i := 6) (N := some 80) (v := ?_) (a' := ?_) #[true, true, true, true, true, true, true, false, true, false, false] rfl rfl (by kernel_rfl) (fun _ _ _ h => h) (Or.inl ⟨by rfl, ?_⟩) ?_ ?_
          rotate_left
          · intro w'
            go_simp
            with_reducible rfl
          rotate_left
          · simp only [Act.put, List.setIfInBounds_toArray, List.set_cons_zero, List.set_cons_succ, i64_w, i32_w]
            rfl
          refine pure_ (i := 7) (N := some 81) (v := ?_) (a' := ?_) #[true, true, true, true, true, true, true, true, true, false, false] rfl rfl (by kernel_rfl) (fun _ _ _ h => h) (Or.inl ⟨by rfl, ?_⟩) ?_ ?_
          rotate_left
          · intro w'
            go_simp
            with_reducible rfl
          rotate_left
          · simp only [Act.put, List.setIfInBounds_toArray, List.set_cons_zero, List.set_cons_succ, i64_w, i32_w]
            rfl
          exact norm_ (by simp only [putAll, Act.put, List.setIfInBounds_toArray, List.set_cons_zero, List.set_cons_succ, i64_w, i32_w]) (hjoin (gb, Q18, q18, ds18, g18) _ HMID.out)
      · refine box_value (t := 34) (cs := #[.int .i64 0, .string ⟨#[]⟩, .string ⟨#[]⟩, .string ⟨#[]⟩, .int .i64 0, .int .i64 0, .int .i64 0, .int .i64 0, .int .i64 0, .int .i64 0, .int .i64 0, .int .i64 0, .int .i64 0, .int .i64 0, .int .i64 0, .int .i64 0, .int .i64 0, .int .i64 0, .int .i64 0, .int .i64 0, .int .i64 0, .slice none 0 0, .slice none 0 0]) (by rfl) rfl (by first | (go_simp; done) | (go_simp; rfl)) ?_
        intro g18 hgx w18a1x hbx hb
        have HGX := Aside0.mk (show w18a.heap.size ≤ g18 by rw [hgx]; exact HM.out.size)
        have HMn := Aside0.mk (below_step HM.out hb)
        clear HM
        have HM := HMn
        clear HMn
        have HX := Aside0.mk hbx
        have HBn := Aside0.mk (blk_below HBB.out hb)
        clear HBB
        have HBB := HBn
        clear HBn
        clear hbx hb
        refine hK.out _ _ (blk_below HW.out HM.out) (fun _ => ?_)
        clear hK K
        refine norm_ (a' := ?_) ?_ ?_
        rotate_left
        · show Act.put _ (some 18) _ = _
          simp only [Act.put, List.setIfInBounds_toArray, List.set_cons_zero, List.set_cons_succ, i64_w, i32_w]
          rfl
        refine one_ (i := 3) (N := some 78) #[true, true, true, true, false, false, false, false, true, false, false] rfl rfl (by kernel_rfl) (by decide) (fun K hK => ?_)
        have HNE := Aside0.mk (show gb ≠ g18 from fun he => by have h1 := HBB.out; have h2 := HX.out; rw [he, h2] at h1; injection h1 with h1; injection h1 with h1 h3 h4; exact absurd h3 (by decide))
        refine path_value (P := Try.prog) (path := path) (A := P) (pc := pc) (h := gb) (by rfl) rfl rfl rfl (by first | rfl | (go_simp; done) | (go_simp; rfl)) (by first | rfl | (go_simp; done) | (go_simp; rfl)) HBB.out (Kd.C_below (Kd.C_below HPR.out HB.out) (below_step HD.out HM.out)) HPL.out Try.underlying40 (by kernel_rfl) ?_
        intro Q18 q18 w18a1xx hC hg
        have HMn := Aside0.mk (grown_below hg HGB.out HM.out HM.out.size)
        clear HM
        have HM := HMn
        clear HMn
        have HPC := Aside0.mk hC
        have HXn := Aside0.mk (blk_grown HX.out hg (fun he => by injection he with he; exact HNE.out he.symm))
        clear HX
        have HX := HXn
        clear HXn
        clear hC hg
        refine hK.out _ _ (blk_below HW.out HM.out) (fun _ => ?_)
        clear hK K
        refine norm_ (a' := ?_) ?_ ?_
        rotate_left
        · show Act.put _ (some 78) _ = _
          simp only [Act.put, List.setIfInBounds_toArray, List.set_cons_zero, List.set_cons_succ, i64_w, i32_w]
          rfl
        refine one_ (i := 4) (N := some 79) #[true, true, true, true, true, false, false, false, true, false, false] rfl rfl (by kernel_rfl) (by decide) (fun K hK => ?_)
        refine goes_ Try.func11 (by kernel_rfl) rfl #[.agg #[.string a.f0, .int .i64 a.f1.f0, .int .i64 a.f1.f1, .int .i64 a.f1.f2, .slice X2 a.f2.length X2c, .slice X3 a.f3.length X3c, .slice X4 a.f4.length X4c, .int .i64 a.f5.f0, .string a.f5.f1, .string a.f5.f2, .string a.f5.f3, .int .i64 a.f5.f4, .int .i64 a.f5.f5.f0, .int .i64 a.f5.f5.f1, .int .i64 a.f5.f5.f2, .int .i64 a.f5.f6.f0, .int .i64 a.f5.f6.f1, .int .i64 a.f5.f6.f2, .int .i64 a.f5.f6.f3, .int .i64 a.f5.f6.f4.f0, .int .i64 a.f5.f6.f4.f1, .int .i64 a.f5.f6.f4.f2, .int .i64 a.f5.f6.f5.f0, .int .i64 a.f5.f6.f5.f1, .int .i64 a.f5.f6.f5.f2, .int .i64 a.f5.f6.f6.f0, .int .i64 a.f5.f6.f6.f1, .int .i64 a.f5.f6.f7, .slice X7 a.f5.f7.length X7c, .slice X8 a.f5.f8.length X8c], .slice Q18 path.length q18] (by rfl) rfl rfl (by (try simp only [List.map_toArray, List.map_cons, List.map_nil]); first | done | rfl) ?_
        with_reducible refine (treeAt.uni a [.string a.f0, .int .i64 a.f1.f0, .int .i64 a.f1.f1, .int .i64 a.f1.f2, .slice X2 a.f2.length X2c, .slice X3 a.f3.length X3c, .slice X4 a.f4.length X4c, .int .i64 a.f5.f0, .string a.f5.f1, .string a.f5.f2, .string a.f5.f3, .int .i64 a.f5.f4, .int .i64 a.f5.f5.f0, .int .i64 a.f5.f5.f1, .int .i64 a.f5.f5.f2, .int .i64 a.f5.f6.f0, .int .i64 a.f5.f6.f1, .int .i64 a.f5.f6.f2, .int .i64 a.f5.f6.f3, .int .i64 a.f5.f6.f4.f0, .int .i64 a.f5.f6.f4.f1, .int .i64 a.f5.f6.f4.f2, .int .i64 a.f5.f6.f5.f0, .int .i64 a.f5.f6.f5.f1, .int .i64 a.f5.f6.f5.f2, .int .i64 a.f5.f6.f6.f0, .int .i64 a.f5.f6.f6.f1, .int .i64 a.f5.f6.f7, .slice X7 a.f5.f7.length X7c, .slice X8 a.f5.f8.length X8c] path Q18 q18 _ (k36.K_below (below_step HD.out HM.out) DXK.out) HPC.out HPB.out HWA.out.w5).mono ?_
        rintro e w18a1xxx ⟨ds18, rfl, hF, hb⟩
        refine ⟨_, rfl, ?_⟩
        have HMID := Aside0.mk (mid_ahead HM.out HGX.out HX.out hF hb)
        have HMn := Aside0.mk (below_step HM.out hb)
        clear HM
        have HM := HMn
        clear HMn
        clear hF hb
        refine hK.out _ _ (blk_below HW.out HM.out) (fun _ => ?_)
        clear hK K
        refine norm_ (a' := ?_) ?_ ?_
        rotate_left
        · show Act.put _ (some 79) _ = _
          simp only [Act.put, List.setIfInBounds_toArray, List.set_cons_zero, List.set_cons_succ, i64_w, i32_w]
          rfl
        refine pure_ (i := 5) (N := some 74) (v := ?_) (a' := ?_) #[true, true, true, true, true, true, false, false, true, false, false] rfl rfl (by kernel_rfl) (fun _ _ _ h => h) (Or.inl ⟨by rfl, ?_⟩) ?_ ?_
        rotate_left
        · intro w'
          go_simp
          with_reducible rfl
        rotate_left
        · simp only [Act.put, List.setIfInBounds_toArray, List.set_cons_zero, List.set_cons_succ, i64_w, i32_w]
          rfl
        refine pure_ (i := 6) (N := some 80) (v := ?_) (a' := ?_) #[true, true, true, true, true, true, true, false, true, false, false] rfl rfl (by kernel_rfl) (fun _ _ _ h => h) (Or.inl ⟨by rfl, ?_⟩) ?_ ?_
        rotate_left
        · intro w'
          go_simp
          with_reducible rfl
        rotate_left
        · simp only [Act.put, List.setIfInBounds_toArray, List.set_cons_zero, List.set_cons_succ, i64_w, i32_w]
          rfl
        refine pure_ (i := 7) (N := some 81) (v := ?_) (a' := ?_) #[true, true, true, true, true, true, true, true, true, false, false] rfl rfl (by kernel_rfl) (fun _ _ _ h => h) (Or.inl ⟨by rfl, ?_⟩) ?_ ?_
        rotate_left
        · intro w'
          go_simp
          with_reducible rfl
        rotate_left
        · simp only [Act.put, List.setIfInBounds_toArray, List.set_cons_zero, List.set_cons_succ, i64_w, i32_w]
          rfl
        exact norm_ (by simp only [putAll, Act.put, List.setIfInBounds_toArray, List.set_cons_zero, List.set_cons_succ, i64_w, i32_w]) (hjoin (gb, Q18, q18, ds18, g18) _ HMID.out)
    · refine box_value (t := 34) (cs := #[.int .i64 0, .string ⟨#[]⟩, .string ⟨#[]⟩, .string ⟨#[]⟩, .int .i64 0, .int .i64 0, .int .i64 0, .int .i64 0, .int .i64 0, .int .i64 0, .int .i64 0, .int .i64 0, .int .i64 0, .int .i64 0, .int .i64 0, .int .i64 0, .int .i64 0, .int .i64 0, .int .i64 0, .int .i64 0, .int .i64 0, .slice none 0 0, .slice none 0 0]) (by rfl) rfl (by first | (go_simp; done) | (go_simp; rfl)) ?_
      intro g18 hgx w18a1 hbx hb
      have HGX := Aside0.mk (show w18a.heap.size ≤ g18 by rw [hgx]; exact HM.out.size)
      have HMn := Aside0.mk (below_step HM.out hb)
      clear HM
      have HM := HMn
      clear HMn
      have HX := Aside0.mk hbx
      clear hbx hb
      refine hK.out _ _ (blk_below HW.out HM.out) (fun _ => ?_)
      clear hK K
      refine norm_ (a' := ?_) ?_ ?_
      rotate_left
      · show Act.put _ (some 18) _ = _
        simp only [Act.put, List.setIfInBounds_toArray, List.set_cons_zero, List.set_cons_succ, i64_w, i32_w]
        rfl
      refine one_ (i := 1) (N := some 76) #[true, true, true, false, false, false, false, false, true, false, false] rfl rfl (by kernel_rfl) (by decide) (fun K hK => ?_)
      refine empty_value (t := 3) (by rfl) rfl (by go_simp) ?_
      intro gb hgb w18a1x hbb hb
      have HGB := Aside0.mk (show w18a.heap.size ≤ gb by rw [hgb]; exact HM.out.size)
      have HMn := Aside0.mk (below_step HM.out hb)
      clear HM
      have HM := HMn
      clear HMn
      have HBB := Aside0.mk hbb
      have HXn := Aside0.mk (blk_below HX.out hb)
      clear HX
      have HX := HXn
      clear HXn
      clear hbb hb
      refine hK.out _ _ (blk_below HW.out HM.out) (fun _ => ?_)
      clear hK K
      refine norm_ (a' := ?_) ?_ ?_
      rotate_left
      · show Act.put _ (some 76) _ = _
        simp only [Act.put, List.setIfInBounds_toArray, List.set_cons_zero, List.set_cons_succ, i64_w, i32_w]
        rfl
      refine one_ (i := 3) (N := some 78) #[true, true, true, true, false, false, false, false, true, false, false] rfl rfl (by kernel_rfl) (by decide) (fun K hK => ?_)
      have HNE := Aside0.mk (show gb ≠ g18 from fun he => by have h1 := HBB.out; have h2 := HX.out; rw [he, h2] at h1; injection h1 with h1; injection h1 with h1 h3 h4; exact absurd h3 (by decide))
      refine path_value (P := Try.prog) (path := path) (A := P) (pc := pc) (h := gb) (by rfl) rfl rfl rfl (by first | rfl | (go_simp; done) | (go_simp; rfl)) (by first | rfl | (go_simp; done) | (go_simp; rfl)) HBB.out (Kd.C_below (Kd.C_below HPR.out HB.out) (below_step HD.out HM.out)) HPL.out Try.underlying40 (by kernel_rfl) ?_
      intro Q18 q18 w18a1xx hC hg
      have HMn := Aside0.mk (grown_below hg HGB.out HM.out HM.out.size)
      clear HM
      have HM := HMn
      clear HMn
      have HPC := Aside0.mk hC
      have HXn := Aside0.mk (blk_grown HX.out hg (fun he => by injection he with he; exact HNE.out he.symm))
      clear HX
      have HX := HXn
      clear HXn
      clear hC hg
      refine hK.out _ _ (blk_below HW.out HM.out) (fun _ => ?_)
      clear hK K
      refine norm_ (a' := ?_) ?_ ?_
      rotate_left
      · show Act.put _ (some 78) _ = _
        simp only [Act.put, List.setIfInBounds_toArray, List.set_cons_zero, List.set_cons_succ, i64_w, i32_w]
        rfl
      refine one_ (i := 4) (N := some 79) #[true, true, true, true, true, false, false, false, true, false, false] rfl rfl (by kernel_rfl) (by decide) (fun K hK => ?_)
      refine goes_ Try.func11 (by kernel_rfl) rfl #[.agg #[.string a.f0, .int .i64 a.f1.f0, .int .i64 a.f1.f1, .int .i64 a.f1.f2, .slice X2 a.f2.length X2c, .slice X3 a.f3.length X3c, .slice X4 a.f4.length X4c, .int .i64 a.f5.f0, .string a.f5.f1, .string a.f5.f2, .string a.f5.f3, .int .i64 a.f5.f4, .int .i64 a.f5.f5.f0, .int .i64 a.f5.f5.f1, .int .i64 a.f5.f5.f2, .int .i64 a.f5.f6.f0, .int .i64 a.f5.f6.f1, .int .i64 a.f5.f6.f2, .int .i64 a.f5.f6.f3, .int .i64 a.f5.f6.f4.f0, .int .i64 a.f5.f6.f4.f1, .int .i64 a.f5.f6.f4.f2, .int .i64 a.f5.f6.f5.f0, .int .i64 a.f5.f6.f5.f1, .int .i64 a.f5.f6.f5.f2, .int .i64 a.f5.f6.f6.f0, .int .i64 a.f5.f6.f6.f1, .int .i64 a.f5.f6.f7, .slice X7 a.f5.f7.length X7c, .slice X8 a.f5.f8.length X8c], .slice Q18 path.length q18] (by rfl) rfl rfl (by (try simp only [List.map_toArray, List.map_cons, List.map_nil]); first | done | rfl) ?_
      with_reducible refine (treeAt.uni a [.string a.f0, .int .i64 a.f1.f0, .int .i64 a.f1.f1, .int .i64 a.f1.f2, .slice X2 a.f2.length X2c, .slice X3 a.f3.length X3c, .slice X4 a.f4.length X4c, .int .i64 a.f5.f0, .string a.f5.f1, .string a.f5.f2, .string a.f5.f3, .int .i64 a.f5.f4, .int .i64 a.f5.f5.f0, .int .i64 a.f5.f5.f1, .int .i64 a.f5.f5.f2, .int .i64 a.f5.f6.f0, .int .i64 a.f5.f6.f1, .int .i64 a.f5.f6.f2, .int .i64 a.f5.f6.f3, .int .i64 a.f5.f6.f4.f0, .int .i64 a.f5.f6.f4.f1, .int .i64 a.f5.f6.f4.f2, .int .i64 a.f5.f6.f5.f0, .int .i64 a.f5.f6.f5.f1, .int .i64 a.f5.f6.f5.f2, .int .i64 a.f5.f6.f6.f0, .int .i64 a.f5.f6.f6.f1, .int .i64 a.f5.f6.f7, .slice X7 a.f5.f7.length X7c, .slice X8 a.f5.f8.length X8c] path Q18 q18 _ (k36.K_below (below_step HD.out HM.out) DXK.out) HPC.out HPB.out HWA.out.w5).mono ?_
      rintro e w18a1xxx ⟨ds18, rfl, hF, hb⟩
      refine ⟨_, rfl, ?_⟩
      have HMID := Aside0.mk (mid_ahead HM.out HGX.out HX.out hF hb)
      have HMn := Aside0.mk (below_step HM.out hb)
      clear HM
      have HM := HMn
      clear HMn
      clear hF hb
      refine hK.out _ _ (blk_below HW.out HM.out) (fun _ => ?_)
      clear hK K
      refine norm_ (a' := ?_) ?_ ?_
      rotate_left
      · show Act.put _ (some 79) _ = _
        simp only [Act.put, List.setIfInBounds_toArray, List.set_cons_zero, List.set_cons_succ, i64_w, i32_w]
        rfl
      refine pure_ (i := 5) (N := some 74) (v := ?_) (a' := ?_) #[true, true, true, true, true, true, false, false, true, false, false] rfl rfl (by kernel_rfl) (fun _ _ _ h => h) (Or.inl ⟨by rfl, ?_⟩) ?_ ?_
      rotate_left
      · intro w'
        go_simp
        with_reducible rfl
      rotate_left
      · simp only [Act.put, List.setIfInBounds_toArray, List.set_cons_zero, List.set_cons_succ, i64_w, i32_w]
        rfl
      refine pure_ (i := 6) (N := some 80) (v := ?_) (a' := ?_) #[true, true, true, true, true, true, true, false, true, false, false] rfl rfl (by kernel_rfl) (fun _ _ _ h => h) (Or.inl ⟨by rfl, ?_⟩) ?_ ?_
      rotate_left
      · intro w'
        go_simp
        with_reducible rfl
      rotate_left
      · simp only [Act.put, List.setIfInBounds_toArray, List.set_cons_zero, List.set_cons_succ, i64_w, i32_w]
        rfl
      refine pure_ (i := 7) (N := some 81) (v := ?_) (a' := ?_) #[true, true, true, true, true, true, true, true, true, false, false] rfl rfl (by kernel_rfl) (fun _ _ _ h => h) (Or.inl ⟨by rfl, ?_⟩) ?_ ?_
      rotate_left
      · intro w'
        go_simp
        with_reducible rfl
      rotate_left
      · simp only [Act.put, List.setIfInBounds_toArray, List.set_cons_zero, List.set_cons_succ, i64_w, i32_w]
        rfl
      exact norm_ (by simp only [putAll, Act.put, List.setIfInBounds_toArray, List.set_cons_zero, List.set_cons_succ, i64_w, i32_w]) (hjoin (gb, Q18, q18, ds18, g18) _ HMID.out)
  rintro ⟨gb, Q18, q18, ds18, g18⟩ w18m HMID0
  have HMID := Aside0.mk HMID0
  clear HMID0
  refine norm_ (a' := ?_) ?_ ?_
  rotate_left
  · simp only [putAll, Act.put, List.setIfInBounds_toArray, List.set_cons_zero, List.set_cons_succ, i64_w, i32_w]
    rfl
  refine last_ (i := 9) (N := none) #[true, true, true, true, true, true, true, true, true, true, false] rfl rfl (by kernel_rfl) (by decide) (fun K hK => ?_)
  have hln := k34.K_len (k34.K_of_M HMID.out.2.2.2)
  have hon := k34.K_one (k34.K_of_M HMID.out.2.2.2)
  refine stw_step (by rfl) rfl rfl (g := g18) (by first | rfl | (go_simp; done) | (go_simp; rfl)) (cs := ds18) (by first | rfl | (go_simp; done) | (go_simp; rfl)) HMID.out.2.2.1 (by rw [hln]; exact size34) (by rw [hln]; rfl) hon ?_
  intro w18b hbk ho
  have hgot : Got w18b w18a.heap.size w18b.heap.size g18 (foundC a path) ds18 ∧ Below w18a.heap.size w18a w18b := mid_got HMID.out ho hbk
  have G18 := Aside0.mk hgot.1
  have H18 := Aside0.mk (below_step HE.out hgot.2)
  have C18 := Aside0.mk (below_step C17.out H18.out)
  have SZ18 := Aside0.mk HE.out.size
  clear hgot hln hon hbk ho
  refine hK.out _ _ ?_
  clear hK K
  refine norm_ (a' := ?_) ?_ ?_
  rotate_left
  · show Act.put _ none _ = _
    simp only [Act.put, List.setIfInBounds_toArray, List.set_cons_zero, List.set_cons_succ, i64_w, i32_w]
    rfl
  refine pure_ (i := 10) (N := some 15) (v := ?_) (a' := ?_) #[true, true, true, true, true, true, true, true, true, true, true] rfl rfl (by kernel_rfl) (fun _ _ _ h => h) (Or.inl ⟨by rfl, ?_⟩) ?_ ?_
  rotate_left
  · intro w'
    go_simp
    with_reducible rfl
  rotate_left
  · simp only [Act.put, List.setIfInBounds_toArray, List.set_cons_zero, List.set_cons_succ, i64_w, i32_w]
    rfl
  refine done_ (by kernel_rfl) ?_
  clear HMID HD HE hHeld
  go_wp2_with (first | ((with_reducible refine gate_dst (N := 89) rfl ?_); (try (refine gate_guard (by rfl) ?_; dsimp only)); refine ldw_event rfl rfl (by first | rfl | (go_simp; done) | (go_simp; rfl)) Try.underlying34 ⟨_, rfl⟩ G18.out.blk (by rw [got_cells G18.out]; exact size34) ?_) | ((with_reducible refine gate_dst (N := 90) rfl ?_); (try (refine gate_guard (by rfl) ?_; dsimp only)); refine ldw_event rfl rfl (by first | rfl | (go_simp; done) | (go_simp; rfl)) Try.underlying34 ⟨_, rfl⟩ (blk_below BK3.out C18.out) SZC.out ?_) | ((with_reducible refine gate_callee (f := 13) rfl ?_); (try (refine gate_guard (by rfl) ?_; dsimp only)); refine goesL_ (some 91) rfl rfl Try.func13 (by kernel_rfl) rfl #[.agg ds18.toArray, .agg ds_.toArray] rfl (by (try simp only [List.map_toArray, List.map_cons, List.map_nil]); first | done | rfl) ?_; (with_reducible refine (same_found HWA.out.w5 path ds18 ds_ _ G18.out.k (k34.K_below C18.out (k34.K_below HBC.out HKC.out))).mono ?_); rintro e w19 ⟨rfl, hb⟩; refine ⟨_, rfl, ?_⟩; have C19 := Aside0.mk (below_step C18.out hb); clear hb))
  go_ret
  exact ⟨rfl, below_step HB.out C19.out⟩
end Go.Proofs.Ytkfbkjcdngipcaa.PTreeEquals
end
