import Derived.Test.YtdfndbegifdejaaFyf
import Derived.Laws.Cover1
section
namespace Go.Proofs.Ytdfndbegifdejaa.PFlowExact
open Go.RowKit Go.Proofs.YtdfndbegifdejaaW.PrintWords Go.Proofs.YtdfndbegifdejaaW.PrintLast Go.Proofs.YtdfndbegifdejaaW.PrintMore
attribute [local go_sem] max2_int min2_int max_two min_two max_three min_three max_four min_four
set_option linter.unusedVariables false
set_option linter.unusedSimpArgs false
def payoffref03_Compare.f (a0_0 : Int) (a0_1 : ByteArray) (a0_2 : Int) (a1_0 : Int) (a1_1 : ByteArray) (a1_2 : Int) : Option (Int) := if a0_0 < a1_0 then (some (-1)) else (if a0_0 > a1_0 then (some 1) else (if (Op.bytesLess a0_1.toList a1_1.toList) = true then (some (-1)) else (if (a0_1.toList == a1_1.toList) = false then (some 1) else (if a0_2 < a1_2 then (some (-1)) else (if a0_2 > a1_2 then (some 1) else (some 0))))))
set_option maxHeartbeats 8000000 in
set_option maxRecDepth 100000 in
theorem payoffref03_Compare.calls (a0_0 : Int) (a0_1 : ByteArray) (a0_2 : Int) (a1_0 : Int) (a1_1 : ByteArray) (a1_2 : Int) (r : Int) (w : World) (h : payoffref03_Compare.f a0_0 a0_1 a0_2 a1_0 a1_1 a1_2 = some r) :
  Calls Try.prog 19 #[.agg #[.int .i64 a0_0, .string a0_1, .int .i64 a0_2], .agg #[.int .i64 a1_0, .string a1_1, .int .i64 a1_2]] w fun e w' => e = .returned (.int .i64 r) ∧ Below w.heap.size w w' := by
 have hu32 := Try.underlying32
 have HB := ak (Below.refl w.heap.size w)
 have H : (if a0_0 < a1_0 then (some (-1)) else (if a0_0 > a1_0 then (some 1) else (if (Op.bytesLess a0_1.toList a1_1.toList) = true then (some (-1)) else (if (a0_1.toList == a1_1.toList) = false then (some 1) else (if a0_2 < a1_2 then (some (-1)) else (if a0_2 > a1_2 then (some 1) else (some 0))))))) = some r := h
 clear h
 by_cases c3 : a0_0 < a1_0
 ·rw [if_pos c3] at H
  have c3b0 := decide_eq_true c3
  clear c3
  obtain rfl := Option.some.inj H
  go_enter Try.func19, Try.ntmps19
  go_wp2_with (first | ((with_reducible refine gate_dst (N := 2) rfl ?_); refine box_event ?hg (N := 2) ?hd (cs := #[.int .i64 a0_0, .string a0_1, .int .i64 a0_2]) (t := 32) ?hr ?_; (case hd => rfl); (case hg => rfl); (case hr => first | (go_simp; done) | (go_simp; rfl)); intro gb117 hg w4 hbox hb; have BK117 := ak (hbox); have GW117 := ak ((by rw [hg]; exact (below_size (by repeat (first | (with_reducible first | exact HB.out | apply below_alloc | apply pw_below_drewN | apply below_drew1) | exact HB.out))) : w.heap.size ≤ gb117)); have GE117 := ak ((by rw [hg]; exact (below_size (by repeat (first | (with_reducible first | exact HB.out | apply below_alloc | apply pw_below_drewN | apply below_drew1) | exact HB.out))) : w.heap.size ≤ gb117)); replace HB := ak (below_step (by repeat (first | (with_reducible first | exact HB.out | apply below_alloc | apply pw_below_drewN | apply below_drew1) | exact HB.out)) hb); clear hb hbox hg) | ((with_reducible refine gate_dst (N := 3) rfl ?_); refine box_event ?hg (N := 3) ?hd (cs := #[.int .i64 a1_0, .string a1_1, .int .i64 a1_2]) (t := 32) ?hr ?_; (case hd => rfl); (case hg => rfl); (case hr => first | (go_simp; done) | (go_simp; rfl)); intro gb118 hg w5 hbox hb; have n0_ := ak (blk_below (g := gb117) (o := .cells #[.int .i64 a0_0, .string a0_1, .int .i64 a0_2] 32 (0, 0)) (by (with_reducible repeat (first | refine blk_drewN ?_ _ | refine blk_drew ?_ | refine blk_alloc ?_ _)); exact BK117.out) hb); have n1_ := ak (below_step (by repeat (first | (with_reducible first | exact HB.out | apply below_alloc | apply pw_below_drewN | apply below_drew1 | refine below_set ?_ GE117.out) | exact HB.out)) hb); have n2_ := ak (hbox); have n3_ := ak ((by rw [hg]; exact (below_size (by repeat (first | (with_reducible first | exact HB.out | apply below_alloc | apply pw_below_drewN | apply below_drew1 | refine below_set ?_ GE117.out) | exact HB.out))) : w.heap.size ≤ gb118)); have n4_ := ak ((by rw [hg]; exact (below_size (by repeat (first | (with_reducible first | exact HB.out | apply below_alloc | apply pw_below_drewN | apply below_drew1 | refine below_set ?_ GE117.out) | exact HB.out))) : w.heap.size ≤ gb118)); have n5_ := ak ((by rw [hg]; exact Nat.ne_of_lt (blk_lt (g := gb117) (o := .cells #[.int .i64 a0_0, .string a0_1, .int .i64 a0_2] 32 (0, 0)) (by (with_reducible repeat (first | refine blk_drewN ?_ _ | refine blk_drew ?_ | refine blk_alloc ?_ _)); exact BK117.out)) : gb117 ≠ gb118)); have n6_ := ak ((by rw [hg]; exact Nat.ne_of_gt (blk_lt (g := gb117) (o := .cells #[.int .i64 a0_0, .string a0_1, .int .i64 a0_2] 32 (0, 0)) (by (with_reducible repeat (first | refine blk_drewN ?_ _ | refine blk_drew ?_ | refine blk_alloc ?_ _)); exact BK117.out)) : gb118 ≠ gb117)); clear BK117; clear HB; have BK117 := n0_; have HB := n1_; have BK118 := n2_; have GW118 := n3_; have GE118 := n4_; have NB117_118 := n5_; have NB118_117 := n6_; clear n0_ n1_ n2_ n3_ n4_ n5_ n6_; clear hb hbox hg; have hnb6 := NB117_118.out; have hnc6 := NB118_117.out; have hcz7_0 : w5.cell? ⟨gb117, 0, none⟩ = some (.int .i64 a0_0) := (blk_cell BK117.out 0).trans rfl; have hcz7_1 : w5.cell? ⟨gb117, 1, none⟩ = some (.string a0_1) := (blk_cell BK117.out 1).trans rfl; have hcz7_2 : w5.cell? ⟨gb117, 2, none⟩ = some (.int .i64 a0_2) := (blk_cell BK117.out 2).trans rfl; have hfz7_0 := blk_frozen BK117.out 0; have hfz7_1 := blk_frozen BK117.out 1; have hfz7_2 := blk_frozen BK117.out 2; have hcz8_0 : w5.cell? ⟨gb118, 0, none⟩ = some (.int .i64 a1_0) := (blk_cell BK118.out 0).trans rfl; have hcz8_1 : w5.cell? ⟨gb118, 1, none⟩ = some (.string a1_1) := (blk_cell BK118.out 1).trans rfl; have hcz8_2 : w5.cell? ⟨gb118, 2, none⟩ = some (.int .i64 a1_2) := (blk_cell BK118.out 2).trans rfl; have hfz8_0 := blk_frozen BK118.out 0; have hfz8_1 := blk_frozen BK118.out 1; have hfz8_2 := blk_frozen BK118.out 2))
  go_ret
  exact ⟨by first | rfl | (simp [errW_none, errW_some] <;> rfl) | (simp [*, errW_none, errW_some] <;> rfl), by repeat (first | (with_reducible first | exact HB.out | apply below_alloc | apply pw_below_drewN | apply below_drew1 | refine below_set ?_ GE117.out | refine below_set ?_ GE118.out) | exact HB.out)⟩
 ·rw [if_neg c3] at H
  have c3b0 := decide_eq_false c3
  clear c3
  by_cases c9 : a0_0 > a1_0
  ·rw [if_pos c9] at H
   have c9b0 := decide_eq_true c9
   clear c9
   obtain rfl := Option.some.inj H
   go_enter Try.func19, Try.ntmps19
   go_wp2_with (first | ((with_reducible refine gate_dst (N := 2) rfl ?_); refine box_event ?hg (N := 2) ?hd (cs := #[.int .i64 a0_0, .string a0_1, .int .i64 a0_2]) (t := 32) ?hr ?_; (case hd => rfl); (case hg => rfl); (case hr => first | (go_simp; done) | (go_simp; rfl)); intro gb117 hg w10 hbox hb; have BK117 := ak (hbox); have GW117 := ak ((by rw [hg]; exact (below_size (by repeat (first | (with_reducible first | exact HB.out | apply below_alloc | apply pw_below_drewN | apply below_drew1) | exact HB.out))) : w.heap.size ≤ gb117)); have GE117 := ak ((by rw [hg]; exact (below_size (by repeat (first | (with_reducible first | exact HB.out | apply below_alloc | apply pw_below_drewN | apply below_drew1) | exact HB.out))) : w.heap.size ≤ gb117)); replace HB := ak (below_step (by repeat (first | (with_reducible first | exact HB.out | apply below_alloc | apply pw_below_drewN | apply below_drew1) | exact HB.out)) hb); clear hb hbox hg) | ((with_reducible refine gate_dst (N := 3) rfl ?_); refine box_event ?hg (N := 3) ?hd (cs := #[.int .i64 a1_0, .string a1_1, .int .i64 a1_2]) (t := 32) ?hr ?_; (case hd => rfl); (case hg => rfl); (case hr => first | (go_simp; done) | (go_simp; rfl)); intro gb118 hg w11 hbox hb; have n0_ := ak (blk_below (g := gb117) (o := .cells #[.int .i64 a0_0, .string a0_1, .int .i64 a0_2] 32 (0, 0)) (by (with_reducible repeat (first | refine blk_drewN ?_ _ | refine blk_drew ?_ | refine blk_alloc ?_ _)); exact BK117.out) hb); have n1_ := ak (below_step (by repeat (first | (with_reducible first | exact HB.out | apply below_alloc | apply pw_below_drewN | apply below_drew1 | refine below_set ?_ GE117.out) | exact HB.out)) hb); have n2_ := ak (hbox); have n3_ := ak ((by rw [hg]; exact (below_size (by repeat (first | (with_reducible first | exact HB.out | apply below_alloc | apply pw_below_drewN | apply below_drew1 | refine below_set ?_ GE117.out) | exact HB.out))) : w.heap.size ≤ gb118)); have n4_ := ak ((by rw [hg]; exact (below_size (by repeat (first | (with_reducible first | exact HB.out | apply below_alloc | apply pw_below_drewN | apply below_drew1 | refine below_set ?_ GE117.out) | exact HB.out))) : w.heap.size ≤ gb118)); have n5_ := ak ((by rw [hg]; exact Nat.ne_of_lt (blk_lt (g := gb117) (o := .cells #[.int .i64 a0_0, .string a0_1, .int .i64 a0_2] 32 (0, 0)) (by (with_reducible repeat (first | refine blk_drewN ?_ _ | refine blk_drew ?_ | refine blk_alloc ?_ _)); exact BK117.out)) : gb117 ≠ gb118)); have n6_ := ak ((by rw [hg]; exact Nat.ne_of_gt (blk_lt (g := gb117) (o := .cells #[.int .i64 a0_0, .string a0_1, .int .i64 a0_2] 32 (0, 0)) (by (with_reducible repeat (first | refine blk_drewN ?_ _ | refine blk_drew ?_ | refine blk_alloc ?_ _)); exact BK117.out)) : gb118 ≠ gb117)); clear BK117; clear HB; have BK117 := n0_; have HB := n1_; have BK118 := n2_; have GW118 := n3_; have GE118 := n4_; have NB117_118 := n5_; have NB118_117 := n6_; clear n0_ n1_ n2_ n3_ n4_ n5_ n6_; clear hb hbox hg; have hnb12 := NB117_118.out; have hnc12 := NB118_117.out; have hcz13_0 : w11.cell? ⟨gb117, 0, none⟩ = some (.int .i64 a0_0) := (blk_cell BK117.out 0).trans rfl; have hcz13_1 : w11.cell? ⟨gb117, 1, none⟩ = some (.string a0_1) := (blk_cell BK117.out 1).trans rfl; have hcz13_2 : w11.cell? ⟨gb117, 2, none⟩ = some (.int .i64 a0_2) := (blk_cell BK117.out 2).trans rfl; have hfz13_0 := blk_frozen BK117.out 0; have hfz13_1 := blk_frozen BK117.out 1; have hfz13_2 := blk_frozen BK117.out 2; have hcz14_0 : w11.cell? ⟨gb118, 0, none⟩ = some (.int .i64 a1_0) := (blk_cell BK118.out 0).trans rfl; have hcz14_1 : w11.cell? ⟨gb118, 1, none⟩ = some (.string a1_1) := (blk_cell BK118.out 1).trans rfl; have hcz14_2 : w11.cell? ⟨gb118, 2, none⟩ = some (.int .i64 a1_2) := (blk_cell BK118.out 2).trans rfl; have hfz14_0 := blk_frozen BK118.out 0; have hfz14_1 := blk_frozen BK118.out 1; have hfz14_2 := blk_frozen BK118.out 2))
   go_ret
   exact ⟨by first | rfl | (simp [errW_none, errW_some] <;> rfl) | (simp [*, errW_none, errW_some] <;> rfl), by repeat (first | (with_reducible first | exact HB.out | apply below_alloc | apply pw_below_drewN | apply below_drew1 | refine below_set ?_ GE117.out | refine below_set ?_ GE118.out) | exact HB.out)⟩
  ·rw [if_neg c9] at H
   have c9b0 := decide_eq_false c9
   clear c9
   by_cases c15 : (Op.bytesLess a0_1.toList a1_1.toList) = true
   ·rw [if_pos c15] at H
    have c15b0 : (Op.bytesLess a0_1.toList a1_1.toList) = true := c15
    clear c15
    obtain rfl := Option.some.inj H
    go_enter Try.func19, Try.ntmps19
    go_wp2_with (first | ((with_reducible refine gate_dst (N := 2) rfl ?_); refine box_event ?hg (N := 2) ?hd (cs := #[.int .i64 a0_0, .string a0_1, .int .i64 a0_2]) (t := 32) ?hr ?_; (case hd => rfl); (case hg => rfl); (case hr => first | (go_simp; done) | (go_simp; rfl)); intro gb117 hg w16 hbox hb; have BK117 := ak (hbox); have GW117 := ak ((by rw [hg]; exact (below_size (by repeat (first | (with_reducible first | exact HB.out | apply below_alloc | apply pw_below_drewN | apply below_drew1) | exact HB.out))) : w.heap.size ≤ gb117)); have GE117 := ak ((by rw [hg]; exact (below_size (by repeat (first | (with_reducible first | exact HB.out | apply below_alloc | apply pw_below_drewN | apply below_drew1) | exact HB.out))) : w.heap.size ≤ gb117)); replace HB := ak (below_step (by repeat (first | (with_reducible first | exact HB.out | apply below_alloc | apply pw_below_drewN | apply below_drew1) | exact HB.out)) hb); clear hb hbox hg) | ((with_reducible refine gate_dst (N := 3) rfl ?_); refine box_event ?hg (N := 3) ?hd (cs := #[.int .i64 a1_0, .string a1_1, .int .i64 a1_2]) (t := 32) ?hr ?_; (case hd => rfl); (case hg => rfl); (case hr => first | (go_simp; done) | (go_simp; rfl)); intro gb118 hg w17 hbox hb; have n0_ := ak (blk_below (g := gb117) (o := .cells #[.int .i64 a0_0, .string a0_1, .int .i64 a0_2] 32 (0, 0)) (by (with_reducible repeat (first | refine blk_drewN ?_ _ | refine blk_drew ?_ | refine blk_alloc ?_ _)); exact BK117.out) hb); have n1_ := ak (below_step (by repeat (first | (with_reducible first | exact HB.out | apply below_alloc | apply pw_below_drewN | apply below_drew1 | refine below_set ?_ GE117.out) | exact HB.out)) hb); have n2_ := ak (hbox); have n3_ := ak ((by rw [hg]; exact (below_size (by repeat (first | (with_reducible first | exact HB.out | apply below_alloc | apply pw_below_drewN | apply below_drew1 | refine below_set ?_ GE117.out) | exact HB.out))) : w.heap.size ≤ gb118)); have n4_ := ak ((by rw [hg]; exact (below_size (by repeat (first | (with_reducible first | exact HB.out | apply below_alloc | apply pw_below_drewN | apply below_drew1 | refine below_set ?_ GE117.out) | exact HB.out))) : w.heap.size ≤ gb118)); have n5_ := ak ((by rw [hg]; exact Nat.ne_of_lt (blk_lt (g := gb117) (o := .cells #[.int .i64 a0_0, .string a0_1, .int .i64 a0_2] 32 (0, 0)) (by (with_reducible repeat (first | refine blk_drewN ?_ _ | refine blk_drew ?_ | refine blk_alloc ?_ _)); exact BK117.out)) : gb117 ≠ gb118)); have n6_ := ak ((by rw [hg]; exact Nat.ne_of_gt (blk_lt (g := gb117) (o := .cells #[.int .i64 a0_0, .string a0_1, .int .i64 a0_2] 32 (0, 0)) (by (with_reducible repeat (first | refine blk_drewN ?_ _ | refine blk_drew ?_ | refine blk_alloc ?_ _)); exact BK117.out)) : gb118 ≠ gb117)); clear BK117; clear HB; have BK117 := n0_; have HB := n1_; have BK118 := n2_; have GW118 := n3_; have GE118 := n4_; have NB117_118 := n5_; have NB118_117 := n6_; clear n0_ n1_ n2_ n3_ n4_ n5_ n6_; clear hb hbox hg; have hnb18 := NB117_118.out; have hnc18 := NB118_117.out; have hcz19_0 : w17.cell? ⟨gb117, 0, none⟩ = some (.int .i64 a0_0) := (blk_cell BK117.out 0).trans rfl; have hcz19_1 : w17.cell? ⟨gb117, 1, none⟩ = some (.string a0_1) := (blk_cell BK117.out 1).trans rfl; have hcz19_2 : w17.cell? ⟨gb117, 2, none⟩ = some (.int .i64 a0_2) := (blk_cell BK117.out 2).trans rfl; have hfz19_0 := blk_frozen BK117.out 0; have hfz19_1 := blk_frozen BK117.out 1; have hfz19_2 := blk_frozen BK117.out 2; have hcz20_0 : w17.cell? ⟨gb118, 0, none⟩ = some (.int .i64 a1_0) := (blk_cell BK118.out 0).trans rfl; have hcz20_1 : w17.cell? ⟨gb118, 1, none⟩ = some (.string a1_1) := (blk_cell BK118.out 1).trans rfl; have hcz20_2 : w17.cell? ⟨gb118, 2, none⟩ = some (.int .i64 a1_2) := (blk_cell BK118.out 2).trans rfl; have hfz20_0 := blk_frozen BK118.out 0; have hfz20_1 := blk_frozen BK118.out 1; have hfz20_2 := blk_frozen BK118.out 2))
    go_ret
    exact ⟨by first | rfl | (simp [errW_none, errW_some] <;> rfl) | (simp [*, errW_none, errW_some] <;> rfl), by repeat (first | (with_reducible first | exact HB.out | apply below_alloc | apply pw_below_drewN | apply below_drew1 | refine below_set ?_ GE117.out | refine below_set ?_ GE118.out) | exact HB.out)⟩
   ·rw [if_neg c15] at H
    have c15b0 : (Op.bytesLess a0_1.toList a1_1.toList) = false := by simpa using c15
    clear c15
    by_cases c21 : (a0_1.toList == a1_1.toList) = false
    ·rw [if_pos c21] at H
     have c21b0 : (a0_1.toList == a1_1.toList) = false := c21
     clear c21
     obtain rfl := Option.some.inj H
     go_enter Try.func19, Try.ntmps19
     go_wp2_with (first | ((with_reducible refine gate_dst (N := 2) rfl ?_); refine box_event ?hg (N := 2) ?hd (cs := #[.int .i64 a0_0, .string a0_1, .int .i64 a0_2]) (t := 32) ?hr ?_; (case hd => rfl); (case hg => rfl); (case hr => first | (go_simp; done) | (go_simp; rfl)); intro gb117 hg w22 hbox hb; have BK117 := ak (hbox); have GW117 := ak ((by rw [hg]; exact (below_size (by repeat (first | (with_reducible first | exact HB.out | apply below_alloc | apply pw_below_drewN | apply below_drew1) | exact HB.out))) : w.heap.size ≤ gb117)); have GE117 := ak ((by rw [hg]; exact (below_size (by repeat (first | (with_reducible first | exact HB.out | apply below_alloc | apply pw_below_drewN | apply below_drew1) | exact HB.out))) : w.heap.size ≤ gb117)); replace HB := ak (below_step (by repeat (first | (with_reducible first | exact HB.out | apply below_alloc | apply pw_below_drewN | apply below_drew1) | exact HB.out)) hb); clear hb hbox hg) | ((with_reducible refine gate_dst (N := 3) rfl ?_); refine box_event ?hg (N := 3) ?hd (cs := #[.int .i64 a1_0, .string a1_1, .int .i64 a1_2]) (t := 32) ?hr ?_; (case hd => rfl); (case hg => rfl); (case hr => first | (go_simp; done) | (go_simp; rfl)); intro gb118 hg w23 hbox hb; have n0_ := ak (blk_below (g := gb117) (o := .cells #[.int .i64 a0_0, .string a0_1, .int .i64 a0_2] 32 (0, 0)) (by (with_reducible repeat (first | refine blk_drewN ?_ _ | refine blk_drew ?_ | refine blk_alloc ?_ _)); exact BK117.out) hb); have n1_ := ak (below_step (by repeat (first | (with_reducible first | exact HB.out | apply below_alloc | apply pw_below_drewN | apply below_drew1 | refine below_set ?_ GE117.out) | exact HB.out)) hb); have n2_ := ak (hbox); have n3_ := ak ((by rw [hg]; exact (below_size (by repeat (first | (with_reducible first | exact HB.out | apply below_alloc | apply pw_below_drewN | apply below_drew1 | refine below_set ?_ GE117.out) | exact HB.out))) : w.heap.size ≤ gb118)); have n4_ := ak ((by rw [hg]; exact (below_size (by repeat (first | (with_reducible first | exact HB.out | apply below_alloc | apply pw_below_drewN | apply below_drew1 | refine below_set ?_ GE117.out) | exact HB.out))) : w.heap.size ≤ gb118)); have n5_ := ak ((by rw [hg]; exact Nat.ne_of_lt (blk_lt (g := gb117) (o := .cells #[.int .i64 a0_0, .string a0_1, .int .i64 a0_2] 32 (0, 0)) (by (with_reducible repeat (first | refine blk_drewN ?_ _ | refine blk_drew ?_ | refine blk_alloc ?_ _)); exact BK117.out)) : gb117 ≠ gb118)); have n6_ := ak ((by rw [hg]; exact Nat.ne_of_gt (blk_lt (g := gb117) (o := .cells #[.int .i64 a0_0, .string a0_1, .int .i64 a0_2] 32 (0, 0)) (by (with_reducible repeat (first | refine blk_drewN ?_ _ | refine blk_drew ?_ | refine blk_alloc ?_ _)); exact BK117.out)) : gb118 ≠ gb117)); clear BK117; clear HB; have BK117 := n0_; have HB := n1_; have BK118 := n2_; have GW118 := n3_; have GE118 := n4_; have NB117_118 := n5_; have NB118_117 := n6_; clear n0_ n1_ n2_ n3_ n4_ n5_ n6_; clear hb hbox hg; have hnb24 := NB117_118.out; have hnc24 := NB118_117.out; have hcz25_0 : w23.cell? ⟨gb117, 0, none⟩ = some (.int .i64 a0_0) := (blk_cell BK117.out 0).trans rfl; have hcz25_1 : w23.cell? ⟨gb117, 1, none⟩ = some (.string a0_1) := (blk_cell BK117.out 1).trans rfl; have hcz25_2 : w23.cell? ⟨gb117, 2, none⟩ = some (.int .i64 a0_2) := (blk_cell BK117.out 2).trans rfl; have hfz25_0 := blk_frozen BK117.out 0; have hfz25_1 := blk_frozen BK117.out 1; have hfz25_2 := blk_frozen BK117.out 2; have hcz26_0 : w23.cell? ⟨gb118, 0, none⟩ = some (.int .i64 a1_0) := (blk_cell BK118.out 0).trans rfl; have hcz26_1 : w23.cell? ⟨gb118, 1, none⟩ = some (.string a1_1) := (blk_cell BK118.out 1).trans rfl; have hcz26_2 : w23.cell? ⟨gb118, 2, none⟩ = some (.int .i64 a1_2) := (blk_cell BK118.out 2).trans rfl; have hfz26_0 := blk_frozen BK118.out 0; have hfz26_1 := blk_frozen BK118.out 1; have hfz26_2 := blk_frozen BK118.out 2))
     go_ret
     exact ⟨by first | rfl | (simp [errW_none, errW_some] <;> rfl) | (simp [*, errW_none, errW_some] <;> rfl), by repeat (first | (with_reducible first | exact HB.out | apply below_alloc | apply pw_below_drewN | apply below_drew1 | refine below_set ?_ GE117.out | refine below_set ?_ GE118.out) | exact HB.out)⟩
    ·rw [if_neg c21] at H
     have c21b0 : (a0_1.toList == a1_1.toList) = true := by revert c21; cases (a0_1.toList == a1_1.toList) <;> simp
     clear c21
     by_cases c27 : a0_2 < a1_2
     ·rw [if_pos c27] at H
      have c27b0 := decide_eq_true c27
      clear c27
      obtain rfl := Option.some.inj H
      go_enter Try.func19, Try.ntmps19
      go_wp2_with (first | ((with_reducible refine gate_dst (N := 2) rfl ?_); refine box_event ?hg (N := 2) ?hd (cs := #[.int .i64 a0_0, .string a0_1, .int .i64 a0_2]) (t := 32) ?hr ?_; (case hd => rfl); (case hg => rfl); (case hr => first | (go_simp; done) | (go_simp; rfl)); intro gb117 hg w28 hbox hb; have BK117 := ak (hbox); have GW117 := ak ((by rw [hg]; exact (below_size (by repeat (first | (with_reducible first | exact HB.out | apply below_alloc | apply pw_below_drewN | apply below_drew1) | exact HB.out))) : w.heap.size ≤ gb117)); have GE117 := ak ((by rw [hg]; exact (below_size (by repeat (first | (with_reducible first | exact HB.out | apply below_alloc | apply pw_below_drewN | apply below_drew1) | exact HB.out))) : w.heap.size ≤ gb117)); replace HB := ak (below_step (by repeat (first | (with_reducible first | exact HB.out | apply below_alloc | apply pw_below_drewN | apply below_drew1) | exact HB.out)) hb); clear hb hbox hg) | ((with_reducible refine gate_dst (N := 3) rfl ?_); refine box_event ?hg (N := 3) ?hd (cs := #[.int .i64 a1_0, .string a1_1, .int .i64 a1_2]) (t := 32) ?hr ?_; (case hd => rfl); (case hg => rfl); (case hr => first | (go_simp; done) | (go_simp; rfl)); intro gb118 hg w29 hbox hb; have n0_ := ak (blk_below (g := gb117) (o := .cells #[.int .i64 a0_0, .string a0_1, .int .i64 a0_2] 32 (0, 0)) (by (with_reducible repeat (first | refine blk_drewN ?_ _ | refine blk_drew ?_ | refine blk_alloc ?_ _)); exact BK117.out) hb); have n1_ := ak (below_step (by repeat (first | (with_reducible first | exact HB.out | apply below_alloc | apply pw_below_drewN | apply below_drew1 | refine below_set ?_ GE117.out) | exact HB.out)) hb); have n2_ := ak (hbox); have n3_ := ak ((by rw [hg]; exact (below_size (by repeat (first | (with_reducible first | exact HB.out | apply below_alloc | apply pw_below_drewN | apply below_drew1 | refine below_set ?_ GE117.out) | exact HB.out))) : w.heap.size ≤ gb118)); have n4_ := ak ((by rw [hg]; exact (below_size (by repeat (first | (with_reducible first | exact HB.out | apply below_alloc | apply pw_below_drewN | apply below_drew1 | refine below_set ?_ GE117.out) | exact HB.out))) : w.heap.size ≤ gb118)); have n5_ := ak ((by rw [hg]; exact Nat.ne_of_lt (blk_lt (g := gb117) (o := .cells #[.int .i64 a0_0, .string a0_1, .int .i64 a0_2] 32 (0, 0)) (by (with_reducible repeat (first | refine blk_drewN ?_ _ | refine blk_drew ?_ | refine blk_alloc ?_ _)); exact BK117.out)) : gb117 ≠ gb118)); have n6_ := ak ((by rw [hg]; exact Nat.ne_of_gt (blk_lt (g := gb117) (o := .cells #[.int .i64 a0_0, .string a0_1, .int .i64 a0_2] 32 (0, 0)) (by (with_reducible repeat (first | refine blk_drewN ?_ _ | refine blk_drew ?_ | refine blk_alloc ?_ _)); exact BK117.out)) : gb118 ≠ gb117)); clear BK117; clear HB; have BK117 := n0_; have HB := n1_; have BK118 := n2_; have GW118 := n3_; have GE118 := n4_; have NB117_118 := n5_; have NB118_117 := n6_; clear n0_ n1_ n2_ n3_ n4_ n5_ n6_; clear hb hbox hg; have hnb30 := NB117_118.out; have hnc30 := NB118_117.out; have hcz31_0 : w29.cell? ⟨gb117, 0, none⟩ = some (.int .i64 a0_0) := (blk_cell BK117.out 0).trans rfl; have hcz31_1 : w29.cell? ⟨gb117, 1, none⟩ = some (.string a0_1) := (blk_cell BK117.out 1).trans rfl; have hcz31_2 : w29.cell? ⟨gb117, 2, none⟩ = some (.int .i64 a0_2) := (blk_cell BK117.out 2).trans rfl; have hfz31_0 := blk_frozen BK117.out 0; have hfz31_1 := blk_frozen BK117.out 1; have hfz31_2 := blk_frozen BK117.out 2; have hcz32_0 : w29.cell? ⟨gb118, 0, none⟩ = some (.int .i64 a1_0) := (blk_cell BK118.out 0).trans rfl; have hcz32_1 : w29.cell? ⟨gb118, 1, none⟩ = some (.string a1_1) := (blk_cell BK118.out 1).trans rfl; have hcz32_2 : w29.cell? ⟨gb118, 2, none⟩ = some (.int .i64 a1_2) := (blk_cell BK118.out 2).trans rfl; have hfz32_0 := blk_frozen BK118.out 0; have hfz32_1 := blk_frozen BK118.out 1; have hfz32_2 := blk_frozen BK118.out 2))
      go_ret
      exact ⟨by first | rfl | (simp [errW_none, errW_some] <;> rfl) | (simp [*, errW_none, errW_some] <;> rfl), by repeat (first | (with_reducible first | exact HB.out | apply below_alloc | apply pw_below_drewN | apply below_drew1 | refine below_set ?_ GE117.out | refine below_set ?_ GE118.out) | exact HB.out)⟩
     ·rw [if_neg c27] at H
      have c27b0 := decide_eq_false c27
      clear c27
      by_cases c33 : a0_2 > a1_2
      ·rw [if_pos c33] at H
       have c33b0 := decide_eq_true c33
       clear c33
       obtain rfl := Option.some.inj H
       go_enter Try.func19, Try.ntmps19
       go_wp2_with (first | ((with_reducible refine gate_dst (N := 2) rfl ?_); refine box_event ?hg (N := 2) ?hd (cs := #[.int .i64 a0_0, .string a0_1, .int .i64 a0_2]) (t := 32) ?hr ?_; (case hd => rfl); (case hg => rfl); (case hr => first | (go_simp; done) | (go_simp; rfl)); intro gb117 hg w34 hbox hb; have BK117 := ak (hbox); have GW117 := ak ((by rw [hg]; exact (below_size (by repeat (first | (with_reducible first | exact HB.out | apply below_alloc | apply pw_below_drewN | apply below_drew1) | exact HB.out))) : w.heap.size ≤ gb117)); have GE117 := ak ((by rw [hg]; exact (below_size (by repeat (first | (with_reducible first | exact HB.out | apply below_alloc | apply pw_below_drewN | apply below_drew1) | exact HB.out))) : w.heap.size ≤ gb117)); replace HB := ak (below_step (by repeat (first | (with_reducible first | exact HB.out | apply below_alloc | apply pw_below_drewN | apply below_drew1) | exact HB.out)) hb); clear hb hbox hg) | ((with_reducible refine gate_dst (N := 3) rfl ?_); refine box_event ?hg (N := 3) ?hd (cs := #[.int .i64 a1_0, .string a1_1, .int .i64 a1_2]) (t := 32) ?hr ?_; (case hd => rfl); (case hg => rfl); (case hr => first | (go_simp; done) | (go_simp; rfl)); intro gb118 hg w35 hbox hb; have n0_ := ak (blk_below (g := gb117) (o := .cells #[.int .i64 a0_0, .string a0_1, .int .i64 a0_2] 32 (0, 0)) (by (with_reducible repeat (first | refine blk_drewN ?_ _ | refine blk_drew ?_ | refine blk_alloc ?_ _)); exact BK117.out) hb); have n1_ := ak (below_step (by repeat (first | (with_reducible first | exact HB.out | apply below_alloc | apply pw_below_drewN | apply below_drew1 | refine below_set ?_ GE117.out) | exact HB.out)) hb); have n2_ := ak (hbox); have n3_ := ak ((by rw [hg]; exact (below_size (by repeat (first | (with_reducible first | exact HB.out | apply below_alloc | apply pw_below_drewN | apply below_drew1 | refine below_set ?_ GE117.out) | exact HB.out))) : w.heap.size ≤ gb118)); have n4_ := ak ((by rw [hg]; exact (below_size (by repeat (first | (with_reducible first | exact HB.out | apply below_alloc | apply pw_below_drewN | apply below_drew1 | refine below_set ?_ GE117.out) | exact HB.out))) : w.heap.size ≤ gb118)); have n5_ := ak ((by rw [hg]; exact Nat.ne_of_lt (blk_lt (g := gb117) (o := .cells #[.int .i64 a0_0, .string a0_1, .int .i64 a0_2] 32 (0, 0)) (by (with_reducible repeat (first | refine blk_drewN ?_ _ | refine blk_drew ?_ | refine blk_alloc ?_ _)); exact BK117.out)) : gb117 ≠ gb118)); have n6_ := ak ((by rw [hg]; exact Nat.ne_of_gt (blk_lt (g := gb117) (o := .cells #[.int .i64 a0_0, .string a0_1, .int .i64 a0_2] 32 (0, 0)) (by (with_reducible repeat (first | refine blk_drewN ?_ _ | refine blk_drew ?_ | refine blk_alloc ?_ _)); exact BK117.out)) : gb118 ≠ gb117)); clear BK117; clear HB; have BK117 := n0_; have HB := n1_; have BK118 := n2_; have GW118 := n3_; have GE118 := n4_; have NB117_118 := n5_; have NB118_117 := n6_; clear n0_ n1_ n2_ n3_ n4_ n5_ n6_; clear hb hbox hg; have hnb36 := NB117_118.out; have hnc36 := NB118_117.out; have hcz37_0 : w35.cell? ⟨gb117, 0, none⟩ = some (.int .i64 a0_0) := (blk_cell BK117.out 0).trans rfl; have hcz37_1 : w35.cell? ⟨gb117, 1, none⟩ = some (.string a0_1) := (blk_cell BK117.out 1).trans rfl; have hcz37_2 : w35.cell? ⟨gb117, 2, none⟩ = some (.int .i64 a0_2) := (blk_cell BK117.out 2).trans rfl; have hfz37_0 := blk_frozen BK117.out 0; have hfz37_1 := blk_frozen BK117.out 1; have hfz37_2 := blk_frozen BK117.out 2; have hcz38_0 : w35.cell? ⟨gb118, 0, none⟩ = some (.int .i64 a1_0) := (blk_cell BK118.out 0).trans rfl; have hcz38_1 : w35.cell? ⟨gb118, 1, none⟩ = some (.string a1_1) := (blk_cell BK118.out 1).trans rfl; have hcz38_2 : w35.cell? ⟨gb118, 2, none⟩ = some (.int .i64 a1_2) := (blk_cell BK118.out 2).trans rfl; have hfz38_0 := blk_frozen BK118.out 0; have hfz38_1 := blk_frozen BK118.out 1; have hfz38_2 := blk_frozen BK118.out 2))
       go_ret
       exact ⟨by first | rfl | (simp [errW_none, errW_some] <;> rfl) | (simp [*, errW_none, errW_some] <;> rfl), by repeat (first | (with_reducible first | exact HB.out | apply below_alloc | apply pw_below_drewN | apply below_drew1 | refine below_set ?_ GE117.out | refine below_set ?_ GE118.out) | exact HB.out)⟩
      ·rw [if_neg c33] at H
       have c33b0 := decide_eq_false c33
       clear c33
       obtain rfl := Option.some.inj H
       go_enter Try.func19, Try.ntmps19
       go_wp2_with (first | ((with_reducible refine gate_dst (N := 2) rfl ?_); refine box_event ?hg (N := 2) ?hd (cs := #[.int .i64 a0_0, .string a0_1, .int .i64 a0_2]) (t := 32) ?hr ?_; (case hd => rfl); (case hg => rfl); (case hr => first | (go_simp; done) | (go_simp; rfl)); intro gb117 hg w39 hbox hb; have BK117 := ak (hbox); have GW117 := ak ((by rw [hg]; exact (below_size (by repeat (first | (with_reducible first | exact HB.out | apply below_alloc | apply pw_below_drewN | apply below_drew1) | exact HB.out))) : w.heap.size ≤ gb117)); have GE117 := ak ((by rw [hg]; exact (below_size (by repeat (first | (with_reducible first | exact HB.out | apply below_alloc | apply pw_below_drewN | apply below_drew1) | exact HB.out))) : w.heap.size ≤ gb117)); replace HB := ak (below_step (by repeat (first | (with_reducible first | exact HB.out | apply below_alloc | apply pw_below_drewN | apply below_drew1) | exact HB.out)) hb); clear hb hbox hg) | ((with_reducible refine gate_dst (N := 3) rfl ?_); refine box_event ?hg (N := 3) ?hd (cs := #[.int .i64 a1_0, .string a1_1, .int .i64 a1_2]) (t := 32) ?hr ?_; (case hd => rfl); (case hg => rfl); (case hr => first | (go_simp; done) | (go_simp; rfl)); intro gb118 hg w40 hbox hb; have n0_ := ak (blk_below (g := gb117) (o := .cells #[.int .i64 a0_0, .string a0_1, .int .i64 a0_2] 32 (0, 0)) (by (with_reducible repeat (first | refine blk_drewN ?_ _ | refine blk_drew ?_ | refine blk_alloc ?_ _)); exact BK117.out) hb); have n1_ := ak (below_step (by repeat (first | (with_reducible first | exact HB.out | apply below_alloc | apply pw_below_drewN | apply below_drew1 | refine below_set ?_ GE117.out) | exact HB.out)) hb); have n2_ := ak (hbox); have n3_ := ak ((by rw [hg]; exact (below_size (by repeat (first | (with_reducible first | exact HB.out | apply below_alloc | apply pw_below_drewN | apply below_drew1 | refine below_set ?_ GE117.out) | exact HB.out))) : w.heap.size ≤ gb118)); have n4_ := ak ((by rw [hg]; exact (below_size (by repeat (first | (with_reducible first | exact HB.out | apply below_alloc | apply pw_below_drewN | apply below_drew1 | refine below_set ?_ GE117.out) | exact HB.out))) : w.heap.size ≤ gb118)); have n5_ := ak ((by rw [hg]; exact Nat.ne_of_lt (blk_lt (g := gb117) (o := .cells #[.int .i64 a0_0, .string a0_1, .int .i64 a0_2] 32 (0, 0)) (by (with_reducible repeat (first | refine blk_drewN ?_ _ | refine blk_drew ?_ | refine blk_alloc ?_ _)); exact BK117.out)) : gb117 ≠ gb118)); have n6_ := ak ((by rw [hg]; exact Nat.ne_of_gt (blk_lt (g := gb117) (o := .cells #[.int .i64 a0_0, .string a0_1, .int .i64 a0_2] 32 (0, 0)) (by (with_reducible repeat (first | refine blk_drewN ?_ _ | refine blk_drew ?_ | refine blk_alloc ?_ _)); exact BK117.out)) : gb118 ≠ gb117)); clear BK117; clear HB; have BK117 := n0_; have HB := n1_; have BK118 := n2_; have GW118 := n3_; have GE118 := n4_; have NB117_118 := n5_; have NB118_117 := n6_; clear n0_ n1_ n2_ n3_ n4_ n5_ n6_; clear hb hbox hg; have hnb41 := NB117_118.out; have hnc41 := NB118_117.out; have hcz42_0 : w40.cell? ⟨gb117, 0, none⟩ = some (.int .i64 a0_0) := (blk_cell BK117.out 0).trans rfl; have hcz42_1 : w40.cell? ⟨gb117, 1, none⟩ = some (.string a0_1) := (blk_cell BK117.out 1).trans rfl; have hcz42_2 : w40.cell? ⟨gb117, 2, none⟩ = some (.int .i64 a0_2) := (blk_cell BK117.out 2).trans rfl; have hfz42_0 := blk_frozen BK117.out 0; have hfz42_1 := blk_frozen BK117.out 1; have hfz42_2 := blk_frozen BK117.out 2; have hcz43_0 : w40.cell? ⟨gb118, 0, none⟩ = some (.int .i64 a1_0) := (blk_cell BK118.out 0).trans rfl; have hcz43_1 : w40.cell? ⟨gb118, 1, none⟩ = some (.string a1_1) := (blk_cell BK118.out 1).trans rfl; have hcz43_2 : w40.cell? ⟨gb118, 2, none⟩ = some (.int .i64 a1_2) := (blk_cell BK118.out 2).trans rfl; have hfz43_0 := blk_frozen BK118.out 0; have hfz43_1 := blk_frozen BK118.out 1; have hfz43_2 := blk_frozen BK118.out 2))
       go_ret
       exact ⟨by first | rfl | (simp [errW_none, errW_some] <;> rfl) | (simp [*, errW_none, errW_some] <;> rfl), by repeat (first | (with_reducible first | exact HB.out | apply below_alloc | apply pw_below_drewN | apply below_drew1 | refine below_set ?_ GE117.out | refine below_set ?_ GE118.out) | exact HB.out)⟩
mutual
def payoffref03_sums.l0 : Nat → List (S32) → Bool → List (S32) → Int → Option ((List (S32)) × Bool)
  | 0, _, _, _, _ => none
  | k + 1, x0, x1, x6, x7 => if x7 < (x0.length : Int) then (if 0 ≤ x7 then (if x1 = true then (payoffref03_sums.j1 k x0 x1 x6 x7 ((rd_T32 x0 x7).f0) ((rd_T32 x0 x7).f1) ((rd_T32 x0 x7).f2)) else (payoffref03_sums.j1 k x0 x1 x6 x7 0 ((rd_T32 x0 x7).f1) ((rd_T32 x0 x7).f2))) else (none)) else (payoffref03_sums.l2 k x6 0)
def payoffref03_sums.j1 : Nat → List (S32) → Bool → List (S32) → Int → Int → ByteArray → Int → Option ((List (S32)) × Bool)
  | 0, _, _, _, _, _, _, _ => none
  | k + 1, x0, x1, x6, x7, x253000, x253001, x253002 => payoffref03_sums.l1 k x0 x1 x6 x7 (-1) 0 x253000 x253001 x253002
def payoffref03_sums.l1 : Nat → List (S32) → Bool → List (S32) → Int → Int → Int → Int → ByteArray → Int → Option ((List (S32)) × Bool)
  | 0, _, _, _, _, _, _, _, _, _ => none
  | k + 1, x0, x1, x6, x7, x9, x10, x253000, x253001, x253002 => if x10 < (x6.length : Int) then (if 0 ≤ x10 then (if ((rd_T32 x6 x10).f0) = x253000 then (if ((rd_T32 x6 x10).f1).toList = x253001.toList then (payoffref03_sums.l1 k x0 x1 x6 x7 x10 (wrap64 (x10 + 1)) x253000 x253001 x253002) else (payoffref03_sums.l1 k x0 x1 x6 x7 x9 (wrap64 (x10 + 1)) x253000 x253001 x253002)) else (payoffref03_sums.l1 k x0 x1 x6 x7 x9 (wrap64 (x10 + 1)) x253000 x253001 x253002)) else (none)) else (if x9 < 0 then (if x6.length < 4398046511104 then (payoffref03_sums.l0 k x0 x1 (x6 ++ [(⟨x253000, x253001, x253002⟩ : S32)]) (wrap64 (x7 + 1))) else (none)) else (if 0 ≤ x9 then (if x9 < (x6.length : Int) then ((payoffref03_add.f ((rd_T32 x6 x9).f2) x253002).bind fun bt259 => (if bt259.2 = true then (payoffref03_sums.l0 k x0 x1 (x6.set (x9 : Int).toNat (⟨(rd_T32 x6 x9).f0, (rd_T32 x6 x9).f1, bt259.1⟩ : S32)) (wrap64 (x7 + 1))) else (some (([] : List (S32)), false)))) else (none)) else (none)))
def payoffref03_sums.l2 : Nat → List (S32) → Int → Option ((List (S32)) × Bool)
  | 0, _, _ => none
  | k + 1, x6, x13 => if x13 < (x6.length : Int) then (payoffref03_sums.l3 k x6 x13 (wrap64 (x13 + 1))) else (some (x6, true))
def payoffref03_sums.l3 : Nat → List (S32) → Int → Int → Option ((List (S32)) × Bool)
  | 0, _, _, _ => none
  | k + 1, x6, x13, x14 => if x14 < (x6.length : Int) then (if 0 ≤ x14 then (if 0 ≤ x13 then (if x13 < (x6.length : Int) then ((payoffref03_Compare.f ((rd_T32 x6 x14).f0) ((rd_T32 x6 x14).f1) ((rd_T32 x6 x14).f2) ((rd_T32 x6 x13).f0) ((rd_T32 x6 x13).f1) ((rd_T32 x6 x13).f2)).bind fun t264 => (if t264 < 0 then (payoffref03_sums.l3 k ((x6.set (x13 : Int).toNat (⟨(rd_T32 x6 x14).f0, (rd_T32 x6 x14).f1, (rd_T32 x6 x14).f2⟩ : S32)).set (x14 : Int).toNat (⟨(rd_T32 x6 x13).f0, (rd_T32 x6 x13).f1, (rd_T32 x6 x13).f2⟩ : S32)) x13 (wrap64 (x14 + 1))) else (payoffref03_sums.l3 k x6 x13 (wrap64 (x14 + 1))))) else (none)) else (none)) else (none)) else (payoffref03_sums.l2 k x6 (wrap64 (x13 + 1)))
end
def payoffref03_sums.f (k : Nat) (l0 : List (S32)) (a1 : Bool) : Option ((List (S32)) × Bool) := payoffref03_sums.l0 k l0 a1 ([] : List (S32)) 0
theorem payoffref03_sums.mono_l : ∀ k, (∀ y0 y1 y2 y3, LeO (payoffref03_sums.l0 k y0 y1 y2 y3) (payoffref03_sums.l0 (k + 1) y0 y1 y2 y3)) ∧ (∀ y0 y1 y2 y3 y4 y5 y6, LeO (payoffref03_sums.j1 k y0 y1 y2 y3 y4 y5 y6) (payoffref03_sums.j1 (k + 1) y0 y1 y2 y3 y4 y5 y6)) ∧ (∀ y0 y1 y2 y3 y4 y5 y6 y7 y8, LeO (payoffref03_sums.l1 k y0 y1 y2 y3 y4 y5 y6 y7 y8) (payoffref03_sums.l1 (k + 1) y0 y1 y2 y3 y4 y5 y6 y7 y8)) ∧ (∀ y0 y1, LeO (payoffref03_sums.l2 k y0 y1) (payoffref03_sums.l2 (k + 1) y0 y1)) ∧ (∀ y0 y1 y2, LeO (payoffref03_sums.l3 k y0 y1 y2) (payoffref03_sums.l3 (k + 1) y0 y1 y2))
 | 0 => ⟨fun _ _ _ _ r h => by simp [payoffref03_sums.l0] at h, fun _ _ _ _ _ _ _ r h => by simp [payoffref03_sums.j1] at h, fun _ _ _ _ _ _ _ _ _ r h => by simp [payoffref03_sums.l1] at h, fun _ _ r h => by simp [payoffref03_sums.l2] at h, fun _ _ _ r h => by simp [payoffref03_sums.l3] at h⟩
 | k + 1 => by
  obtain ⟨ih0, ih1, ih2, ih3, ih4⟩ := payoffref03_sums.mono_l k
  refine ⟨?_, ?_, ?_, ?_, ?_⟩
  ·intro y0 y1 y2 y3
   unfold payoffref03_sums.l0
   repeat' first
   | (with_reducible exact ih0 _ _ _ _)
   | (with_reducible exact ih1 _ _ _ _ _ _ _)
   | (with_reducible exact ih2 _ _ _ _ _ _ _ _ _)
   | (with_reducible exact ih3 _ _)
   | (with_reducible exact ih4 _ _ _)
   | (with_reducible exact LeO.refl _)
   | (with_reducible exact LeO.none _)
   | (with_reducible refine LeO.ite ?_ ?_)
   | (with_reducible refine LeO.bind ?_ (fun _ => ?_))
   | exact ih0 _ _ _ _
   | exact ih1 _ _ _ _ _ _ _
   | exact ih2 _ _ _ _ _ _ _ _ _
   | exact ih3 _ _
   | exact ih4 _ _ _
   | exact LeO.none _
   | refine LeO.ite ?_ ?_
   | refine LeO.bind ?_ (fun _ => ?_)
  ·intro y0 y1 y2 y3 y4 y5 y6
   unfold payoffref03_sums.j1
   repeat' first
   | (with_reducible exact ih0 _ _ _ _)
   | (with_reducible exact ih1 _ _ _ _ _ _ _)
   | (with_reducible exact ih2 _ _ _ _ _ _ _ _ _)
   | (with_reducible exact ih3 _ _)
   | (with_reducible exact ih4 _ _ _)
   | (with_reducible exact LeO.refl _)
   | (with_reducible exact LeO.none _)
   | (with_reducible refine LeO.ite ?_ ?_)
   | (with_reducible refine LeO.bind ?_ (fun _ => ?_))
   | exact ih0 _ _ _ _
   | exact ih1 _ _ _ _ _ _ _
   | exact ih2 _ _ _ _ _ _ _ _ _
   | exact ih3 _ _
   | exact ih4 _ _ _
   | exact LeO.none _
   | refine LeO.ite ?_ ?_
   | refine LeO.bind ?_ (fun _ => ?_)
  ·intro y0 y1 y2 y3 y4 y5 y6 y7 y8
   unfold payoffref03_sums.l1
   repeat' first
   | (with_reducible exact ih0 _ _ _ _)
   | (with_reducible exact ih1 _ _ _ _ _ _ _)
   | (with_reducible exact ih2 _ _ _ _ _ _ _ _ _)
   | (with_reducible exact ih3 _ _)
   | (with_reducible exact ih4 _ _ _)
   | (with_reducible exact LeO.refl _)
   | (with_reducible exact LeO.none _)
   | (with_reducible refine LeO.ite ?_ ?_)
   | (with_reducible refine LeO.bind ?_ (fun _ => ?_))
   | exact ih0 _ _ _ _
   | exact ih1 _ _ _ _ _ _ _
   | exact ih2 _ _ _ _ _ _ _ _ _
   | exact ih3 _ _
   | exact ih4 _ _ _
   | exact LeO.none _
   | refine LeO.ite ?_ ?_
   | refine LeO.bind ?_ (fun _ => ?_)
  ·intro y0 y1
   unfold payoffref03_sums.l2
   repeat' first
   | (with_reducible exact ih0 _ _ _ _)
   | (with_reducible exact ih1 _ _ _ _ _ _ _)
   | (with_reducible exact ih2 _ _ _ _ _ _ _ _ _)
   | (with_reducible exact ih3 _ _)
   | (with_reducible exact ih4 _ _ _)
   | (with_reducible exact LeO.refl _)
   | (with_reducible exact LeO.none _)
   | (with_reducible refine LeO.ite ?_ ?_)
   | (with_reducible refine LeO.bind ?_ (fun _ => ?_))
   | exact ih0 _ _ _ _
   | exact ih1 _ _ _ _ _ _ _
   | exact ih2 _ _ _ _ _ _ _ _ _
   | exact ih3 _ _
   | exact ih4 _ _ _
   | exact LeO.none _
   | refine LeO.ite ?_ ?_
   | refine LeO.bind ?_ (fun _ => ?_)
  ·intro y0 y1 y2
   unfold payoffref03_sums.l3
   repeat' first
   | (with_reducible exact ih0 _ _ _ _)
   | (with_reducible exact ih1 _ _ _ _ _ _ _)
   | (with_reducible exact ih2 _ _ _ _ _ _ _ _ _)
   | (with_reducible exact ih3 _ _)
   | (with_reducible exact ih4 _ _ _)
   | (with_reducible exact LeO.refl _)
   | (with_reducible exact LeO.none _)
   | (with_reducible refine LeO.ite ?_ ?_)
   | (with_reducible refine LeO.bind ?_ (fun _ => ?_))
   | exact ih0 _ _ _ _
   | exact ih1 _ _ _ _ _ _ _
   | exact ih2 _ _ _ _ _ _ _ _ _
   | exact ih3 _ _
   | exact ih4 _ _ _
   | exact LeO.none _
   | refine LeO.ite ?_ ?_
   | refine LeO.bind ?_ (fun _ => ?_)
theorem payoffref03_sums.mono : ∀ a0 a1 k, LeO (payoffref03_sums.f k a0 a1) (payoffref03_sums.f (k + 1) a0 a1) := by
 intro a0 a1 k
 obtain ⟨ih0, ih1, ih2, ih3, ih4⟩ := payoffref03_sums.mono_l k
 unfold payoffref03_sums.f
 repeat' first
  | (with_reducible exact ih0 _ _ _ _)
  | (with_reducible exact ih1 _ _ _ _ _ _ _)
  | (with_reducible exact ih2 _ _ _ _ _ _ _ _ _)
  | (with_reducible exact ih3 _ _)
  | (with_reducible exact ih4 _ _ _)
  | (with_reducible exact LeO.refl _)
  | (with_reducible exact LeO.none _)
  | (with_reducible refine LeO.ite ?_ ?_)
  | (with_reducible refine LeO.bind ?_ (fun _ => ?_))
  | exact ih0 _ _ _ _
  | exact ih1 _ _ _ _ _ _ _
  | exact ih2 _ _ _ _ _ _ _ _ _
  | exact ih3 _ _
  | exact ih4 _ _ _
  | exact LeO.none _
  | refine LeO.ite ?_ ?_
  | refine LeO.bind ?_ (fun _ => ?_)
def payoffref03_sums.T12 : Bool × List (List Nat × List Nat) := (true, [([], []), ([], []), ([0, 1], [0, 1]), ([2], [2]), ([3], [3]), ([], []), ([5], [5]), ([4, 6], [4, 6]), ([7], [7]), ([8], [8]), ([8], [8]), ([9, 10, 8], [8, 9, 10]), ([11, 8], [8, 11]), ([12, 8], [8, 12]), ([8], [8]), ([14, 8], [8, 14]), ([13, 15, 8], [8, 13, 15]), ([8, 16], [8, 16])])
def payoffref03_sums.B12 : List Nat := [0, 0, 3, 7, 15, 0, 32, 127, 255, 511, 511, 2047, 4095, 8191, 511, 16895, 65535, 131071]
theorem payoffref03_sums.tab12 : rtab .any (opsOf Try.f45 12) = payoffref03_sums.T12 := by kernel_rfl
theorem payoffref03_sums.bits12 : waitsOk payoffref03_sums.T12.2 payoffref03_sums.B12 = true := by kernel_rfl
def payoffref03_sums.T16 : Bool × List (List Nat × List Nat) := (true, [([], []), ([], []), ([0, 1], [0, 1]), ([2], [2]), ([3], [3]), ([], []), ([5], [5]), ([4, 6], [4, 6]), ([7], [7]), ([8], [8]), ([8], [8]), ([9, 7, 0, 1, 2, 3, 4, 5, 6, 7, 8, 9], [9]), ([10, 11, 0, 1, 2, 3, 4, 5, 6, 7, 8, 9, 10, 11], [10])])
def payoffref03_sums.B16 : List Nat := [0, 0, 3, 7, 15, 0, 32, 127, 255, 511, 511, 1023, 4095]
theorem payoffref03_sums.tab16 : rtab .any (opsOf Try.f45 16) = payoffref03_sums.T16 := by kernel_rfl
theorem payoffref03_sums.bits16 : waitsOk payoffref03_sums.T16.2 payoffref03_sums.B16 = true := by kernel_rfl
def payoffref03_sums.T26 : Bool × List (List Nat × List Nat) := (true, [([], []), ([], []), ([0, 1], [0, 1]), ([2], [2]), ([], []), ([], []), ([4, 5], [4, 5]), ([6], [6]), ([3, 7], [3, 7]), ([8], [8])])
def payoffref03_sums.B26 : List Nat := [0, 0, 3, 7, 0, 0, 48, 112, 255, 511]
theorem payoffref03_sums.tab26 : rtab .any (opsOf Try.f45 26) = payoffref03_sums.T26 := by kernel_rfl
theorem payoffref03_sums.bits26 : waitsOk payoffref03_sums.T26.2 payoffref03_sums.B26 = true := by kernel_rfl
set_option maxHeartbeats 8000000 in
set_option maxRecDepth 100000 in
theorem payoffref03_sums.calls (k : Nat) (A0 : Option Addr) (c0 : Nat) (l0 : List (S32)) (a1 : Bool) (r1 : List (S32)) (r2 : Bool) (w : World) (hr0 : Kd.C k32 w A0 l0.length l0) (hc0 : l0.length ≤ c0) (h : payoffref03_sums.f k l0 a1 = some (r1, r2)) :
  Calls Try.prog 45 #[.slice A0 l0.length c0, .bool a1] w fun e w' => ∃ v0_ : Value, e = .returned (.tuple #[v0_, .bool r2]) ∧ Kd.R k32 32 w' w.heap.size (fun _ => True) v0_ r1 ∧ Below w.heap.size w w' := by
 have hu32 := Try.underlying32
 have HR0 := ak hr0
 have HC0 := ak hc0
 clear hr0 hc0
 have HB := ak (Below.refl w.heap.size w)
 have H : (payoffref03_sums.l0 k l0 a1 ([] : List (S32)) 0) = some (r1, r2) := h
 clear h
 have H' := ak H
 clear H
 go_enter Try.func45, Try.ntmps45
 go_wp2
 go_loopg [6, 7] k (fun kq v6 v7 w' => ∃ (x6_1 : List (S32)) (x7_1 : Int), v7 = .int .i64 x7_1 ∧ Aside0 (payoffref03_sums.l0 kq l0 a1 x6_1 x7_1 = some (r1, r2)) ∧ Aside0 (kq ≤ k) ∧ Aside0 (Kd.R k32 32 w' w.heap.size (fun _ => True) v6 x6_1) ∧ Aside0 (Below w.heap.size w w'))
 case atStart => exact ⟨(([] : List (S32))), (0), (by first | rfl | (simp; done) | (simp [*]; done)), H', ⟨Nat.le_refl _⟩, ⟨by first | exact Kd.R_nil _ _ _ _ _ | exact Kd.N_nil _ _ _ _ _ | exact Kd.V_nil _ _ _ _ _ | exact Kd.Q_nil _ _ _ _ _ | exact Kd.S_nil _ _ _ _ _⟩, ⟨by repeat (first | (with_reducible first | exact HB.out | apply below_alloc | apply pw_below_drewN | apply below_drew1) | exact HB.out)⟩⟩
 case round =>
  clear H'
  try clear p2
  obtain ⟨x6_1, x7_1, rfl, HA, HK1, HO_6, HB⟩ := hrel
  cases gk with
  | zero => exact absurd HA.out (by simp [payoffref03_sums.l0])
  | succ k1 =>
   have H := HA.out
   clear HA
   simp only [payoffref03_sums.l0] at H
   by_cases c3 : x7_1 < (l0.length : Int)
   ·rw [if_pos c3] at H
    have c3b0 := decide_eq_true c3
    clear c3
    by_cases c4 : 0 ≤ x7_1
    ·rw [if_pos c4] at H
     have c4b0 := decide_eq_true c4
     clear c4
     have HC5 := ak H
     clear H
     have p251 : 0 ≤ (x7_1 : Int) := of_decide_eq_true (by first | (with_reducible assumption) | assumption)
     have q251 : x7_1 < (l0.length : Int) := of_decide_eq_true (by first | (with_reducible assumption) | assumption)
     obtain ⟨ad251, e251, hx251_0, hx251_1, hx251_2⟩ := at_T32 HR0.out x7_1 p251 q251
     cases e251
     replace hx251_0 := (HB.out.cell (World.block_lt_of_cell? w _ hx251_0)).trans hx251_0
     replace hx251_1 := (HB.out.cell (World.block_lt_of_cell? w _ hx251_1)).trans hx251_1
     replace hx251_2 := (HB.out.cell (World.block_lt_of_cell? w _ hx251_2)).trans hx251_2
     replace p251 := eq_true p251
     replace q251 := eq_true q251
     go_upto_if 27 with (first | ((with_reducible refine gate_dst (N := 8) rfl ?_); refine box_event ?hg (N := 8) ?hd (cs := #[.int .i64 0, .string (⟨#[]⟩ : ByteArray), .int .i64 0]) (t := 32) ?hr ?_; (case hd => rfl); (case hg => rfl); (case hr => first | (go_simp; done) | (go_simp; rfl)); intro gb252 hg w6 hbox hb; have n0_ := ak (Kd.R_below (Kd.R_elderB (by (with_reducible repeat (first | apply Kd.R_alloc | apply Kd.R_drewN | apply Kd.R_drew)); exact HO_6.out) gb252 (Nat.le_of_eq hg.symm)) hb); have n1_ := ak (below_step (by repeat (first | (with_reducible first | exact HB.out | apply below_alloc | apply pw_below_drewN | apply below_drew1) | exact HB.out)) hb); have n2_ := ak (hbox); have n3_ := ak ((by rw [hg]; exact (below_size (by repeat (first | (with_reducible first | exact HB.out | apply below_alloc | apply pw_below_drewN | apply below_drew1) | exact HB.out))) : w.heap.size ≤ gb252)); have n4_ := ak ((by rw [hg]; exact (below_size (by repeat (first | (with_reducible first | exact HB.out | apply below_alloc | apply pw_below_drewN | apply below_drew1) | exact HB.out))) : w.heap.size ≤ gb252)); clear HO_6; clear HB; have HO_6 := n0_; have HB := n1_; have BK252 := n2_; have GW252 := n3_; have GE252 := n4_; clear n0_ n1_ n2_ n3_ n4_; clear hb hbox hg; have hcz7_0 : w6.cell? ⟨gb252, 0, none⟩ = some (.int .i64 0) := (blk_cell BK252.out 0).trans rfl; have hcz7_1 : w6.cell? ⟨gb252, 1, none⟩ = some (.string (⟨#[]⟩ : ByteArray)) := (blk_cell BK252.out 1).trans rfl; have hcz7_2 : w6.cell? ⟨gb252, 2, none⟩ = some (.int .i64 0) := (blk_cell BK252.out 2).trans rfl; have hfz7_0 := blk_frozen BK252.out 0; have hfz7_1 := blk_frozen BK252.out 1; have hfz7_2 := blk_frozen BK252.out 2))
     (try simp only [Act.put, List.setIfInBounds_toArray, List.set_cons_zero, List.set_cons_succ])
     go_cut [] (fun wc => ∃ (kq : Nat) (x253000_4 : Int), Aside0 (payoffref03_sums.j1 kq l0 a1 x6_1 x7_1 x253000_4 ((rd_T32 l0 x7_1).f1) ((rd_T32 l0 x7_1).f2) = some (r1, r2)) ∧ Aside0 (kq ≤ k1) ∧ Aside0 (Kd.R k32 32 wc w.heap.size (fun k_ => k_ ≠ gb252) u6 x6_1) ∧ Aside0 (wc.heap[gb252]? = some (.cells #[.int .i64 x253000_4, .string ((rd_T32 l0 x7_1).f1), .int .i64 ((rd_T32 l0 x7_1).f2)] 32 (0, 0))) ∧ Aside0 (Below w.heap.size w wc))
     case first =>
      have H := HC5.out
      clear HC5
      by_cases c8 : a1 = true
      ·subst c8
       have H1 : (payoffref03_sums.j1 k1 l0 true x6_1 x7_1 ((rd_T32 l0 x7_1).f0) ((rd_T32 l0 x7_1).f1) ((rd_T32 l0 x7_1).f2)) = some (r1, r2) := by rw [if_pos rfl] at H; exact H
       clear H
       have H := H1
       clear H1
       have H' := ak H
       clear H
       go_wp2
       go_meet
       case rel => exact ⟨_, ((rd_T32 l0 x7_1).f0), H', ⟨by have := HK1.out; first | omega | exact Nat.le_refl _⟩, ⟨by (with_reducible repeat (first | apply Kd.R_alloc | apply Kd.R_drewN | apply Kd.R_drew)); exact Kd.R_mono (Kd.R_far (p := ⟨gb252, 2, none⟩) (Kd.R_far (p := ⟨gb252, 1, none⟩) (Kd.R_far (p := ⟨gb252, 0, none⟩) (Kd.R_mono HO_6.out (fun k_ hk => (⟨hk, hk.2⟩ : _ ∧ k_ ≠ gb252))) (fun _ hk => hk.2) (.int .i64 ((rd_T32 l0 x7_1).f0))) (fun _ hk => hk.2) (.string ((rd_T32 l0 x7_1).f1))) (fun _ hk => hk.2) (.int .i64 ((rd_T32 l0 x7_1).f2))) (fun _ hk => hk.1.2)⟩, ⟨by (with_reducible repeat (first | refine blk_drewN ?_ _ | refine blk_drew ?_ | refine blk_alloc ?_ _)); refine blk_put (cs := #[.int .i64 ((rd_T32 l0 x7_1).f0), .string ((rd_T32 l0 x7_1).f1), .int .i64 0]) ?_ 2 _ rfl; (with_reducible repeat (first | refine blk_drewN ?_ _ | refine blk_drew ?_ | refine blk_alloc ?_ _)); refine blk_put (cs := #[.int .i64 ((rd_T32 l0 x7_1).f0), .string (⟨#[]⟩ : ByteArray), .int .i64 0]) ?_ 1 _ rfl; (with_reducible repeat (first | refine blk_drewN ?_ _ | refine blk_drew ?_ | refine blk_alloc ?_ _)); refine blk_put (cs := #[.int .i64 0, .string (⟨#[]⟩ : ByteArray), .int .i64 0]) ?_ 0 _ rfl; (with_reducible repeat (first | refine blk_drewN ?_ _ | refine blk_drew ?_ | refine blk_alloc ?_ _)); exact BK252.out⟩, ⟨by repeat (first | (with_reducible first | exact HB.out | apply below_alloc | apply pw_below_drewN | apply below_drew1 | refine below_set ?_ GE252.out) | exact HB.out)⟩⟩
      ·replace c8 := Bool.eq_false_iff.mpr c8
       subst c8
       have H1 : (payoffref03_sums.j1 k1 l0 false x6_1 x7_1 0 ((rd_T32 l0 x7_1).f1) ((rd_T32 l0 x7_1).f2)) = some (r1, r2) := by rw [if_neg (show ¬ (false = true) by decide)] at H; exact H
       clear H
       have H := H1
       clear H1
       have H' := ak H
       clear H
       have hcz9_0 : w6.cell? ⟨gb252, 0, none⟩ = some (.int .i64 0) := (blk_cell BK252.out 0).trans rfl
       have hcz9_1 : w6.cell? ⟨gb252, 1, none⟩ = some (.string (⟨#[]⟩ : ByteArray)) := (blk_cell BK252.out 1).trans rfl
       have hcz9_2 : w6.cell? ⟨gb252, 2, none⟩ = some (.int .i64 0) := (blk_cell BK252.out 2).trans rfl
       have hfz9_0 := blk_frozen BK252.out 0
       have hfz9_1 := blk_frozen BK252.out 1
       have hfz9_2 := blk_frozen BK252.out 2
       go_wp2
       go_meet
       case rel => exact ⟨_, (0), H', ⟨by have := HK1.out; first | omega | exact Nat.le_refl _⟩, ⟨by (with_reducible repeat (first | apply Kd.R_alloc | apply Kd.R_drewN | apply Kd.R_drew)); exact Kd.R_mono (Kd.R_far (p := ⟨gb252, 0, none⟩) (Kd.R_far (p := ⟨gb252, 2, none⟩) (Kd.R_far (p := ⟨gb252, 1, none⟩) (Kd.R_far (p := ⟨gb252, 0, none⟩) (Kd.R_mono HO_6.out (fun k_ hk => (⟨hk, hk.2⟩ : _ ∧ k_ ≠ gb252))) (fun _ hk => hk.2) (.int .i64 ((rd_T32 l0 x7_1).f0))) (fun _ hk => hk.2) (.string ((rd_T32 l0 x7_1).f1))) (fun _ hk => hk.2) (.int .i64 ((rd_T32 l0 x7_1).f2))) (fun _ hk => hk.2) (.int .i64 0)) (fun _ hk => hk.1.2)⟩, ⟨by (with_reducible repeat (first | refine blk_drewN ?_ _ | refine blk_drew ?_ | refine blk_alloc ?_ _)); refine blk_put (cs := #[.int .i64 ((rd_T32 l0 x7_1).f0), .string ((rd_T32 l0 x7_1).f1), .int .i64 ((rd_T32 l0 x7_1).f2)]) ?_ 0 _ rfl; (with_reducible repeat (first | refine blk_drewN ?_ _ | refine blk_drew ?_ | refine blk_alloc ?_ _)); refine blk_put (cs := #[.int .i64 ((rd_T32 l0 x7_1).f0), .string ((rd_T32 l0 x7_1).f1), .int .i64 0]) ?_ 2 _ rfl; (with_reducible repeat (first | refine blk_drewN ?_ _ | refine blk_drew ?_ | refine blk_alloc ?_ _)); refine blk_put (cs := #[.int .i64 ((rd_T32 l0 x7_1).f0), .string (⟨#[]⟩ : ByteArray), .int .i64 0]) ?_ 1 _ rfl; (with_reducible repeat (first | refine blk_drewN ?_ _ | refine blk_drew ?_ | refine blk_alloc ?_ _)); refine blk_put (cs := #[.int .i64 0, .string (⟨#[]⟩ : ByteArray), .int .i64 0]) ?_ 0 _ rfl; (with_reducible repeat (first | refine blk_drewN ?_ _ | refine blk_drew ?_ | refine blk_alloc ?_ _)); exact BK252.out⟩, ⟨by repeat (first | (with_reducible first | exact HB.out | apply below_alloc | apply pw_below_drewN | apply below_drew1 | refine below_set ?_ GE252.out) | exact HB.out)⟩⟩
     case rest =>
      clear HC5
      try clear p2
      try clear q2
      try clear hx2
      try clear c3
      try clear c3b0
      try clear c4
      try clear c4b0
      try clear c8
      try clear hcz7_0
      try clear hcz7_1
      try clear hcz7_2
      try clear hcz9_0
      try clear hcz9_1
      try clear hcz9_2
      try clear hfz7_0
      try clear hfz7_1
      try clear hfz7_2
      try clear hfz9_0
      try clear hfz9_1
      try clear hfz9_2
      try clear hx251_0
      try clear hx251_1
      try clear hx251_2
      try clear p2
      try clear p251
      try clear q251
      obtain ⟨kq, x253000_4, HA, HJ4, HO_6, BK252, HB⟩ := hcut
      cases kq with
      | zero => exact absurd HA.out (by simp [payoffref03_sums.j1])
      | succ kj4 =>
       have H := HA.out
       clear HA
       simp only [payoffref03_sums.j1] at H
       have H' := ak H
       clear H
       go_wp2
       go_loopg [9, 10] kj4 (fun kq v9 v10 w' => ∃ (x9_3 : Int) (x10_3 : Int), v9 = .int .i64 x9_3 ∧ v10 = .int .i64 x10_3 ∧ Aside0 (payoffref03_sums.l1 kq l0 a1 x6_1 x7_1 x9_3 x10_3 x253000_4 ((rd_T32 l0 x7_1).f1) ((rd_T32 l0 x7_1).f2) = some (r1, r2)) ∧ Aside0 (kq ≤ kj4) ∧ Aside0 (Kd.R k32 32 w' w.heap.size (fun k_ => k_ ≠ gb252) u6 x6_1) ∧ Aside0 (w'.heap[gb252]? = some (.cells #[.int .i64 x253000_4, .string ((rd_T32 l0 x7_1).f1), .int .i64 ((rd_T32 l0 x7_1).f2)] 32 (0, 0))) ∧ Aside0 (Below w.heap.size w w'))
       case atStart => exact ⟨((-1)), (0), (by first | rfl | (simp; done) | (simp [*]; done)), (by first | rfl | (simp; done) | (simp [*]; done)), H', ⟨Nat.le_refl _⟩, ⟨by (with_reducible repeat (first | apply Kd.R_alloc | apply Kd.R_drewN | apply Kd.R_drew)); exact HO_6.out⟩, ⟨by (with_reducible repeat (first | refine blk_drewN ?_ _ | refine blk_drew ?_ | refine blk_alloc ?_ _)); exact BK252.out⟩, ⟨by repeat (first | (with_reducible first | exact HB.out | apply below_alloc | apply pw_below_drewN | apply below_drew1 | refine below_set ?_ GE252.out) | exact HB.out)⟩⟩
       case round =>
        clear H'
        try clear p2
        try clear q2
        try clear hx2
        try clear c3
        try clear c3b0
        try clear c4
        try clear c4b0
        try clear c8
        try clear hcz7_0
        try clear hcz7_1
        try clear hcz7_2
        try clear hcz9_0
        try clear hcz9_1
        try clear hcz9_2
        try clear hfz7_0
        try clear hfz7_1
        try clear hfz7_2
        try clear hfz9_0
        try clear hfz9_1
        try clear hfz9_2
        try clear hx251_0
        try clear hx251_1
        try clear hx251_2
        try clear p2
        try clear p251
        try clear q2
        try clear q251
        obtain ⟨x9_3, x10_3, rfl, rfl, HA, HK3, HO_6, BK252, HB⟩ := hrel
        cases gk with
        | zero => exact absurd HA.out (by simp [payoffref03_sums.l1])
        | succ k3 =>
         have H := HA.out
         clear HA
         simp only [payoffref03_sums.l1] at H
         by_cases c10 : x10_3 < (x6_1.length : Int)
         ·rw [if_pos c10] at H
          have c10b0 := decide_eq_true c10
          clear c10
          by_cases c11 : 0 ≤ x10_3
          ·rw [if_pos c11] at H
           have c11b0 := decide_eq_true c11
           clear c11
           by_cases c12 : ((rd_T32 x6_1 x10_3).f0) = x253000_4
           ·rw [if_pos c12] at H
            have c12b0 : (((rd_T32 x6_1 x10_3).f0) == x253000_4) = true := beq_iff_eq.mpr c12
            have c12b1 : (((rd_T32 x6_1 x10_3).f0) != x253000_4) = false := bne_eq_false_iff_eq.mpr c12
            clear c12
            by_cases c13 : ((rd_T32 x6_1 x10_3).f1).toList = ((rd_T32 l0 x7_1).f1).toList
            ·rw [if_pos c13] at H
             have c13b0 : (((rd_T32 x6_1 x10_3).f1).toList == ((rd_T32 l0 x7_1).f1).toList) = true := beq_iff_eq.mpr c13
             have c13b1 : (((rd_T32 x6_1 x10_3).f1).toList != ((rd_T32 l0 x7_1).f1).toList) = false := bne_eq_false_iff_eq.mpr c13
             clear c13
             have H' := ak H
             clear H
             obtain ⟨Ao14, co14, eo14⟩ := Kd.R_slice HO_6.out
             subst eo14
             try go_wp2
             replace HO_6 := ak (Kd.R_drew HO_6.out)
             replace BK252 := ak (blk_drew BK252.out)
             replace HB := ak (below_drew1 HB.out)
             have p253 : 0 ≤ (x10_3 : Int) := of_decide_eq_true (by first | (with_reducible assumption) | assumption)
             have q253 : x10_3 < (x6_1.length : Int) := of_decide_eq_true (by first | (with_reducible assumption) | assumption)
             obtain ⟨ad253, e253, hx253_0, hx253_1, hx253_2⟩ := at_T32 (Kd.R_reads' HO_6.out).2.2 x10_3 p253 q253
             cases e253
             replace p253 := eq_true p253
             replace q253 := eq_true q253
             have p254 : 0 ≤ (x10_3 : Int) := of_decide_eq_true (by first | (with_reducible assumption) | assumption)
             have q254 : x10_3 < (x6_1.length : Int) := of_decide_eq_true (by first | (with_reducible assumption) | assumption)
             obtain ⟨ad254, e254, hx254_0, hx254_1, hx254_2⟩ := at_T32 (Kd.R_reads' HO_6.out).2.2 x10_3 p254 q254
             obtain rfl : ad253 = ad254 := (by injection e254)
             replace p254 := eq_true p254
             replace q254 := eq_true q254
             refine start_ (n := 18) (S := fun w' => w'.cell? ⟨gb252, 0, none⟩ = some (.int .i64 x253000_4) ∧ w'.cell? ⟨gb252, 1, none⟩ = some (.string ((rd_T32 l0 x7_1).f1)) ∧ w'.cell? ⟨gb252, 2, none⟩ = some (.int .i64 ((rd_T32 l0 x7_1).f2)) ∧ w'.cell? (ad253.add ((x10_3).toNat * 3)) = some (.int .i64 ((rd_T32 x6_1 x10_3).f0)) ∧ w'.cell? ⟨(ad253.add ((x10_3).toNat * 3)).block, (ad253.add ((x10_3).toNat * 3)).off + 1, none⟩ = some (.string ((rd_T32 x6_1 x10_3).f1)) ∧ w'.cell? ⟨(ad253.add ((x10_3).toNat * 3)).block, (ad253.add ((x10_3).toNat * 3)).off + 2, none⟩ = some (.int .i64 ((rd_T32 x6_1 x10_3).f2)) ∧ w'.cell? (ad253.add ((x10_3).toNat * 3)) = some (.int .i64 ((rd_T32 x6_1 x10_3).f0)) ∧ w'.cell? ⟨(ad253.add ((x10_3).toNat * 3)).block, (ad253.add ((x10_3).toNat * 3)).off + 1, none⟩ = some (.string ((rd_T32 x6_1 x10_3).f1)) ∧ w'.cell? ⟨(ad253.add ((x10_3).toNat * 3)).block, (ad253.add ((x10_3).toNat * 3)).off + 2, none⟩ = some (.int .i64 ((rd_T32 x6_1 x10_3).f2))) (ds := []) (Go.ba 18 0) (by kernel_rfl) rfl rfl ⟨(blk_cell BK252.out 0).trans rfl, (blk_cell BK252.out 1).trans rfl, (blk_cell BK252.out 2).trans rfl, hx253_0, hx253_1, hx253_2, hx254_0, hx254_1, hx254_2⟩ (fun hHeld => ?_); refine with_tabW payoffref03_sums.tab12 payoffref03_sums.bits12 (fun HT_ HW_ => ?_)
             generalize wr.drew = w15 at HO_6 BK252 HB hx253_0 hx253_1 hx253_2 hx254_0 hx254_1 hx254_2 hHeld ⊢
             refine pu 0 35 (Go.ba 18 1) (any_of HT_.out (by kernel_rfl)) ?_
             refine pu 1 36 (Go.ba 18 3) (any_of HT_.out (by kernel_rfl)) ?_
             refine pu 2 37 (Go.ba 18 7) (any_of HT_.out (by kernel_rfl)) ?_
             refine pu 3 38 (Go.ba 18 15) (any_of HT_.out (by kernel_rfl)) ?_
             refine pu 5 40 (Go.ba 18 47) (any_of HT_.out (by kernel_rfl)) ?_
             refine tk 4 39 (Go.ba 18 63) (take_ofW HT_.out HW_.out (by kernel_rfl)) hHeld ?_ (hy := by rintro w' ⟨s0, s1, s2, s3, s4, s5, s6, s7, s8⟩; go_simp; with_reducible rfl)
             refine tk 6 41 (Go.ba 18 127) (take_ofW HT_.out HW_.out (by kernel_rfl)) hHeld ?_ (hy := by rintro w' ⟨s0, s1, s2, s3, s4, s5, s6, s7, s8⟩; go_simp; with_reducible rfl)
             refine pu 7 42 (Go.ba 18 255) (any_of HT_.out (by kernel_rfl)) ?_
             refine pu 8 43 (Go.ba 18 511) (any_of HT_.out (by kernel_rfl)) ?_
             refine pu 9 44 (Go.ba 18 1023) (any_of HT_.out (by kernel_rfl)) ?_
             refine pu 10 45 (Go.ba 18 2047) (any_of HT_.out (by kernel_rfl)) ?_
             refine pu 11 46 (Go.ba 18 4095) (any_of HT_.out (by kernel_rfl)) ?_
             refine pu 12 47 (Go.ba 18 8191) (any_of HT_.out (by kernel_rfl)) ?_
             refine pu 14 49 (Go.ba 18 24575) (any_of HT_.out (by kernel_rfl)) ?_
             refine tk 13 48 (Go.ba 18 32767) (take_ofW HT_.out HW_.out (by kernel_rfl)) hHeld ?_ (hy := by rintro w' ⟨s0, s1, s2, s3, s4, s5, s6, s7, s8⟩; go_simp; with_reducible rfl)
             refine tk 15 50 (Go.ba 18 65535) (take_ofW HT_.out HW_.out (by kernel_rfl)) hHeld ?_ (hy := by rintro w' ⟨s0, s1, s2, s3, s4, s5, s6, s7, s8⟩; go_simp; with_reducible rfl)
             refine pu 16 51 (Go.ba 18 131071) (any_of HT_.out (by kernel_rfl)) ?_
             refine pu 17 52 (Go.ba 18 262143) (any_of HT_.out (by kernel_rfl)) ?_
             refine done_ (done_of HT_.out (by kernel_rfl)) ?_
             try go_wp2
             go_roundg k3
             case measure => have := HK1.out; have := HJ4.out; have := HK3.out; omega
             case rel => exact ⟨(x10_3), (wrap64 (x10_3 + 1)), (by first | rfl | (simp; done) | (simp [*]; done)), (by first | rfl | (simp; done) | (simp [*]; done)), H', ⟨by have := HK1.out; have := HJ4.out; have := HK3.out; omega⟩, ⟨by (with_reducible repeat (first | apply Kd.R_alloc | apply Kd.R_drewN | apply Kd.R_drew)); exact HO_6.out⟩, ⟨by (with_reducible repeat (first | refine blk_drewN ?_ _ | refine blk_drew ?_ | refine blk_alloc ?_ _)); exact BK252.out⟩, ⟨by repeat (first | (with_reducible first | exact HB.out | apply below_alloc | apply pw_below_drewN | apply below_drew1 | refine below_set ?_ GE252.out) | exact HB.out)⟩⟩
            ·rw [if_neg c13] at H
             have c13b0 : (((rd_T32 x6_1 x10_3).f1).toList == ((rd_T32 l0 x7_1).f1).toList) = false := beq_eq_false_iff_ne.mpr c13
             have c13b1 : (((rd_T32 x6_1 x10_3).f1).toList != ((rd_T32 l0 x7_1).f1).toList) = true := bne_iff_ne.mpr c13
             have H' := ak H
             clear H
             obtain ⟨Ao16, co16, eo16⟩ := Kd.R_slice HO_6.out
             subst eo16
             try go_wp2
             replace HO_6 := ak (Kd.R_drew HO_6.out)
             replace BK252 := ak (blk_drew BK252.out)
             replace HB := ak (below_drew1 HB.out)
             have p253 : 0 ≤ (x10_3 : Int) := of_decide_eq_true (by first | (with_reducible assumption) | assumption)
             have q253 : x10_3 < (x6_1.length : Int) := of_decide_eq_true (by first | (with_reducible assumption) | assumption)
             obtain ⟨ad253, e253, hx253_0, hx253_1, hx253_2⟩ := at_T32 (Kd.R_reads' HO_6.out).2.2 x10_3 p253 q253
             cases e253
             replace p253 := eq_true p253
             replace q253 := eq_true q253
             have p254 : 0 ≤ (x10_3 : Int) := of_decide_eq_true (by first | (with_reducible assumption) | assumption)
             have q254 : x10_3 < (x6_1.length : Int) := of_decide_eq_true (by first | (with_reducible assumption) | assumption)
             obtain ⟨ad254, e254, hx254_0, hx254_1, hx254_2⟩ := at_T32 (Kd.R_reads' HO_6.out).2.2 x10_3 p254 q254
             obtain rfl : ad253 = ad254 := (by injection e254)
             replace p254 := eq_true p254
             replace q254 := eq_true q254
             refine start_ (n := 18) (S := fun w' => w'.cell? ⟨gb252, 0, none⟩ = some (.int .i64 x253000_4) ∧ w'.cell? ⟨gb252, 1, none⟩ = some (.string ((rd_T32 l0 x7_1).f1)) ∧ w'.cell? ⟨gb252, 2, none⟩ = some (.int .i64 ((rd_T32 l0 x7_1).f2)) ∧ w'.cell? (ad253.add ((x10_3).toNat * 3)) = some (.int .i64 ((rd_T32 x6_1 x10_3).f0)) ∧ w'.cell? ⟨(ad253.add ((x10_3).toNat * 3)).block, (ad253.add ((x10_3).toNat * 3)).off + 1, none⟩ = some (.string ((rd_T32 x6_1 x10_3).f1)) ∧ w'.cell? ⟨(ad253.add ((x10_3).toNat * 3)).block, (ad253.add ((x10_3).toNat * 3)).off + 2, none⟩ = some (.int .i64 ((rd_T32 x6_1 x10_3).f2)) ∧ w'.cell? (ad253.add ((x10_3).toNat * 3)) = some (.int .i64 ((rd_T32 x6_1 x10_3).f0)) ∧ w'.cell? ⟨(ad253.add ((x10_3).toNat * 3)).block, (ad253.add ((x10_3).toNat * 3)).off + 1, none⟩ = some (.string ((rd_T32 x6_1 x10_3).f1)) ∧ w'.cell? ⟨(ad253.add ((x10_3).toNat * 3)).block, (ad253.add ((x10_3).toNat * 3)).off + 2, none⟩ = some (.int .i64 ((rd_T32 x6_1 x10_3).f2))) (ds := []) (Go.ba 18 0) (by kernel_rfl) rfl rfl ⟨(blk_cell BK252.out 0).trans rfl, (blk_cell BK252.out 1).trans rfl, (blk_cell BK252.out 2).trans rfl, hx253_0, hx253_1, hx253_2, hx254_0, hx254_1, hx254_2⟩ (fun hHeld => ?_); refine with_tabW payoffref03_sums.tab12 payoffref03_sums.bits12 (fun HT_ HW_ => ?_)
             generalize wr.drew = w17 at HO_6 BK252 HB hx253_0 hx253_1 hx253_2 hx254_0 hx254_1 hx254_2 hHeld ⊢
             refine pu 0 35 (Go.ba 18 1) (any_of HT_.out (by kernel_rfl)) ?_
             refine pu 1 36 (Go.ba 18 3) (any_of HT_.out (by kernel_rfl)) ?_
             refine pu 2 37 (Go.ba 18 7) (any_of HT_.out (by kernel_rfl)) ?_
             refine pu 3 38 (Go.ba 18 15) (any_of HT_.out (by kernel_rfl)) ?_
             refine pu 5 40 (Go.ba 18 47) (any_of HT_.out (by kernel_rfl)) ?_
             refine tk 4 39 (Go.ba 18 63) (take_ofW HT_.out HW_.out (by kernel_rfl)) hHeld ?_ (hy := by rintro w' ⟨s0, s1, s2, s3, s4, s5, s6, s7, s8⟩; go_simp; with_reducible rfl)
             refine tk 6 41 (Go.ba 18 127) (take_ofW HT_.out HW_.out (by kernel_rfl)) hHeld ?_ (hy := by rintro w' ⟨s0, s1, s2, s3, s4, s5, s6, s7, s8⟩; go_simp; with_reducible rfl)
             refine pu 7 42 (Go.ba 18 255) (any_of HT_.out (by kernel_rfl)) ?_
             refine pu 8 43 (Go.ba 18 511) (any_of HT_.out (by kernel_rfl)) ?_
             refine pu 9 44 (Go.ba 18 1023) (any_of HT_.out (by kernel_rfl)) ?_
             refine pu 10 45 (Go.ba 18 2047) (any_of HT_.out (by kernel_rfl)) ?_
             refine pu 11 46 (Go.ba 18 4095) (any_of HT_.out (by kernel_rfl)) ?_
             refine pu 12 47 (Go.ba 18 8191) (any_of HT_.out (by kernel_rfl)) ?_
             refine pu 14 49 (Go.ba 18 24575) (any_of HT_.out (by kernel_rfl)) ?_
             refine tk 13 48 (Go.ba 18 32767) (take_ofW HT_.out HW_.out (by kernel_rfl)) hHeld ?_ (hy := by rintro w' ⟨s0, s1, s2, s3, s4, s5, s6, s7, s8⟩; go_simp; with_reducible rfl)
             refine tk 15 50 (Go.ba 18 65535) (take_ofW HT_.out HW_.out (by kernel_rfl)) hHeld ?_ (hy := by rintro w' ⟨s0, s1, s2, s3, s4, s5, s6, s7, s8⟩; go_simp; with_reducible rfl)
             refine pu 16 51 (Go.ba 18 131071) (any_of HT_.out (by kernel_rfl)) ?_
             refine pu 17 52 (Go.ba 18 262143) (any_of HT_.out (by kernel_rfl)) ?_
             refine done_ (done_of HT_.out (by kernel_rfl)) ?_
             try go_wp2
             go_roundg k3
             case measure => have := HK1.out; have := HJ4.out; have := HK3.out; omega
             case rel => exact ⟨(x9_3), (wrap64 (x10_3 + 1)), (by first | rfl | (simp; done) | (simp [*]; done)), (by first | rfl | (simp; done) | (simp [*]; done)), H', ⟨by have := HK1.out; have := HJ4.out; have := HK3.out; omega⟩, ⟨by (with_reducible repeat (first | apply Kd.R_alloc | apply Kd.R_drewN | apply Kd.R_drew)); exact HO_6.out⟩, ⟨by (with_reducible repeat (first | refine blk_drewN ?_ _ | refine blk_drew ?_ | refine blk_alloc ?_ _)); exact BK252.out⟩, ⟨by repeat (first | (with_reducible first | exact HB.out | apply below_alloc | apply pw_below_drewN | apply below_drew1 | refine below_set ?_ GE252.out) | exact HB.out)⟩⟩
           ·rw [if_neg c12] at H
            have c12b0 : (((rd_T32 x6_1 x10_3).f0) == x253000_4) = false := beq_eq_false_iff_ne.mpr c12
            have c12b1 : (((rd_T32 x6_1 x10_3).f0) != x253000_4) = true := bne_iff_ne.mpr c12
            have H' := ak H
            clear H
            obtain ⟨Ao18, co18, eo18⟩ := Kd.R_slice HO_6.out
            subst eo18
            try go_wp2
            replace HO_6 := ak (Kd.R_drew HO_6.out)
            replace BK252 := ak (blk_drew BK252.out)
            replace HB := ak (below_drew1 HB.out)
            have p253 : 0 ≤ (x10_3 : Int) := of_decide_eq_true (by first | (with_reducible assumption) | assumption)
            have q253 : x10_3 < (x6_1.length : Int) := of_decide_eq_true (by first | (with_reducible assumption) | assumption)
            obtain ⟨ad253, e253, hx253_0, hx253_1, hx253_2⟩ := at_T32 (Kd.R_reads' HO_6.out).2.2 x10_3 p253 q253
            cases e253
            replace p253 := eq_true p253
            replace q253 := eq_true q253
            refine start_ (n := 18) (S := fun w' => w'.cell? ⟨gb252, 0, none⟩ = some (.int .i64 x253000_4) ∧ w'.cell? ⟨gb252, 1, none⟩ = some (.string ((rd_T32 l0 x7_1).f1)) ∧ w'.cell? ⟨gb252, 2, none⟩ = some (.int .i64 ((rd_T32 l0 x7_1).f2)) ∧ w'.cell? (ad253.add ((x10_3).toNat * 3)) = some (.int .i64 ((rd_T32 x6_1 x10_3).f0)) ∧ w'.cell? ⟨(ad253.add ((x10_3).toNat * 3)).block, (ad253.add ((x10_3).toNat * 3)).off + 1, none⟩ = some (.string ((rd_T32 x6_1 x10_3).f1)) ∧ w'.cell? ⟨(ad253.add ((x10_3).toNat * 3)).block, (ad253.add ((x10_3).toNat * 3)).off + 2, none⟩ = some (.int .i64 ((rd_T32 x6_1 x10_3).f2))) (ds := []) (Go.ba 18 0) (by kernel_rfl) rfl rfl ⟨(blk_cell BK252.out 0).trans rfl, (blk_cell BK252.out 1).trans rfl, (blk_cell BK252.out 2).trans rfl, hx253_0, hx253_1, hx253_2⟩ (fun hHeld => ?_); refine with_tabW payoffref03_sums.tab12 payoffref03_sums.bits12 (fun HT_ HW_ => ?_)
            generalize wr.drew = w19 at HO_6 BK252 HB hx253_0 hx253_1 hx253_2 hHeld ⊢
            refine pu 0 35 (Go.ba 18 1) (any_of HT_.out (by kernel_rfl)) ?_
            refine pu 1 36 (Go.ba 18 3) (any_of HT_.out (by kernel_rfl)) ?_
            refine pu 2 37 (Go.ba 18 7) (any_of HT_.out (by kernel_rfl)) ?_
            refine pu 3 38 (Go.ba 18 15) (any_of HT_.out (by kernel_rfl)) ?_
            refine pu 5 40 (Go.ba 18 47) (any_of HT_.out (by kernel_rfl)) ?_
            refine tk 4 39 (Go.ba 18 63) (take_ofW HT_.out HW_.out (by kernel_rfl)) hHeld ?_ (hy := by rintro w' ⟨s0, s1, s2, s3, s4, s5⟩; go_simp; with_reducible rfl)
            refine tk 6 41 (Go.ba 18 127) (take_ofW HT_.out HW_.out (by kernel_rfl)) hHeld ?_ (hy := by rintro w' ⟨s0, s1, s2, s3, s4, s5⟩; go_simp; with_reducible rfl)
            refine pu 7 42 (Go.ba 18 255) (any_of HT_.out (by kernel_rfl)) ?_
            refine pu 8 43 (Go.ba 18 511) (any_of HT_.out (by kernel_rfl)) ?_
            refine pure_ (i := 9) (N := some 44) (v := undef) (a' := ?_) (Go.ba 18 1023) rfl rfl (any_of HT_.out (by kernel_rfl)) (fun _ _ _ h => h) (Or.inr ⟨by rfl, rfl⟩) ?_ ?_
            rotate_left
            ·simp only [pz]
             rfl
            refine pure_ (i := 10) (N := some 45) (v := undef) (a' := ?_) (Go.ba 18 2047) rfl rfl (any_of HT_.out (by kernel_rfl)) (fun _ _ _ h => h) (Or.inr ⟨by rfl, rfl⟩) ?_ ?_
            rotate_left
            ·simp only [pz]
             rfl
            refine pure_ (i := 11) (N := some 46) (v := undef) (a' := ?_) (Go.ba 18 4095) rfl rfl (any_of HT_.out (by kernel_rfl)) (fun _ _ _ h => h) (Or.inr ⟨by rfl, rfl⟩) ?_ ?_
            rotate_left
            ·simp only [pz]
             rfl
            refine pure_ (i := 12) (N := some 47) (v := undef) (a' := ?_) (Go.ba 18 8191) rfl rfl (any_of HT_.out (by kernel_rfl)) (fun _ _ _ h => h) (Or.inr ⟨by rfl, rfl⟩) ?_ ?_
            rotate_left
            ·simp only [pz]
             rfl
            refine pure_ (i := 13) (N := some 48) (v := undef) (a' := ?_) (Go.ba 18 16383) rfl rfl (any_of HT_.out (by kernel_rfl)) (fun _ _ _ h => h) (Or.inr ⟨by rfl, rfl⟩) ?_ ?_
            rotate_left
            ·simp only [pz]
             rfl
            refine pure_ (i := 14) (N := some 49) (v := undef) (a' := ?_) (Go.ba 18 32767) rfl rfl (any_of HT_.out (by kernel_rfl)) (fun _ _ _ h => h) (Or.inr ⟨by rfl, rfl⟩) ?_ ?_
            rotate_left
            ·simp only [pz]
             rfl
            refine pure_ (i := 15) (N := some 50) (v := undef) (a' := ?_) (Go.ba 18 65535) rfl rfl (any_of HT_.out (by kernel_rfl)) (fun _ _ _ h => h) (Or.inr ⟨by rfl, rfl⟩) ?_ ?_
            rotate_left
            ·simp only [pz]
             rfl
            refine pure_ (i := 16) (N := some 51) (v := undef) (a' := ?_) (Go.ba 18 131071) rfl rfl (any_of HT_.out (by kernel_rfl)) (fun _ _ _ h => h) (Or.inr ⟨by rfl, rfl⟩) ?_ ?_
            rotate_left
            ·simp only [pz]
             rfl
            refine pu 17 52 (Go.ba 18 262143) (any_of HT_.out (by kernel_rfl)) ?_
            refine done_ (done_of HT_.out (by kernel_rfl)) ?_
            try go_wp2
            go_roundg k3
            case measure => have := HK1.out; have := HJ4.out; have := HK3.out; omega
            case rel => exact ⟨(x9_3), (wrap64 (x10_3 + 1)), (by first | rfl | (simp; done) | (simp [*]; done)), (by first | rfl | (simp; done) | (simp [*]; done)), H', ⟨by have := HK1.out; have := HJ4.out; have := HK3.out; omega⟩, ⟨by (with_reducible repeat (first | apply Kd.R_alloc | apply Kd.R_drewN | apply Kd.R_drew)); exact HO_6.out⟩, ⟨by (with_reducible repeat (first | refine blk_drewN ?_ _ | refine blk_drew ?_ | refine blk_alloc ?_ _)); exact BK252.out⟩, ⟨by repeat (first | (with_reducible first | exact HB.out | apply below_alloc | apply pw_below_drewN | apply below_drew1 | refine below_set ?_ GE252.out) | exact HB.out)⟩⟩
          ·rw [if_neg c11] at H
           exact absurd H (by simp)
         ·rw [if_neg c10] at H
          have c10b0 := decide_eq_false c10
          clear c10
          by_cases c20 : x9_3 < 0
          ·rw [if_pos c20] at H
           have c20b0 := decide_eq_true c20
           clear c20
           by_cases c21 : x6_1.length < 4398046511104
           ·rw [if_pos c21] at H
            have LMc21 := ak c21
            clear c21
            obtain ⟨y255, hy255⟩ : ∃ y_ : List (S32), y_ = (x6_1 ++ [(⟨x253000_4, ((rd_T32 l0 x7_1).f1), ((rd_T32 l0 x7_1).f2)⟩ : S32)]) := ⟨_, rfl⟩
            replace H : (payoffref03_sums.l0 k3 l0 a1 y255 (wrap64 (x7_1 + 1))) = some (r1, r2) := by first | (rw [hy255]; with_reducible exact H) | (have H2_ := (Option.bind_some _ _).symm.trans H; rw [hy255]; with_reducible exact H2_) | (have H2_ := (Option.bind_some _ _).symm.trans H; with_reducible exact H2_) | with_reducible exact H | (rw [hy255]; exact H) | exact H
            have Ny255 := ak hy255
            clear hy255
            have H' := ak H
            clear H
            obtain ⟨Ao22, co22, eo22⟩ := Kd.R_slice HO_6.out
            subst eo22
            have hcz23_0 : wr.cell? ⟨gb252, 0, none⟩ = some (.int .i64 x253000_4) := (blk_cell BK252.out 0).trans rfl
            have hcz23_1 : wr.cell? ⟨gb252, 1, none⟩ = some (.string ((rd_T32 l0 x7_1).f1)) := (blk_cell BK252.out 1).trans rfl
            have hcz23_2 : wr.cell? ⟨gb252, 2, none⟩ = some (.int .i64 ((rd_T32 l0 x7_1).f2)) := (blk_cell BK252.out 2).trans rfl
            have hfz23_0 := blk_frozen BK252.out 0
            have hfz23_1 := blk_frozen BK252.out 1
            have hfz23_2 := blk_frozen BK252.out 2
            go_wp2_with (first | ((with_reducible refine gate_builtin (b := .append) (xs := #[.tmp 56, .tmp 58]) rfl ?_); at_builtin; refine Kd.R_append k32 (w0 := w) w.heap.size rfl (.tmp 56) (.tmp 58) 22 32 (.agg #[(.int .i64 0), (.string ⟨#[]⟩), (.int .i64 0)]) 32 rfl Try.underlying22 info32 rfl (by decide) (by omega) (.slice Ao22 x6_1.length co22) x6_1 (⟨x253000_4, ((rd_T32 l0 x7_1).f1), ((rd_T32 l0 x7_1).f2)⟩ : S32) [.int .i64 x253000_4, .string ((rd_T32 l0 x7_1).f1), .int .i64 ((rd_T32 l0 x7_1).f2)] (fun k_ => k_ ≠ gb252) (fun _ => False) rfl rfl ?aP (fun _ hk => hk.elim) ?aF ?aO ?aB ?aS ?aL ?_; (case aP => exact k32_mkM _ _ _ (⟨x253000_4, ((rd_T32 l0 x7_1).f1), ((rd_T32 l0 x7_1).f2)⟩ : S32)); (case aB => exact (by repeat (first | (with_reducible first | exact HB.out | apply below_alloc | apply pw_below_drewN | apply below_drew1 | refine below_set ?_ GE252.out) | exact HB.out))); (case aF => exact (fun k_ hk => Kd.freshB (g := gb252) (o := .cells #[.int .i64 x253000_4, .string ((rd_T32 l0 x7_1).f1), .int .i64 ((rd_T32 l0 x7_1).f2)] 32 (0, 0)) (by (with_reducible repeat (first | refine blk_drewN ?_ _ | refine blk_drew ?_ | refine blk_alloc ?_ _)); exact BK252.out) k_ hk)); (case aO => exact (by (with_reducible repeat (first | apply Kd.R_alloc | apply Kd.R_drewN | apply Kd.R_drew)); exact HO_6.out)); (case aS => exact (below_size (by repeat (first | (with_reducible first | exact HB.out | apply below_alloc | apply pw_below_drewN | apply below_drew1 | refine below_set ?_ GE252.out) | exact HB.out)))); (case aL => have := LMc21.out; omega); intro v256 w24 ho hb hg hat; rw [← Ny255.out] at ho; have n0_ := ak (blk_grown (g := gb252) (o := .cells #[.int .i64 x253000_4, .string ((rd_T32 l0 x7_1).f1), .int .i64 ((rd_T32 l0 x7_1).f2)] 32 (0, 0)) (by (with_reducible repeat (first | refine blk_drewN ?_ _ | refine blk_drew ?_ | refine blk_alloc ?_ _)); exact BK252.out) hg (Kd.R_away HO_6.out (fun _ hk => hk))); have n1_ := ak (hb); have n2_ := ak (ho); clear BK252; clear HB; clear HO_6; have BK252 := n0_; have HB := n1_; have HO257 := n2_; clear n0_ n1_ n2_; clear ho hb hg hat))
            go_roundg k3
            case measure => have := HK1.out; have := HJ4.out; have := HK3.out; omega
            case rel => exact ⟨(y255), (wrap64 (x7_1 + 1)), (by first | rfl | (simp; done) | (simp [*]; done)), H', ⟨by have := HK1.out; have := HJ4.out; have := HK3.out; omega⟩, ⟨by (with_reducible repeat (first | apply Kd.R_alloc | apply Kd.R_drewN | apply Kd.R_drew)); exact Kd.R_mono HO257.out (fun _ hk => trivial)⟩, ⟨by repeat (first | (with_reducible first | exact HB.out | apply below_alloc | apply pw_below_drewN | apply below_drew1 | refine below_set ?_ GE252.out) | exact HB.out)⟩⟩
           ·rw [if_neg c21] at H
            exact absurd H (by simp)
          ·rw [if_neg c20] at H
           have c20b0 := decide_eq_false c20
           clear c20
           by_cases c25 : 0 ≤ x9_3
           ·rw [if_pos c25] at H
            have c25b0 := decide_eq_true c25
            clear c25
            by_cases c26 : x9_3 < (x6_1.length : Int)
            ·rw [if_pos c26] at H
             have c26b0 := decide_eq_true c26
             clear c26
             replace H := Option.bind_eq_some_iff.mp H
             obtain ⟨⟨t259, t260⟩, A270, H⟩ := H
             replace H : (if t260 = true then (payoffref03_sums.l0 k3 l0 a1 (x6_1.set (x9_3 : Int).toNat (⟨(rd_T32 x6_1 x9_3).f0, (rd_T32 x6_1 x9_3).f1, t259⟩ : S32)) (wrap64 (x7_1 + 1))) else (some (([] : List (S32)), false))) = some (r1, r2) := H
             have A27 := ak A270
             clear A270
             by_cases c28 : t260 = true
             ·subst c28
              have H1 : (payoffref03_sums.l0 k3 l0 a1 (x6_1.set (x9_3 : Int).toNat (⟨(rd_T32 x6_1 x9_3).f0, (rd_T32 x6_1 x9_3).f1, t259⟩ : S32)) (wrap64 (x7_1 + 1))) = some (r1, r2) := by rw [if_pos rfl] at H; exact H
              clear H
              have H := H1
              clear H1
              obtain ⟨y261, hy261⟩ : ∃ y_ : List (S32), y_ = (x6_1.set (x9_3 : Int).toNat (⟨(rd_T32 x6_1 x9_3).f0, (rd_T32 x6_1 x9_3).f1, t259⟩ : S32)) := ⟨_, rfl⟩
              replace H : (payoffref03_sums.l0 k3 l0 a1 y261 (wrap64 (x7_1 + 1))) = some (r1, r2) := by first | (rw [hy261]; with_reducible exact H) | (have H2_ := (Option.bind_some _ _).symm.trans H; rw [hy261]; with_reducible exact H2_) | (have H2_ := (Option.bind_some _ _).symm.trans H; with_reducible exact H2_) | with_reducible exact H | (rw [hy261]; exact H) | exact H
              have Ny261 := ak hy261
              clear hy261
              have H' := ak H
              clear H
              obtain ⟨Ao30, co30, eo30⟩ := Kd.R_slice HO_6.out
              subst eo30
              try go_wp2
              replace HO_6 := ak (Kd.R_drew HO_6.out)
              replace BK252 := ak (blk_drew BK252.out)
              replace HB := ak (below_drew1 HB.out)
              have p258 : 0 ≤ (x9_3 : Int) := of_decide_eq_true (by first | (with_reducible assumption) | assumption)
              have q258 : x9_3 < (x6_1.length : Int) := of_decide_eq_true (by first | (with_reducible assumption) | assumption)
              obtain ⟨ad258, e258, hx258_0, hx258_1, hx258_2⟩ := at_T32 (Kd.R_reads' HO_6.out).2.2 x9_3 p258 q258
              cases e258
              replace p258 := eq_true p258
              replace q258 := eq_true q258
              refine start_ (n := 13) (S := fun w' => w'.cell? ⟨gb252, 0, none⟩ = some (.int .i64 x253000_4) ∧ w'.cell? ⟨gb252, 1, none⟩ = some (.string ((rd_T32 l0 x7_1).f1)) ∧ w'.cell? ⟨gb252, 2, none⟩ = some (.int .i64 ((rd_T32 l0 x7_1).f2)) ∧ w'.cell? (ad258.add ((x9_3).toNat * 3)) = some (.int .i64 ((rd_T32 x6_1 x9_3).f0)) ∧ w'.cell? ⟨(ad258.add ((x9_3).toNat * 3)).block, (ad258.add ((x9_3).toNat * 3)).off + 1, none⟩ = some (.string ((rd_T32 x6_1 x9_3).f1)) ∧ w'.cell? ⟨(ad258.add ((x9_3).toNat * 3)).block, (ad258.add ((x9_3).toNat * 3)).off + 2, none⟩ = some (.int .i64 ((rd_T32 x6_1 x9_3).f2))) (ds := []) (Go.ba 13 0) (by kernel_rfl) rfl rfl ⟨(blk_cell BK252.out 0).trans rfl, (blk_cell BK252.out 1).trans rfl, (blk_cell BK252.out 2).trans rfl, hx258_0, hx258_1, hx258_2⟩ (fun hHeld => ?_); refine with_tabW payoffref03_sums.tab16 payoffref03_sums.bits16 (fun HT_ HW_ => ?_)
              generalize wr.drew = w31 at HO_6 BK252 HB hx258_0 hx258_1 hx258_2 hHeld ⊢
              refine pu 0 61 (Go.ba 13 1) (any_of HT_.out (by kernel_rfl)) ?_
              refine pu 1 62 (Go.ba 13 3) (any_of HT_.out (by kernel_rfl)) ?_
              refine pu 2 63 (Go.ba 13 7) (any_of HT_.out (by kernel_rfl)) ?_
              refine pu 3 64 (Go.ba 13 15) (any_of HT_.out (by kernel_rfl)) ?_
              refine pu 5 66 (Go.ba 13 47) (any_of HT_.out (by kernel_rfl)) ?_
              refine tk 4 65 (Go.ba 13 63) (take_ofW HT_.out HW_.out (by kernel_rfl)) hHeld ?_ (hy := by rintro w' ⟨s0, s1, s2, s3, s4, s5⟩; go_simp; with_reducible rfl)
              refine tk 6 67 (Go.ba 13 127) (take_ofW HT_.out HW_.out (by kernel_rfl)) hHeld ?_ (hy := by rintro w' ⟨s0, s1, s2, s3, s4, s5⟩; go_simp; with_reducible rfl)
              refine one_ (i := 7) (N := some 68) (Go.ba 13 255) rfl rfl (one_of HT_.out (by kernel_rfl)) (by decide) (fun K hK => ?_)
              refine goes_ Try.func62 (by kernel_rfl) rfl #[.int .i64 ((rd_T32 x6_1 x9_3).f2), .int .i64 ((rd_T32 l0 x7_1).f2)] (by rfl) rfl rfl (by (try simp only [List.map_toArray, List.map_cons, List.map_nil]); first | done | rfl | (simp only [List.length_drop, List.length_take]; rfl)) ?_
              with_reducible refine (payoffref03_add.calls ((rd_T32 x6_1 x9_3).f2) ((rd_T32 l0 x7_1).f2) t259 true _ A27.out).mono ?_
              rintro e w' ⟨rfl, ⟨nd, rfl⟩⟩
              refine ⟨_, rfl, ?_⟩
              refine hK.out _ _ ⟨(blk_cell BK252.out 0).trans rfl, (blk_cell BK252.out 1).trans rfl, (blk_cell BK252.out 2).trans rfl, hHeld.2.2.2.1, hHeld.2.2.2.2.1, hHeld.2.2.2.2.2⟩ (fun hHeld => ?_)
              clear hK K
              refine norm_ (a' := ?_) ?_ ?_
              rotate_left
              ·show Act.put _ (some 68) _ = _
               simp only [pz]
               rfl
              refine pu 8 60 (Go.ba 13 511) (any_of HT_.out (by kernel_rfl)) ?_
              refine pu 9 69 (Go.ba 13 1023) (any_of HT_.out (by kernel_rfl)) ?_
              refine pu 10 70 (Go.ba 13 2047) (any_of HT_.out (by kernel_rfl)) ?_
              refine pu 11 11 (Go.ba 13 4095) (any_of HT_.out (by kernel_rfl)) ?_
              refine pu 12 12 (Go.ba 13 8191) (any_of HT_.out (by kernel_rfl)) ?_
              refine done_ (done_of HT_.out (by kernel_rfl)) ?_
              have p29 : 0 ≤ (x9_3 : Int) := of_decide_eq_true (by first | (with_reducible assumption) | assumption)
              have q29 : (x9_3 : Int) < ((x6_1.length : Int) : Int) := of_decide_eq_true (by first | (with_reducible assumption) | assumption)
              obtain ⟨go29, co29, eo29, gb29, gl29, cl29, HG29⟩ := Kd.R_form HO_6.out (by omega)
              (first | cases eo29 | (injection eo29 with ea_ en_ ec_; (first | subst ea_ | (injection ea_ with ea_; subst ea_)); subst ec_; clear en_))
              have GB29 := ak gb29
              have GG29 := ak HG29
              clear gb29 gl29 HG29
              (first | simp only [add_plain] at hx258_0 | skip)
              (first | simp only [add_plain] at hx258_1 | skip)
              (first | simp only [add_plain] at hx258_2 | skip)
              obtain ⟨ce29, hcl29, hM29, hcc29, hfr29⟩ := Kd.R_elem HO_6.out z32 (x9_3 : Int) p29 q29
              obtain rfl := k32_openM hM29
              have hx29_0 : w31.cell? ⟨go29, (x9_3 : Int).toNat * 3, none⟩ = some (.int .i64 ((rd_T32 x6_1 x9_3).f0)) := hcc29 0 _ rfl
              have hx29_1 : w31.cell? ⟨go29, (x9_3 : Int).toNat * 3 + 1, none⟩ = some (.string ((rd_T32 x6_1 x9_3).f1)) := hcc29 1 _ rfl
              have hx29_2 : w31.cell? ⟨go29, (x9_3 : Int).toNat * 3 + 2, none⟩ = some (.int .i64 ((rd_T32 x6_1 x9_3).f2)) := hcc29 2 _ rfl
              have hf29_0 : w31.frozen? ⟨go29, (x9_3 : Int).toNat * 3, none⟩ = false := hfr29 0
              have hf29_1 : w31.frozen? ⟨go29, (x9_3 : Int).toNat * 3 + 1, none⟩ = false := hfr29 1
              have hf29_2 : w31.frozen? ⟨go29, (x9_3 : Int).toNat * 3 + 2, none⟩ = false := hfr29 2
              clear hcl29 hcc29 hfr29 hM29
              replace p29 := eq_true p29
              replace q29 := eq_true q29
              have HX32 := ak (show Kd.R k32 32 (w31.drewN nd) w.heap.size (fun k_ => k_ ≠ gb252) (.slice (some ⟨go29, 0, none⟩) x6_1.length co30) x6_1 from (by (with_reducible repeat (first | apply Kd.R_alloc | apply Kd.R_drewN | apply Kd.R_drew)); exact HO_6.out))
              obtain ⟨ce32, hcl32, hM32, hcc32, hfr32⟩ := Kd.R_elem HX32.out z32 (x9_3 : Int) (of_decide_eq_true (by first | (with_reducible assumption) | assumption)) (by have h_ : (x9_3 : Int) < ((x6_1.length : Int) : Int) := of_decide_eq_true (by first | (with_reducible assumption) | assumption); first | exact h_ | (have e_ := (Kd.R_reads' HO_6.out).1; omega) | simpa using h_)
              obtain rfl := k32_openM hM32
              have HP32 := Kd.R_seg HX32.out (x9_3 : Int) (of_decide_eq_true (by first | (with_reducible assumption) | assumption)) (by have h_ : (x9_3 : Int) < ((x6_1.length : Int) : Int) := of_decide_eq_true (by first | (with_reducible assumption) | assumption); first | exact h_ | (have e_ := (Kd.R_reads' HO_6.out).1; omega) | simpa using h_) (seg := [.int .i64 t259]) (j := 2) hcl32 hcc32 (show 3 ≤ 3 from by decide) (x' := (⟨(rd_T32 x6_1 x9_3).f0, (rd_T32 x6_1 x9_3).f1, t259⟩ : S32)) (k32_mkM _ _ _ (⟨(rd_T32 x6_1 x9_3).f0, (rd_T32 x6_1 x9_3).f1, t259⟩ : S32) ) (fun _ hk => hk)
              have hx32_2 := hcc32 2 _ rfl
              (try simp only [show (k32).sz = 3 from rfl, Nat.mul_one, Nat.add_zero] at hx32_2)
              have hf32_2 := hfr32 2
              (try simp only [show (k32).sz = 3 from rfl, Nat.mul_one, Nat.add_zero] at hf32_2)
              clear hcl32 hcc32 hfr32 hM32
              have HP33 := ak HP32
              clear HP32
              try go_wp2
              go_roundg k3
              case measure => have := HK1.out; have := HJ4.out; have := HK3.out; omega
              case rel => exact ⟨(y261), (wrap64 (x7_1 + 1)), (by first | rfl | (simp; done) | (simp [*]; done)), H', ⟨by have := HK1.out; have := HJ4.out; have := HK3.out; omega⟩, ⟨by (with_reducible repeat (first | apply Kd.R_alloc | apply Kd.R_drewN | apply Kd.R_drew)); (rw [Ny261.out]; exact Kd.R_mono HP33.out.1 (fun _ hk => trivial))⟩, ⟨below_set (pw_below_drewN HB.out nd) GB29.out⟩⟩
             ·replace c28 := Bool.eq_false_iff.mpr c28
              subst c28
              have H1 : (some (([] : List (S32)), false)) = some (r1, r2) := by rw [if_neg (show ¬ (false = true) by decide)] at H; exact H
              clear H
              have H := H1
              clear H1
              simp only [Option.some.injEq, Prod.mk.injEq] at H
              obtain ⟨rfl, rfl⟩ := H
              obtain ⟨Ao34, co34, eo34⟩ := Kd.R_slice HO_6.out
              subst eo34
              try go_wp2
              replace HO_6 := ak (Kd.R_drew HO_6.out)
              replace BK252 := ak (blk_drew BK252.out)
              replace HB := ak (below_drew1 HB.out)
              have p258 : 0 ≤ (x9_3 : Int) := of_decide_eq_true (by first | (with_reducible assumption) | assumption)
              have q258 : x9_3 < (x6_1.length : Int) := of_decide_eq_true (by first | (with_reducible assumption) | assumption)
              obtain ⟨ad258, e258, hx258_0, hx258_1, hx258_2⟩ := at_T32 (Kd.R_reads' HO_6.out).2.2 x9_3 p258 q258
              cases e258
              replace p258 := eq_true p258
              replace q258 := eq_true q258
              refine start_ (n := 13) (S := fun w' => w'.cell? ⟨gb252, 0, none⟩ = some (.int .i64 x253000_4) ∧ w'.cell? ⟨gb252, 1, none⟩ = some (.string ((rd_T32 l0 x7_1).f1)) ∧ w'.cell? ⟨gb252, 2, none⟩ = some (.int .i64 ((rd_T32 l0 x7_1).f2)) ∧ w'.cell? (ad258.add ((x9_3).toNat * 3)) = some (.int .i64 ((rd_T32 x6_1 x9_3).f0)) ∧ w'.cell? ⟨(ad258.add ((x9_3).toNat * 3)).block, (ad258.add ((x9_3).toNat * 3)).off + 1, none⟩ = some (.string ((rd_T32 x6_1 x9_3).f1)) ∧ w'.cell? ⟨(ad258.add ((x9_3).toNat * 3)).block, (ad258.add ((x9_3).toNat * 3)).off + 2, none⟩ = some (.int .i64 ((rd_T32 x6_1 x9_3).f2))) (ds := []) (Go.ba 13 0) (by kernel_rfl) rfl rfl ⟨(blk_cell BK252.out 0).trans rfl, (blk_cell BK252.out 1).trans rfl, (blk_cell BK252.out 2).trans rfl, hx258_0, hx258_1, hx258_2⟩ (fun hHeld => ?_); refine with_tabW payoffref03_sums.tab16 payoffref03_sums.bits16 (fun HT_ HW_ => ?_)
              generalize wr.drew = w35 at HO_6 BK252 HB hx258_0 hx258_1 hx258_2 hHeld ⊢
              refine pu 0 61 (Go.ba 13 1) (any_of HT_.out (by kernel_rfl)) ?_
              refine pu 1 62 (Go.ba 13 3) (any_of HT_.out (by kernel_rfl)) ?_
              refine pu 2 63 (Go.ba 13 7) (any_of HT_.out (by kernel_rfl)) ?_
              refine pu 3 64 (Go.ba 13 15) (any_of HT_.out (by kernel_rfl)) ?_
              refine pu 5 66 (Go.ba 13 47) (any_of HT_.out (by kernel_rfl)) ?_
              refine tk 4 65 (Go.ba 13 63) (take_ofW HT_.out HW_.out (by kernel_rfl)) hHeld ?_ (hy := by rintro w' ⟨s0, s1, s2, s3, s4, s5⟩; go_simp; with_reducible rfl)
              refine tk 6 67 (Go.ba 13 127) (take_ofW HT_.out HW_.out (by kernel_rfl)) hHeld ?_ (hy := by rintro w' ⟨s0, s1, s2, s3, s4, s5⟩; go_simp; with_reducible rfl)
              refine one_ (i := 7) (N := some 68) (Go.ba 13 255) rfl rfl (one_of HT_.out (by kernel_rfl)) (by decide) (fun K hK => ?_)
              refine goes_ Try.func62 (by kernel_rfl) rfl #[.int .i64 ((rd_T32 x6_1 x9_3).f2), .int .i64 ((rd_T32 l0 x7_1).f2)] (by rfl) rfl rfl (by (try simp only [List.map_toArray, List.map_cons, List.map_nil]); first | done | rfl | (simp only [List.length_drop, List.length_take]; rfl)) ?_
              with_reducible refine (payoffref03_add.calls ((rd_T32 x6_1 x9_3).f2) ((rd_T32 l0 x7_1).f2) t259 false _ A27.out).mono ?_
              rintro e w' ⟨rfl, ⟨nd, rfl⟩⟩
              refine ⟨_, rfl, ?_⟩
              refine hK.out _ _ ⟨(blk_cell BK252.out 0).trans rfl, (blk_cell BK252.out 1).trans rfl, (blk_cell BK252.out 2).trans rfl, hHeld.2.2.2.1, hHeld.2.2.2.2.1, hHeld.2.2.2.2.2⟩ (fun hHeld => ?_)
              clear hK K
              refine norm_ (a' := ?_) ?_ ?_
              rotate_left
              ·show Act.put _ (some 68) _ = _
               simp only [pz]
               rfl
              refine pu 8 60 (Go.ba 13 511) (any_of HT_.out (by kernel_rfl)) ?_
              refine pu 9 69 (Go.ba 13 1023) (any_of HT_.out (by kernel_rfl)) ?_
              refine pu 10 70 (Go.ba 13 2047) (any_of HT_.out (by kernel_rfl)) ?_
              refine pu 11 11 (Go.ba 13 4095) (any_of HT_.out (by kernel_rfl)) ?_
              refine pu 12 12 (Go.ba 13 8191) (any_of HT_.out (by kernel_rfl)) ?_
              refine done_ (done_of HT_.out (by kernel_rfl)) ?_
              try go_wp2
              go_ret2
              exact ⟨_, by first | rfl | (simp [errW_none, errW_some] <;> rfl) | (simp [*, errW_none, errW_some] <;> rfl), by first | exact Kd.R_nil _ _ _ _ _ | exact Kd.N_nil _ _ _ _ _ | exact Kd.V_nil _ _ _ _ _ | exact Kd.Q_nil _ _ _ _ _ | exact Kd.S_nil _ _ _ _ _, by repeat (first | (with_reducible first | exact HB.out | apply below_alloc | apply pw_below_drewN | apply below_drew1 | refine below_set ?_ GE252.out) | exact HB.out)⟩
            ·rw [if_neg c26] at H
             exact absurd H (by simp)
           ·rw [if_neg c25] at H
            exact absurd H (by simp)
    ·rw [if_neg c4] at H
     exact absurd H (by simp)
   ·rw [if_neg c3] at H
    have c3b0 := decide_eq_false c3
    clear c3
    have H' := ak H
    clear H
    go_wp2
    go_loopg [13] k1 (fun kq v13 w' => ∃ (x6_2 : List (S32)) (x13_2 : Int), v13 = .int .i64 x13_2 ∧ Aside0 (payoffref03_sums.l2 kq x6_2 x13_2 = some (r1, r2)) ∧ Aside0 (kq ≤ k1) ∧ Aside0 (Kd.R k32 32 w' w.heap.size (fun _ => True) u6 x6_2) ∧ Aside0 (Below w.heap.size w w'))
    case atStart => exact ⟨(x6_1), (0), (by first | rfl | (simp; done) | (simp [*]; done)), H', ⟨Nat.le_refl _⟩, ⟨by (with_reducible repeat (first | apply Kd.R_alloc | apply Kd.R_drewN | apply Kd.R_drew)); exact HO_6.out⟩, ⟨by repeat (first | (with_reducible first | exact HB.out | apply below_alloc | apply pw_below_drewN | apply below_drew1) | exact HB.out)⟩⟩
    case round =>
     clear H'
     try clear c1
     try clear c2
     try clear p2
     try clear q2
     try clear hx2
     try clear hf2
     try clear c3
     try clear c3b0
     try clear hx3
     try clear hf3
     try clear c4
     try clear c6
     try clear p6
     try clear c10
     try clear c10b0
     try clear c11
     try clear c12
     try clear c12b0
     try clear c12b1
     try clear c20
     try clear c20b0
     try clear c21
     try clear c25
     try clear c25b0
     try clear p25
     try clear q25
     try clear hx25
     try clear c26
     try clear c26b0
     try clear c28
     try clear c29
     try clear p29
     try clear q29
     try clear hx29
     try clear hf29
     try clear c32
     try clear hx32
     try clear hf32
     try clear hcz23_0
     try clear hcz23_1
     try clear hcz23_2
     try clear hfz23_0
     try clear hfz23_1
     try clear hfz23_2
     try clear hx253_0
     try clear hx253_1
     try clear hx253_2
     try clear hx258_0
     try clear hx258_1
     try clear hx258_2
     try clear hx29_0
     try clear hx29_1
     try clear hx29_2
     try clear hx32_2
     try clear p253
     try clear p258
     try clear p29
     try clear q253
     try clear q258
     try clear q29
     obtain ⟨x6_2, x13_2, rfl, HA, HK2, HO_6, HB⟩ := hrel
     cases gk with
     | zero => exact absurd HA.out (by simp [payoffref03_sums.l2])
     | succ k2 =>
      have H := HA.out
      clear HA
      simp only [payoffref03_sums.l2] at H
      by_cases c36 : x13_2 < (x6_2.length : Int)
      ·rw [if_pos c36] at H
       have c36b0 := decide_eq_true c36
       clear c36
       have H' := ak H
       clear H
       obtain ⟨Ao37, co37, eo37⟩ := Kd.R_slice HO_6.out
       subst eo37
       go_wp2
       go_loopg [14] k2 (fun kq v14 w' => ∃ (x6_3 : List (S32)) (x14_3 : Int), v14 = .int .i64 x14_3 ∧ Aside0 (payoffref03_sums.l3 kq x6_3 x13_2 x14_3 = some (r1, r2)) ∧ Aside0 (kq ≤ k2) ∧ Aside0 (Kd.R k32 32 w' w.heap.size (fun _ => True) (.slice Ao37 x6_2.length co37) x6_3) ∧ Aside0 (Below w.heap.size w w'))
       case atStart => exact ⟨(x6_2), (wrap64 (x13_2 + 1)), (by first | rfl | (simp; done) | (simp [*]; done)), H', ⟨Nat.le_refl _⟩, ⟨by (with_reducible repeat (first | apply Kd.R_alloc | apply Kd.R_drewN | apply Kd.R_drew)); exact HO_6.out⟩, ⟨by repeat (first | (with_reducible first | exact HB.out | apply below_alloc | apply pw_below_drewN | apply below_drew1) | exact HB.out)⟩⟩
       case round =>
        clear H'
        try clear c1
        try clear c2
        try clear p2
        try clear q2
        try clear hx2
        try clear hf2
        try clear c3
        try clear c3b0
        try clear hx3
        try clear hf3
        try clear c4
        try clear c6
        try clear p6
        try clear c10
        try clear c10b0
        try clear c11
        try clear c12
        try clear c12b0
        try clear c12b1
        try clear c20
        try clear c20b0
        try clear c21
        try clear c25
        try clear c25b0
        try clear p25
        try clear q25
        try clear hx25
        try clear c26
        try clear c26b0
        try clear c28
        try clear c29
        try clear p29
        try clear q29
        try clear hx29
        try clear hf29
        try clear c32
        try clear hx32
        try clear hf32
        try clear c36
        try clear c36b0
        try clear hcz23_0
        try clear hcz23_1
        try clear hcz23_2
        try clear hfz23_0
        try clear hfz23_1
        try clear hfz23_2
        try clear hx253_0
        try clear hx253_1
        try clear hx253_2
        try clear hx258_0
        try clear hx258_1
        try clear hx258_2
        try clear hx29_0
        try clear hx29_1
        try clear hx29_2
        try clear hx32_2
        try clear p2
        try clear p25
        try clear p253
        try clear p258
        try clear p29
        try clear p6
        try clear q2
        try clear q25
        try clear q253
        try clear q258
        try clear q29
        obtain ⟨x6_3, x14_3, rfl, HA, HK3, HO_6, HB⟩ := hrel
        have hl6_3 := (Kd.R_reads' HO_6.out).1
        rw [hl6_3] at HO_6
        (try simp only [hl6_3])
        cases gk with
        | zero => exact absurd HA.out (by simp [payoffref03_sums.l3])
        | succ k3 =>
         have H := HA.out
         clear HA
         simp only [payoffref03_sums.l3] at H
         by_cases c38 : x14_3 < (x6_3.length : Int)
         ·rw [if_pos c38] at H
          have c38b0 := decide_eq_true c38
          clear c38
          by_cases c39 : 0 ≤ x14_3
          ·rw [if_pos c39] at H
           have c39b0 := decide_eq_true c39
           clear c39
           by_cases c40 : 0 ≤ x13_2
           ·rw [if_pos c40] at H
            have c40b0 := decide_eq_true c40
            clear c40
            by_cases c41 : x13_2 < (x6_3.length : Int)
            ·rw [if_pos c41] at H
             have c41b0 := decide_eq_true c41
             clear c41
             replace H := Option.bind_eq_some_iff.mp H
             obtain ⟨t264, A420, H⟩ := H
             replace H : (if t264 < 0 then (payoffref03_sums.l3 k3 ((x6_3.set (x13_2 : Int).toNat (⟨(rd_T32 x6_3 x14_3).f0, (rd_T32 x6_3 x14_3).f1, (rd_T32 x6_3 x14_3).f2⟩ : S32)).set (x14_3 : Int).toNat (⟨(rd_T32 x6_3 x13_2).f0, (rd_T32 x6_3 x13_2).f1, (rd_T32 x6_3 x13_2).f2⟩ : S32)) x13_2 (wrap64 (x14_3 + 1))) else (payoffref03_sums.l3 k3 x6_3 x13_2 (wrap64 (x14_3 + 1)))) = some (r1, r2) := H
             have A42 := ak A420
             clear A420
             by_cases c43 : t264 < 0
             ·rw [if_pos c43] at H
              have c43b0 := decide_eq_true c43
              clear c43
              obtain ⟨y268, hy268⟩ : ∃ y_ : List (S32), y_ = (x6_3.set (x13_2 : Int).toNat (⟨(rd_T32 x6_3 x14_3).f0, (rd_T32 x6_3 x14_3).f1, (rd_T32 x6_3 x14_3).f2⟩ : S32)) := ⟨_, rfl⟩
              replace H : (payoffref03_sums.l3 k3 (y268.set (x14_3 : Int).toNat (⟨(rd_T32 x6_3 x13_2).f0, (rd_T32 x6_3 x13_2).f1, (rd_T32 x6_3 x13_2).f2⟩ : S32)) x13_2 (wrap64 (x14_3 + 1))) = some (r1, r2) := by first | (rw [hy268]; with_reducible exact H) | (have H2_ := (Option.bind_some _ _).symm.trans H; rw [hy268]; with_reducible exact H2_) | (have H2_ := (Option.bind_some _ _).symm.trans H; with_reducible exact H2_) | with_reducible exact H | (rw [hy268]; exact H) | exact H
              have Ny268 := ak hy268
              clear hy268
              obtain ⟨y269, hy269⟩ : ∃ y_ : List (S32), y_ = (y268.set (x14_3 : Int).toNat (⟨(rd_T32 x6_3 x13_2).f0, (rd_T32 x6_3 x13_2).f1, (rd_T32 x6_3 x13_2).f2⟩ : S32)) := ⟨_, rfl⟩
              replace H : (payoffref03_sums.l3 k3 y269 x13_2 (wrap64 (x14_3 + 1))) = some (r1, r2) := by first | (rw [hy269]; with_reducible exact H) | (have H2_ := (Option.bind_some _ _).symm.trans H; rw [hy269]; with_reducible exact H2_) | (have H2_ := (Option.bind_some _ _).symm.trans H; with_reducible exact H2_) | with_reducible exact H | (rw [hy269]; exact H) | exact H
              have Ny269 := ak hy269
              clear hy269
              have H' := ak H
              clear H
              try go_wp2
              replace HO_6 := ak (Kd.R_drew HO_6.out)
              replace HB := ak (below_drew1 HB.out)
              have p262 : 0 ≤ (x14_3 : Int) := of_decide_eq_true (by first | (with_reducible assumption) | assumption)
              have q262 : x14_3 < (x6_3.length : Int) := of_decide_eq_true (by first | (with_reducible assumption) | assumption)
              obtain ⟨ad262, e262, hx262_0, hx262_1, hx262_2⟩ := at_T32 (Kd.R_reads' HO_6.out).2.2 x14_3 p262 q262
              cases e262
              replace p262 := eq_true p262
              replace q262 := eq_true q262
              have p263 : 0 ≤ (x13_2 : Int) := of_decide_eq_true (by first | (with_reducible assumption) | assumption)
              have q263 : x13_2 < (x6_3.length : Int) := of_decide_eq_true (by first | (with_reducible assumption) | assumption)
              obtain ⟨ad263, e263, hx263_0, hx263_1, hx263_2⟩ := at_T32 (Kd.R_reads' HO_6.out).2.2 x13_2 p263 q263
              obtain rfl : ad262 = ad263 := (by injection e263)
              replace p263 := eq_true p263
              replace q263 := eq_true q263
              refine start_ (n := 10) (S := fun w' => w'.cell? (ad262.add ((x14_3).toNat * 3)) = some (.int .i64 ((rd_T32 x6_3 x14_3).f0)) ∧ w'.cell? ⟨(ad262.add ((x14_3).toNat * 3)).block, (ad262.add ((x14_3).toNat * 3)).off + 1, none⟩ = some (.string ((rd_T32 x6_3 x14_3).f1)) ∧ w'.cell? ⟨(ad262.add ((x14_3).toNat * 3)).block, (ad262.add ((x14_3).toNat * 3)).off + 2, none⟩ = some (.int .i64 ((rd_T32 x6_3 x14_3).f2)) ∧ w'.cell? (ad262.add ((x13_2).toNat * 3)) = some (.int .i64 ((rd_T32 x6_3 x13_2).f0)) ∧ w'.cell? ⟨(ad262.add ((x13_2).toNat * 3)).block, (ad262.add ((x13_2).toNat * 3)).off + 1, none⟩ = some (.string ((rd_T32 x6_3 x13_2).f1)) ∧ w'.cell? ⟨(ad262.add ((x13_2).toNat * 3)).block, (ad262.add ((x13_2).toNat * 3)).off + 2, none⟩ = some (.int .i64 ((rd_T32 x6_3 x13_2).f2))) (ds := []) (Go.ba 10 0) (by kernel_rfl) rfl rfl ⟨hx262_0, hx262_1, hx262_2, hx263_0, hx263_1, hx263_2⟩ (fun hHeld => ?_); refine with_tabW payoffref03_sums.tab26 payoffref03_sums.bits26 (fun HT_ HW_ => ?_)
              generalize wr.drew = w46 at HO_6 HB hx262_0 hx262_1 hx262_2 hx263_0 hx263_1 hx263_2 hHeld ⊢
              refine pu 0 92 (Go.ba 10 1) (any_of HT_.out (by kernel_rfl)) ?_
              refine pu 1 93 (Go.ba 10 3) (any_of HT_.out (by kernel_rfl)) ?_
              refine pu 2 94 (Go.ba 10 7) (any_of HT_.out (by kernel_rfl)) ?_
              refine pu 4 96 (Go.ba 10 23) (any_of HT_.out (by kernel_rfl)) ?_
              refine pu 5 97 (Go.ba 10 55) (any_of HT_.out (by kernel_rfl)) ?_
              refine pu 6 98 (Go.ba 10 119) (any_of HT_.out (by kernel_rfl)) ?_
              refine tk 3 95 (Go.ba 10 127) (take_ofW HT_.out HW_.out (by kernel_rfl)) hHeld ?_ (hy := by rintro w' ⟨s0, s1, s2, s3, s4, s5⟩; go_simp; with_reducible rfl)
              refine tk 7 99 (Go.ba 10 255) (take_ofW HT_.out HW_.out (by kernel_rfl)) hHeld ?_ (hy := by rintro w' ⟨s0, s1, s2, s3, s4, s5⟩; go_simp; with_reducible rfl)
              refine one_ (i := 8) (N := some 100) (Go.ba 10 511) rfl rfl (one_of HT_.out (by kernel_rfl)) (by decide) (fun K hK => ?_)
              refine goes_ Try.func19 (by kernel_rfl) rfl #[.agg #[.int .i64 ((rd_T32 x6_3 x14_3).f0), .string ((rd_T32 x6_3 x14_3).f1), .int .i64 ((rd_T32 x6_3 x14_3).f2)], .agg #[.int .i64 ((rd_T32 x6_3 x13_2).f0), .string ((rd_T32 x6_3 x13_2).f1), .int .i64 ((rd_T32 x6_3 x13_2).f2)]] (by rfl) rfl rfl (by (try simp only [List.map_toArray, List.map_cons, List.map_nil]); first | done | rfl | (simp only [List.length_drop, List.length_take]; rfl)) ?_
              with_reducible refine (payoffref03_Compare.calls ((rd_T32 x6_3 x14_3).f0) ((rd_T32 x6_3 x14_3).f1) ((rd_T32 x6_3 x14_3).f2) ((rd_T32 x6_3 x13_2).f0) ((rd_T32 x6_3 x13_2).f1) ((rd_T32 x6_3 x13_2).f2) t264 _ A42.out).mono ?_
              rintro e w47 ⟨rfl, hb⟩
              have HS0_ := (hb.cell (World.block_lt_of_cell? _ _ (hHeld.1))).trans (hHeld.1)
              have HS1_ := (hb.cell (World.block_lt_of_cell? _ _ (hHeld.2.1))).trans (hHeld.2.1)
              have HS2_ := (hb.cell (World.block_lt_of_cell? _ _ (hHeld.2.2.1))).trans (hHeld.2.2.1)
              have HS3_ := (hb.cell (World.block_lt_of_cell? _ _ (hHeld.2.2.2.1))).trans (hHeld.2.2.2.1)
              have HS4_ := (hb.cell (World.block_lt_of_cell? _ _ (hHeld.2.2.2.2.1))).trans (hHeld.2.2.2.2.1)
              have HS5_ := (hb.cell (World.block_lt_of_cell? _ _ (hHeld.2.2.2.2.2))).trans (hHeld.2.2.2.2.2)
              refine ⟨_, rfl, ?_⟩
              replace HO_6 := ak (Kd.R_below (by (with_reducible repeat (first | apply Kd.R_alloc | apply Kd.R_drewN | apply Kd.R_drew)); exact HO_6.out) hb)
              replace HB := ak (below_step (by repeat (first | (with_reducible first | exact HB.out | apply below_alloc | apply pw_below_drewN | apply below_drew1) | exact HB.out)) hb)
              (try clear hb)
              (try clear hb2)
              (try clear hk)
              (try clear hi)
              refine hK.out _ _ ⟨HS0_, HS1_, HS2_, HS3_, HS4_, HS5_⟩ (fun hHeld => ?_)
              clear hK K
              refine norm_ (a' := ?_) ?_ ?_
              rotate_left
              ·show Act.put _ (some 100) _ = _
               simp only [pz]
               rfl
              refine pu 9 101 (Go.ba 10 1023) (any_of HT_.out (by kernel_rfl)) ?_
              refine done_ (done_of HT_.out (by kernel_rfl)) ?_
              have p265 : 0 ≤ (x13_2 : Int) := of_decide_eq_true (by first | (with_reducible assumption) | assumption)
              have q265 : x13_2 < (x6_3.length : Int) := of_decide_eq_true (by first | (with_reducible assumption) | assumption)
              obtain ⟨ad265, e265, hx265_0, hx265_1, hx265_2⟩ := at_T32 (Kd.R_reads' HO_6.out).2.2 x13_2 p265 q265
              obtain rfl : ad262 = ad265 := (by injection e265)
              replace p265 := eq_true p265
              replace q265 := eq_true q265
              try go_wp2_with (first | ((with_reducible refine gate_dst (N := 15) rfl ?_); refine box_event ?hg (N := 15) ?hd (cs := #[.int .i64 0, .string (⟨#[]⟩ : ByteArray), .int .i64 0]) (t := 32) ?hr ?_; (case hd => rfl); (case hg => rfl); (case hr => first | (go_simp; done) | (go_simp; rfl)); intro gb266 hg w48 hbox hb; have n0_ := ak (Kd.R_below (Kd.R_elderB (by (with_reducible repeat (first | apply Kd.R_alloc | apply Kd.R_drewN | apply Kd.R_drew)); exact HO_6.out) gb266 (Nat.le_of_eq hg.symm)) hb); have n1_ := ak (below_step (by repeat (first | (with_reducible first | exact HB.out | apply below_alloc | apply pw_below_drewN | apply below_drew1) | exact HB.out)) hb); have n2_ := ak (hbox); have n3_ := ak ((by rw [hg]; exact (below_size (by repeat (first | (with_reducible first | exact HB.out | apply below_alloc | apply pw_below_drewN | apply below_drew1) | exact HB.out))) : w.heap.size ≤ gb266)); have n4_ := ak ((by rw [hg]; exact (below_size (by repeat (first | (with_reducible first | exact HB.out | apply below_alloc | apply pw_below_drewN | apply below_drew1) | exact HB.out))) : w.heap.size ≤ gb266)); clear HO_6; clear HB; have HO_6 := n0_; have HB := n1_; have BK266 := n2_; have GW266 := n3_; have GE266 := n4_; clear n0_ n1_ n2_ n3_ n4_; clear hb hbox hg; have hcz49_0 : w48.cell? ⟨gb266, 0, none⟩ = some (.int .i64 0) := (blk_cell BK266.out 0).trans rfl; have hcz49_1 : w48.cell? ⟨gb266, 1, none⟩ = some (.string (⟨#[]⟩ : ByteArray)) := (blk_cell BK266.out 1).trans rfl; have hcz49_2 : w48.cell? ⟨gb266, 2, none⟩ = some (.int .i64 0) := (blk_cell BK266.out 2).trans rfl; have hfz49_0 := blk_frozen BK266.out 0; have hfz49_1 := blk_frozen BK266.out 1; have hfz49_2 := blk_frozen BK266.out 2) | ((with_reducible refine gate_store (t := 32) (p := 15) rfl ?_); refine store_event (t := 32) (p := 15) (v := ?vo_w50) (w1 := (((w48.setCell ⟨gb266, 0, none⟩ (.int .i64 ((rd_T32 x6_3 x13_2).f0))).setCell ⟨gb266, 1, none⟩ (.string ((rd_T32 x6_3 x13_2).f1))).setCell ⟨gb266, 2, none⟩ (.int .i64 ((rd_T32 x6_3 x13_2).f2)))) ?hg ?ho ?hn ?hr ?_; (case ho => rfl); (case hg => rfl); (case hn => rfl); (case hr => first | (go_simp; done) | (go_simp; rfl)); intro w50 hw; have n0_ : Aside0 (Kd.R k32 32 w50 w.heap.size (fun k_ => k_ ≠ gb266) (.slice (some ad262) x6_3.length co37) x6_3) := ⟨(by rw [hw]; exact (by (with_reducible repeat (first | apply Kd.R_alloc | apply Kd.R_drewN | apply Kd.R_drew)); exact Kd.R_mono (Kd.R_far (p := ⟨gb266, 2, none⟩) (Kd.R_far (p := ⟨gb266, 1, none⟩) (Kd.R_far (p := ⟨gb266, 0, none⟩) (Kd.R_mono HO_6.out (fun k_ hk => (⟨hk, hk.2⟩ : _ ∧ k_ ≠ gb266))) (fun _ hk => hk.2) (.int .i64 ((rd_T32 x6_3 x13_2).f0))) (fun _ hk => hk.2) (.string ((rd_T32 x6_3 x13_2).f1))) (fun _ hk => hk.2) (.int .i64 ((rd_T32 x6_3 x13_2).f2))) (fun _ hk => hk.1.2)))⟩; have n1_ : Aside0 (w50.heap[gb266]? = some (.cells #[.int .i64 ((rd_T32 x6_3 x13_2).f0), .string ((rd_T32 x6_3 x13_2).f1), .int .i64 ((rd_T32 x6_3 x13_2).f2)] 32 (0, 0))) := ⟨(by rw [hw]; exact (by (with_reducible repeat (first | refine blk_drewN ?_ _ | refine blk_drew ?_ | refine blk_alloc ?_ _)); refine blk_put (cs := #[.int .i64 ((rd_T32 x6_3 x13_2).f0), .string ((rd_T32 x6_3 x13_2).f1), .int .i64 0]) ?_ 2 _ rfl; (with_reducible repeat (first | refine blk_drewN ?_ _ | refine blk_drew ?_ | refine blk_alloc ?_ _)); refine blk_put (cs := #[.int .i64 ((rd_T32 x6_3 x13_2).f0), .string (⟨#[]⟩ : ByteArray), .int .i64 0]) ?_ 1 _ rfl; (with_reducible repeat (first | refine blk_drewN ?_ _ | refine blk_drew ?_ | refine blk_alloc ?_ _)); refine blk_put (cs := #[.int .i64 0, .string (⟨#[]⟩ : ByteArray), .int .i64 0]) ?_ 0 _ rfl; (with_reducible repeat (first | refine blk_drewN ?_ _ | refine blk_drew ?_ | refine blk_alloc ?_ _)); exact BK266.out))⟩; have n2_ : Aside0 (Below w.heap.size w w50) := ⟨(by rw [hw]; exact (by repeat (first | (with_reducible first | exact HB.out | apply below_alloc | apply pw_below_drewN | apply below_drew1 | refine below_set ?_ GE266.out) | exact HB.out)))⟩; clear hw; clear HO_6; clear BK266; clear HB; have HO_6 := n0_; have BK266 := n1_; have HB := n2_; clear n0_ n1_ n2_; have p267 : 0 ≤ (x14_3 : Int) := of_decide_eq_true (by first | (with_reducible assumption) | assumption); have q267 : x14_3 < (x6_3.length : Int) := of_decide_eq_true (by first | (with_reducible assumption) | assumption); obtain ⟨ad267, e267, hx267_0, hx267_1, hx267_2⟩ := at_T32 (Kd.R_reads' HO_6.out).2.2 x14_3 p267 q267; obtain rfl : ad262 = ad267 := (by injection e267); replace p267 := eq_true p267; replace q267 := eq_true q267; have p44 : 0 ≤ (x13_2 : Int) := of_decide_eq_true (by first | (with_reducible assumption) | assumption); have q44 : (x13_2 : Int) < ((x6_3.length : Int) : Int) := of_decide_eq_true (by first | (with_reducible assumption) | assumption); obtain ⟨go44, co44, eo44, gb44, gl44, cl44, HG44⟩ := Kd.R_form HO_6.out (by omega); (first | cases eo44 | (injection eo44 with ea_ en_ ec_; (first | subst ea_ | (injection ea_ with ea_; subst ea_)); subst ec_; clear en_)); have GB44 := ak gb44; have GG44 := ak HG44; clear gb44 gl44 HG44; (first | simp only [add_plain] at hx262_0 | skip); (first | simp only [add_plain] at hx262_1 | skip); (first | simp only [add_plain] at hx262_2 | skip); (first | simp only [add_plain] at hx263_0 | skip); (first | simp only [add_plain] at hx263_1 | skip); (first | simp only [add_plain] at hx263_2 | skip); (first | simp only [add_plain] at hx265_0 | skip); (first | simp only [add_plain] at hx265_1 | skip); (first | simp only [add_plain] at hx265_2 | skip); (first | simp only [add_plain] at hx267_0 | skip); (first | simp only [add_plain] at hx267_1 | skip); (first | simp only [add_plain] at hx267_2 | skip); obtain ⟨ce44, hcl44, hM44, hcc44, hfr44⟩ := Kd.R_elem HO_6.out z32 (x13_2 : Int) p44 q44; obtain rfl := k32_openM hM44; have hx44_0 : w50.cell? ⟨go44, (x13_2 : Int).toNat * 3, none⟩ = some (.int .i64 ((rd_T32 x6_3 x13_2).f0)) := hcc44 0 _ rfl; have hx44_1 : w50.cell? ⟨go44, (x13_2 : Int).toNat * 3 + 1, none⟩ = some (.string ((rd_T32 x6_3 x13_2).f1)) := hcc44 1 _ rfl; have hx44_2 : w50.cell? ⟨go44, (x13_2 : Int).toNat * 3 + 2, none⟩ = some (.int .i64 ((rd_T32 x6_3 x13_2).f2)) := hcc44 2 _ rfl; have hf44_0 : w50.frozen? ⟨go44, (x13_2 : Int).toNat * 3, none⟩ = false := hfr44 0; have hf44_1 : w50.frozen? ⟨go44, (x13_2 : Int).toNat * 3 + 1, none⟩ = false := hfr44 1; have hf44_2 : w50.frozen? ⟨go44, (x13_2 : Int).toNat * 3 + 2, none⟩ = false := hfr44 2; clear hcl44 hcc44 hfr44 hM44; replace p44 := eq_true p44; replace q44 := eq_true q44; have HX51 := ak (show Kd.R k32 32 w50 w.heap.size (fun k_ => k_ ≠ gb266) (.slice (some ⟨go44, 0, none⟩) x6_3.length co37) x6_3 from (by (with_reducible repeat (first | apply Kd.R_alloc | apply Kd.R_drewN | apply Kd.R_drew)); exact HO_6.out)); obtain ⟨ce51, hcl51, hM51, hcc51, hfr51⟩ := Kd.R_elem HX51.out z32 (x13_2 : Int) (of_decide_eq_true (by first | (with_reducible assumption) | assumption)) (by have h_ : (x13_2 : Int) < ((x6_3.length : Int) : Int) := of_decide_eq_true (by first | (with_reducible assumption) | assumption); first | exact h_ | (have e_ := (Kd.R_reads' HO_6.out).1; omega) | simpa using h_); obtain rfl := k32_openM hM51; have HP51 := Kd.R_seg HX51.out (x13_2 : Int) (of_decide_eq_true (by first | (with_reducible assumption) | assumption)) (by have h_ : (x13_2 : Int) < ((x6_3.length : Int) : Int) := of_decide_eq_true (by first | (with_reducible assumption) | assumption); first | exact h_ | (have e_ := (Kd.R_reads' HO_6.out).1; omega) | simpa using h_) (seg := [.int .i64 ((rd_T32 x6_3 x14_3).f0), .string ((rd_T32 x6_3 x14_3).f1), .int .i64 ((rd_T32 x6_3 x14_3).f2)]) (j := 0) hcl51 hcc51 (show 3 ≤ 3 from by decide) (x' := (⟨(rd_T32 x6_3 x14_3).f0, (rd_T32 x6_3 x14_3).f1, (rd_T32 x6_3 x14_3).f2⟩ : S32)) (k32_mkM _ _ _ (⟨(rd_T32 x6_3 x14_3).f0, (rd_T32 x6_3 x14_3).f1, (rd_T32 x6_3 x14_3).f2⟩ : S32) ) (fun _ hk => hk); have hx51_0 := hcc51 0 _ rfl; (try simp only [show (k32).sz = 3 from rfl, Nat.mul_one, Nat.add_zero] at hx51_0); have hf51_0 := hfr51 0; (try simp only [show (k32).sz = 3 from rfl, Nat.mul_one, Nat.add_zero] at hf51_0); have hx51_1 := hcc51 1 _ rfl; (try simp only [show (k32).sz = 3 from rfl, Nat.mul_one, Nat.add_zero] at hx51_1); have hf51_1 := hfr51 1; (try simp only [show (k32).sz = 3 from rfl, Nat.mul_one, Nat.add_zero] at hf51_1); have hx51_2 := hcc51 2 _ rfl; (try simp only [show (k32).sz = 3 from rfl, Nat.mul_one, Nat.add_zero] at hx51_2); have hf51_2 := hfr51 2; (try simp only [show (k32).sz = 3 from rfl, Nat.mul_one, Nat.add_zero] at hf51_2); clear hcl51 hcc51 hfr51 hM51) | ((with_reducible refine gate_store (t := 32) (p := 112) rfl ?_); refine store_event (t := 32) (p := 112) (v := ?vo_w52) (w1 := (((w50.setCell ⟨go44, (x13_2 : Int).toNat * 3, none⟩ (.int .i64 ((rd_T32 x6_3 x14_3).f0))).setCell ⟨go44, (x13_2 : Int).toNat * 3 + 1, none⟩ (.string ((rd_T32 x6_3 x14_3).f1))).setCell ⟨go44, (x13_2 : Int).toNat * 3 + 2, none⟩ (.int .i64 ((rd_T32 x6_3 x14_3).f2)))) ?hg ?ho ?hn ?hr ?_; (case ho => rfl); (case hg => rfl); (case hn => rfl); (case hr => first | (go_simp; done) | (go_simp; rfl)); intro w52 hw; have hg : w50.grownBy w52 (some go44) := (by rw [hw]; exact HP51.2); have hp_ : Kd.R k32 32 w52 w.heap.size (fun k_ => k_ ≠ gb266) (.slice (some ⟨go44, 0, none⟩) x6_3.length co37) y268 := (by rw [hw, Ny268.out]; exact HP51.1); clear HP51; have n0_ := ak (hp_); have n1_ := ak (blk_grown (g := gb266) (o := .cells #[.int .i64 ((rd_T32 x6_3 x13_2).f0), .string ((rd_T32 x6_3 x13_2).f1), .int .i64 ((rd_T32 x6_3 x13_2).f2)] 32 (0, 0)) (by (with_reducible repeat (first | refine blk_drewN ?_ _ | refine blk_drew ?_ | refine blk_alloc ?_ _)); exact BK266.out) hg (Kd.R_away HO_6.out (fun _ hk => hk))); have n2_ := ak ((by rw [hw]; exact below_set (below_set (below_set (HB.out) GB44.out) GB44.out) GB44.out : Below w.heap.size w w52)); clear HO_6; clear BK266; clear HB; have HO_6 := n0_; have BK266 := n1_; have HB := n2_; clear n0_ n1_ n2_; clear hg hw hp_; have hcz53_0 : w52.cell? ⟨gb266, 0, none⟩ = some (.int .i64 ((rd_T32 x6_3 x13_2).f0)) := (blk_cell BK266.out 0).trans rfl; have hcz53_1 : w52.cell? ⟨gb266, 1, none⟩ = some (.string ((rd_T32 x6_3 x13_2).f1)) := (blk_cell BK266.out 1).trans rfl; have hcz53_2 : w52.cell? ⟨gb266, 2, none⟩ = some (.int .i64 ((rd_T32 x6_3 x13_2).f2)) := (blk_cell BK266.out 2).trans rfl; have hfz53_0 := blk_frozen BK266.out 0; have hfz53_1 := blk_frozen BK266.out 1; have hfz53_2 := blk_frozen BK266.out 2; have p45 : 0 ≤ (x14_3 : Int) := of_decide_eq_true (by first | (with_reducible assumption) | assumption); have q45 : (x14_3 : Int) < ((x6_3.length : Int) : Int) := of_decide_eq_true (by first | (with_reducible assumption) | assumption); obtain ⟨ce45, hcl45, hM45, hcc45, hfr45⟩ := Kd.R_elem HO_6.out z32 (x14_3 : Int) p45 q45; obtain rfl := k32_openM hM45; have hx45_0 : w52.cell? ⟨go44, (x14_3 : Int).toNat * 3, none⟩ = some (.int .i64 ((rd_T32 y268 x14_3).f0)) := hcc45 0 _ rfl; have hx45_1 : w52.cell? ⟨go44, (x14_3 : Int).toNat * 3 + 1, none⟩ = some (.string ((rd_T32 y268 x14_3).f1)) := hcc45 1 _ rfl; have hx45_2 : w52.cell? ⟨go44, (x14_3 : Int).toNat * 3 + 2, none⟩ = some (.int .i64 ((rd_T32 y268 x14_3).f2)) := hcc45 2 _ rfl; have hf45_0 : w52.frozen? ⟨go44, (x14_3 : Int).toNat * 3, none⟩ = false := hfr45 0; have hf45_1 : w52.frozen? ⟨go44, (x14_3 : Int).toNat * 3 + 1, none⟩ = false := hfr45 1; have hf45_2 : w52.frozen? ⟨go44, (x14_3 : Int).toNat * 3 + 2, none⟩ = false := hfr45 2; clear hcl45 hcc45 hfr45 hM45; replace p45 := eq_true p45; replace q45 := eq_true q45; have HX54 := ak (show Kd.R k32 32 w52 w.heap.size (fun k_ => k_ ≠ gb266) (.slice (some ⟨go44, 0, none⟩) x6_3.length co37) y268 from (by (with_reducible repeat (first | apply Kd.R_alloc | apply Kd.R_drewN | apply Kd.R_drew)); exact HO_6.out)); obtain ⟨ce54, hcl54, hM54, hcc54, hfr54⟩ := Kd.R_elem HX54.out z32 (x14_3 : Int) (of_decide_eq_true (by first | (with_reducible assumption) | assumption)) (by have h_ : (x14_3 : Int) < ((x6_3.length : Int) : Int) := of_decide_eq_true (by first | (with_reducible assumption) | assumption); first | exact h_ | (have e_ := (Kd.R_reads' HO_6.out).1; omega) | simpa using h_); obtain rfl := k32_openM hM54; have HP54 := Kd.R_seg HX54.out (x14_3 : Int) (of_decide_eq_true (by first | (with_reducible assumption) | assumption)) (by have h_ : (x14_3 : Int) < ((x6_3.length : Int) : Int) := of_decide_eq_true (by first | (with_reducible assumption) | assumption); first | exact h_ | (have e_ := (Kd.R_reads' HO_6.out).1; omega) | simpa using h_) (seg := [.int .i64 ((rd_T32 x6_3 x13_2).f0), .string ((rd_T32 x6_3 x13_2).f1), .int .i64 ((rd_T32 x6_3 x13_2).f2)]) (j := 0) hcl54 hcc54 (show 3 ≤ 3 from by decide) (x' := (⟨(rd_T32 x6_3 x13_2).f0, (rd_T32 x6_3 x13_2).f1, (rd_T32 x6_3 x13_2).f2⟩ : S32)) (k32_mkM _ _ _ (⟨(rd_T32 x6_3 x13_2).f0, (rd_T32 x6_3 x13_2).f1, (rd_T32 x6_3 x13_2).f2⟩ : S32) ) (fun _ hk => hk); have hx54_0 := hcc54 0 _ rfl; (try simp only [show (k32).sz = 3 from rfl, Nat.mul_one, Nat.add_zero] at hx54_0); have hf54_0 := hfr54 0; (try simp only [show (k32).sz = 3 from rfl, Nat.mul_one, Nat.add_zero] at hf54_0); have hx54_1 := hcc54 1 _ rfl; (try simp only [show (k32).sz = 3 from rfl, Nat.mul_one, Nat.add_zero] at hx54_1); have hf54_1 := hfr54 1; (try simp only [show (k32).sz = 3 from rfl, Nat.mul_one, Nat.add_zero] at hf54_1); have hx54_2 := hcc54 2 _ rfl; (try simp only [show (k32).sz = 3 from rfl, Nat.mul_one, Nat.add_zero] at hx54_2); have hf54_2 := hfr54 2; (try simp only [show (k32).sz = 3 from rfl, Nat.mul_one, Nat.add_zero] at hf54_2); clear hcl54 hcc54 hfr54 hM54) | ((with_reducible refine gate_store (t := 32) (p := 116) rfl ?_); refine store_event (t := 32) (p := 116) (v := ?vo_w55) (w1 := (((w52.setCell ⟨go44, (x14_3 : Int).toNat * 3, none⟩ (.int .i64 ((rd_T32 x6_3 x13_2).f0))).setCell ⟨go44, (x14_3 : Int).toNat * 3 + 1, none⟩ (.string ((rd_T32 x6_3 x13_2).f1))).setCell ⟨go44, (x14_3 : Int).toNat * 3 + 2, none⟩ (.int .i64 ((rd_T32 x6_3 x13_2).f2)))) ?hg ?ho ?hn ?hr ?_; (case ho => rfl); (case hg => rfl); (case hn => rfl); (case hr => first | (go_simp; done) | (go_simp; rfl)); intro w55 hw; have hg : w52.grownBy w55 (some go44) := (by rw [hw]; exact HP54.2); have hp_ : Kd.R k32 32 w55 w.heap.size (fun k_ => k_ ≠ gb266) (.slice (some ⟨go44, 0, none⟩) x6_3.length co37) y269 := (by rw [hw, Ny269.out]; exact HP54.1); clear HP54; have n0_ := ak (hp_); have n1_ := ak (blk_grown (g := gb266) (o := .cells #[.int .i64 ((rd_T32 x6_3 x13_2).f0), .string ((rd_T32 x6_3 x13_2).f1), .int .i64 ((rd_T32 x6_3 x13_2).f2)] 32 (0, 0)) (by (with_reducible repeat (first | refine blk_drewN ?_ _ | refine blk_drew ?_ | refine blk_alloc ?_ _)); exact BK266.out) hg (Kd.R_away HO_6.out (fun _ hk => hk))); have n2_ := ak ((by rw [hw]; exact below_set (below_set (below_set (HB.out) GB44.out) GB44.out) GB44.out : Below w.heap.size w w55)); clear HO_6; clear BK266; clear HB; have HO_6 := n0_; have BK266 := n1_; have HB := n2_; clear n0_ n1_ n2_; clear hg hw hp_))
              (try simp only [← hl6_3])
              go_roundg k3
              case measure => have := HK1.out; have := HK2.out; have := HK3.out; omega
              case rel => exact ⟨(y269), (wrap64 (x14_3 + 1)), (by first | rfl | (simp; done) | (simp [*]; done)), H', ⟨by have := HK1.out; have := HK2.out; have := HK3.out; omega⟩, ⟨by (try simp only [hl6_3]); (with_reducible repeat (first | apply Kd.R_alloc | apply Kd.R_drewN | apply Kd.R_drew)); exact Kd.R_mono HO_6.out (fun _ hk => trivial)⟩, ⟨by repeat (first | (with_reducible first | exact HB.out | apply below_alloc | apply pw_below_drewN | apply below_drew1 | refine below_set ?_ GE266.out) | exact HB.out)⟩⟩
             ·rw [if_neg c43] at H
              have c43b0 := decide_eq_false c43
              clear c43
              have H' := ak H
              clear H
              try go_wp2
              replace HO_6 := ak (Kd.R_drew HO_6.out)
              replace HB := ak (below_drew1 HB.out)
              have p262 : 0 ≤ (x14_3 : Int) := of_decide_eq_true (by first | (with_reducible assumption) | assumption)
              have q262 : x14_3 < (x6_3.length : Int) := of_decide_eq_true (by first | (with_reducible assumption) | assumption)
              obtain ⟨ad262, e262, hx262_0, hx262_1, hx262_2⟩ := at_T32 (Kd.R_reads' HO_6.out).2.2 x14_3 p262 q262
              cases e262
              replace p262 := eq_true p262
              replace q262 := eq_true q262
              have p263 : 0 ≤ (x13_2 : Int) := of_decide_eq_true (by first | (with_reducible assumption) | assumption)
              have q263 : x13_2 < (x6_3.length : Int) := of_decide_eq_true (by first | (with_reducible assumption) | assumption)
              obtain ⟨ad263, e263, hx263_0, hx263_1, hx263_2⟩ := at_T32 (Kd.R_reads' HO_6.out).2.2 x13_2 p263 q263
              obtain rfl : ad262 = ad263 := (by injection e263)
              replace p263 := eq_true p263
              replace q263 := eq_true q263
              refine start_ (n := 10) (S := fun w' => w'.cell? (ad262.add ((x14_3).toNat * 3)) = some (.int .i64 ((rd_T32 x6_3 x14_3).f0)) ∧ w'.cell? ⟨(ad262.add ((x14_3).toNat * 3)).block, (ad262.add ((x14_3).toNat * 3)).off + 1, none⟩ = some (.string ((rd_T32 x6_3 x14_3).f1)) ∧ w'.cell? ⟨(ad262.add ((x14_3).toNat * 3)).block, (ad262.add ((x14_3).toNat * 3)).off + 2, none⟩ = some (.int .i64 ((rd_T32 x6_3 x14_3).f2)) ∧ w'.cell? (ad262.add ((x13_2).toNat * 3)) = some (.int .i64 ((rd_T32 x6_3 x13_2).f0)) ∧ w'.cell? ⟨(ad262.add ((x13_2).toNat * 3)).block, (ad262.add ((x13_2).toNat * 3)).off + 1, none⟩ = some (.string ((rd_T32 x6_3 x13_2).f1)) ∧ w'.cell? ⟨(ad262.add ((x13_2).toNat * 3)).block, (ad262.add ((x13_2).toNat * 3)).off + 2, none⟩ = some (.int .i64 ((rd_T32 x6_3 x13_2).f2))) (ds := []) (Go.ba 10 0) (by kernel_rfl) rfl rfl ⟨hx262_0, hx262_1, hx262_2, hx263_0, hx263_1, hx263_2⟩ (fun hHeld => ?_); refine with_tabW payoffref03_sums.tab26 payoffref03_sums.bits26 (fun HT_ HW_ => ?_)
              generalize wr.drew = w56 at HO_6 HB hx262_0 hx262_1 hx262_2 hx263_0 hx263_1 hx263_2 hHeld ⊢
              refine pu 0 92 (Go.ba 10 1) (any_of HT_.out (by kernel_rfl)) ?_
              refine pu 1 93 (Go.ba 10 3) (any_of HT_.out (by kernel_rfl)) ?_
              refine pu 2 94 (Go.ba 10 7) (any_of HT_.out (by kernel_rfl)) ?_
              refine pu 4 96 (Go.ba 10 23) (any_of HT_.out (by kernel_rfl)) ?_
              refine pu 5 97 (Go.ba 10 55) (any_of HT_.out (by kernel_rfl)) ?_
              refine pu 6 98 (Go.ba 10 119) (any_of HT_.out (by kernel_rfl)) ?_
              refine tk 3 95 (Go.ba 10 127) (take_ofW HT_.out HW_.out (by kernel_rfl)) hHeld ?_ (hy := by rintro w' ⟨s0, s1, s2, s3, s4, s5⟩; go_simp; with_reducible rfl)
              refine tk 7 99 (Go.ba 10 255) (take_ofW HT_.out HW_.out (by kernel_rfl)) hHeld ?_ (hy := by rintro w' ⟨s0, s1, s2, s3, s4, s5⟩; go_simp; with_reducible rfl)
              refine one_ (i := 8) (N := some 100) (Go.ba 10 511) rfl rfl (one_of HT_.out (by kernel_rfl)) (by decide) (fun K hK => ?_)
              refine goes_ Try.func19 (by kernel_rfl) rfl #[.agg #[.int .i64 ((rd_T32 x6_3 x14_3).f0), .string ((rd_T32 x6_3 x14_3).f1), .int .i64 ((rd_T32 x6_3 x14_3).f2)], .agg #[.int .i64 ((rd_T32 x6_3 x13_2).f0), .string ((rd_T32 x6_3 x13_2).f1), .int .i64 ((rd_T32 x6_3 x13_2).f2)]] (by rfl) rfl rfl (by (try simp only [List.map_toArray, List.map_cons, List.map_nil]); first | done | rfl | (simp only [List.length_drop, List.length_take]; rfl)) ?_
              with_reducible refine (payoffref03_Compare.calls ((rd_T32 x6_3 x14_3).f0) ((rd_T32 x6_3 x14_3).f1) ((rd_T32 x6_3 x14_3).f2) ((rd_T32 x6_3 x13_2).f0) ((rd_T32 x6_3 x13_2).f1) ((rd_T32 x6_3 x13_2).f2) t264 _ A42.out).mono ?_
              rintro e w57 ⟨rfl, hb⟩
              have HS0_ := (hb.cell (World.block_lt_of_cell? _ _ (hHeld.1))).trans (hHeld.1)
              have HS1_ := (hb.cell (World.block_lt_of_cell? _ _ (hHeld.2.1))).trans (hHeld.2.1)
              have HS2_ := (hb.cell (World.block_lt_of_cell? _ _ (hHeld.2.2.1))).trans (hHeld.2.2.1)
              have HS3_ := (hb.cell (World.block_lt_of_cell? _ _ (hHeld.2.2.2.1))).trans (hHeld.2.2.2.1)
              have HS4_ := (hb.cell (World.block_lt_of_cell? _ _ (hHeld.2.2.2.2.1))).trans (hHeld.2.2.2.2.1)
              have HS5_ := (hb.cell (World.block_lt_of_cell? _ _ (hHeld.2.2.2.2.2))).trans (hHeld.2.2.2.2.2)
              refine ⟨_, rfl, ?_⟩
              replace HO_6 := ak (Kd.R_below (by (with_reducible repeat (first | apply Kd.R_alloc | apply Kd.R_drewN | apply Kd.R_drew)); exact HO_6.out) hb)
              replace HB := ak (below_step (by repeat (first | (with_reducible first | exact HB.out | apply below_alloc | apply pw_below_drewN | apply below_drew1) | exact HB.out)) hb)
              (try clear hb)
              (try clear hb2)
              (try clear hk)
              (try clear hi)
              refine hK.out _ _ ⟨HS0_, HS1_, HS2_, HS3_, HS4_, HS5_⟩ (fun hHeld => ?_)
              clear hK K
              refine norm_ (a' := ?_) ?_ ?_
              rotate_left
              ·show Act.put _ (some 100) _ = _
               simp only [pz]
               rfl
              refine pu 9 101 (Go.ba 10 1023) (any_of HT_.out (by kernel_rfl)) ?_
              refine done_ (done_of HT_.out (by kernel_rfl)) ?_
              try go_wp2
              (try simp only [← hl6_3])
              go_roundg k3
              case measure => have := HK1.out; have := HK2.out; have := HK3.out; omega
              case rel => exact ⟨(x6_3), (wrap64 (x14_3 + 1)), (by first | rfl | (simp; done) | (simp [*]; done)), H', ⟨by have := HK1.out; have := HK2.out; have := HK3.out; omega⟩, ⟨by (try simp only [hl6_3]); (with_reducible repeat (first | apply Kd.R_alloc | apply Kd.R_drewN | apply Kd.R_drew)); exact HO_6.out⟩, ⟨by repeat (first | (with_reducible first | exact HB.out | apply below_alloc | apply pw_below_drewN | apply below_drew1) | exact HB.out)⟩⟩
            ·rw [if_neg c41] at H
             exact absurd H (by simp)
           ·rw [if_neg c40] at H
            exact absurd H (by simp)
          ·rw [if_neg c39] at H
           exact absurd H (by simp)
         ·rw [if_neg c38] at H
          have c38b0 := decide_eq_false c38
          clear c38
          have H' := ak H
          clear H
          go_wp2
          (try simp only [← hl6_3])
          go_roundg k3
          case measure => have := HK1.out; have := HK2.out; have := HK3.out; omega
          case rel => exact ⟨(x6_3), (wrap64 (x13_2 + 1)), (by first | rfl | (simp; done) | (simp [*]; done)), H', ⟨by have := HK1.out; have := HK2.out; have := HK3.out; omega⟩, ⟨by (try simp only [hl6_3]); (with_reducible repeat (first | apply Kd.R_alloc | apply Kd.R_drewN | apply Kd.R_drew)); exact HO_6.out⟩, ⟨by repeat (first | (with_reducible first | exact HB.out | apply below_alloc | apply pw_below_drewN | apply below_drew1) | exact HB.out)⟩⟩
      ·rw [if_neg c36] at H
       have c36b0 := decide_eq_false c36
       clear c36
       simp only [Option.some.injEq, Prod.mk.injEq] at H
       obtain ⟨rfl, rfl⟩ := H
       obtain ⟨Ao58, co58, eo58⟩ := Kd.R_slice HO_6.out
       subst eo58
       go_wp2
       go_ret2
       exact ⟨_, by first | rfl | (simp [errW_none, errW_some] <;> rfl) | (simp [*, errW_none, errW_some] <;> rfl), by (with_reducible repeat (first | apply Kd.R_alloc | apply Kd.R_drewN | apply Kd.R_drew)); exact HO_6.out, by repeat (first | (with_reducible first | exact HB.out | apply below_alloc | apply pw_below_drewN | apply below_drew1) | exact HB.out)⟩
def payoffref03_Totals.l0 : Nat → List (S32) → List (S62) → Int → Option ((List (S62)) × Int)
 | 0, _, _, _ => none
 | k + 1, x4, x6, x7 => if x7 < (x4.length : Int) then (if 0 ≤ x7 then (if x6.length < 5864062014805 then (payoffref03_Totals.l0 k x4 (x6 ++ [(⟨(rd_T32 x4 x7).f1, (rd_T32 x4 x7).f2⟩ : S62)]) (wrap64 (x7 + 1))) else (none)) else (none)) else (some (x6, 0))
def payoffref03_Totals.f (k : Nat) (l0 : List (S32)) : Option ((List (S62)) × Int) := (payoffref03_sums.f k l0 false).bind fun bt270 => (if bt270.2 = true then (payoffref03_Totals.l0 k bt270.1 ([] : List (S62)) 0) else (some (([] : List (S62)), 1)))
theorem payoffref03_Totals.mono_l : ∀ k, (∀ y0 y1 y2, LeO (payoffref03_Totals.l0 k y0 y1 y2) (payoffref03_Totals.l0 (k + 1) y0 y1 y2))
 | 0 => fun _ _ _ r h => by simp [payoffref03_Totals.l0] at h
 | k + 1 => by
  have ih0 := payoffref03_Totals.mono_l k
  ·intro y0 y1 y2
   unfold payoffref03_Totals.l0
   repeat' first
   | (with_reducible exact ih0 _ _ _)
   | (with_reducible exact payoffref03_sums.mono _ _ _)
   | (with_reducible exact LeO.refl _)
   | (with_reducible exact LeO.none _)
   | (with_reducible refine LeO.ite ?_ ?_)
   | (with_reducible refine LeO.bind ?_ (fun _ => ?_))
   | exact ih0 _ _ _
   | exact payoffref03_sums.mono _ _ _
   | exact LeO.none _
   | refine LeO.ite ?_ ?_
   | refine LeO.bind ?_ (fun _ => ?_)
theorem payoffref03_Totals.mono : ∀ a0 k, LeO (payoffref03_Totals.f k a0) (payoffref03_Totals.f (k + 1) a0) := by
 intro a0 k
 have ih0 := payoffref03_Totals.mono_l k
 unfold payoffref03_Totals.f
 repeat' first
  | (with_reducible exact ih0 _ _ _)
  | (with_reducible exact payoffref03_sums.mono _ _ _)
  | (with_reducible exact LeO.refl _)
  | (with_reducible exact LeO.none _)
  | (with_reducible refine LeO.ite ?_ ?_)
  | (with_reducible refine LeO.bind ?_ (fun _ => ?_))
  | exact ih0 _ _ _
  | exact payoffref03_sums.mono _ _ _
  | exact LeO.none _
  | refine LeO.ite ?_ ?_
  | refine LeO.bind ?_ (fun _ => ?_)
def payoffref03_Totals.T8 : Bool × List (List Nat × List Nat) := (true, [([], []), ([], []), ([], []), ([1, 2], [1, 2]), ([3], [3]), ([4], [4]), ([], []), ([], []), ([6, 7], [6, 7]), ([8], [8]), ([9], [9]), ([5, 10], [5, 10]), ([11], [11]), ([0, 12], [0, 12]), ([13, 13, 0, 1, 2, 3, 4, 5, 6, 7, 8, 9, 10, 11, 12, 13], [0, 13])])
def payoffref03_Totals.B8 : List Nat := [0, 0, 0, 6, 14, 30, 0, 0, 192, 448, 960, 2046, 4094, 8191, 16383]
theorem payoffref03_Totals.tab8 : rtab .any (opsOf Try.f25 8) = payoffref03_Totals.T8 := by kernel_rfl
theorem payoffref03_Totals.bits8 : waitsOk payoffref03_Totals.T8.2 payoffref03_Totals.B8 = true := by kernel_rfl
set_option maxHeartbeats 8000000 in
set_option maxRecDepth 100000 in
theorem payoffref03_Totals.calls (k : Nat) (A0 : Option Addr) (c0 : Nat) (l0 : List (S32)) (r1 : List (S62)) (r2 : Int) (w : World) (hr0 : Kd.C k32 w A0 l0.length l0) (hc0 : l0.length ≤ c0) (h : payoffref03_Totals.f k l0 = some (r1, r2)) :
  Calls Try.prog 25 #[.slice A0 l0.length c0] w fun e w' => ∃ v0_ : Value, e = .returned (.tuple #[v0_, .int .i64 r2]) ∧ Kd.R k62 62 w' w.heap.size (fun _ => True) v0_ r1 ∧ Below w.heap.size w w' := by
 have hu62 := Try.underlying62
 have HR0 := ak hr0
 have HC0 := ak hc0
 clear hr0 hc0
 have HB := ak (Below.refl w.heap.size w)
 have H : ((payoffref03_sums.f k l0 false).bind fun bt270 => (if bt270.2 = true then (payoffref03_Totals.l0 k bt270.1 ([] : List (S62)) 0) else (some (([] : List (S62)), 1)))) = some (r1, r2) := h
 clear h
 replace H := Option.bind_eq_some_iff.mp H
 obtain ⟨⟨t270, t271⟩, A20, H⟩ := H
 replace H : (if t271 = true then (payoffref03_Totals.l0 k t270 ([] : List (S62)) 0) else (some (([] : List (S62)), 1))) = some (r1, r2) := H
 have A2 := ak A20
 clear A20
 by_cases c3 : t271 = true
 ·subst c3
  have H1 : (payoffref03_Totals.l0 k t270 ([] : List (S62)) 0) = some (r1, r2) := by rw [if_pos rfl] at H; exact H
  clear H
  have H := H1
  clear H1
  have H' := ak H
  clear H
  go_enter Try.func25, Try.ntmps25
  go_wp2_with (first | ((with_reducible refine gate_callee (f := 45) rfl ?_); refine goesL_ (some 10) rfl rfl Try.func45 (by kernel_rfl) rfl #[.slice A0 l0.length c0, .bool false] rfl (by (try simp only [List.map_toArray, List.map_cons, List.map_nil]); first | done | rfl | (simp only [List.length_drop, List.length_take]; rfl)) ?_; (with_reducible refine (payoffref03_sums.calls k _ _ l0 false t270 true _ ?side1 ?side2 A2.out).mono ?_); (case side1 => repeat (first | exact HR0.out | (with_reducible refine Kd.C_alloc ?_ _) | (with_reducible refine Kd.C_drewN ?_ _) | (with_reducible refine Kd.C_drew ?_))); (case side2 => exact HC0.out); rintro e w4 ⟨v272, rfl, ho0, hb⟩; refine ⟨_, rfl, ?_⟩; have HO273 := ak (Kd.R_lower ho0 (below_size (by repeat (first | (with_reducible first | exact HB.out | apply below_alloc | apply pw_below_drewN | apply below_drew1) | exact HB.out)))); replace HB := ak (below_step (by repeat (first | (with_reducible first | exact HB.out | apply below_alloc | apply pw_below_drewN | apply below_drew1) | exact HB.out)) hb); (try clear hb); (try clear hb2); (try clear hk); (try clear hi); (try clear ho0)))
  go_loopg [6, 7] k (fun kq v6 v7 w' => ∃ (x6_1 : List (S62)) (x7_1 : Int), v7 = .int .i64 x7_1 ∧ Aside0 (payoffref03_Totals.l0 kq t270 x6_1 x7_1 = some (r1, r2)) ∧ Aside0 (kq ≤ k) ∧ Aside0 (Kd.R k32 32 w' w.heap.size (fun _ => True) v272 t270) ∧ Aside0 (Kd.R k62 62 w' w.heap.size (fun _ => True) v6 x6_1) ∧ Aside0 (Below w.heap.size w w'))
  case atStart => exact ⟨(([] : List (S62))), (0), (by first | rfl | (simp; done) | (simp [*]; done)), H', ⟨Nat.le_refl _⟩, ⟨by (with_reducible repeat (first | apply Kd.R_alloc | apply Kd.R_drewN | apply Kd.R_drew)); exact HO273.out⟩, ⟨by first | exact Kd.R_nil _ _ _ _ _ | exact Kd.N_nil _ _ _ _ _ | exact Kd.V_nil _ _ _ _ _ | exact Kd.Q_nil _ _ _ _ _ | exact Kd.S_nil _ _ _ _ _⟩, ⟨by repeat (first | (with_reducible first | exact HB.out | apply below_alloc | apply pw_below_drewN | apply below_drew1) | exact HB.out)⟩⟩
  case round =>
   clear H'
   try clear c2
   try clear p2
   try clear c3
   try clear c4
   obtain ⟨x6_1, x7_1, rfl, HA, HK1, HO_4, HO_6, HB⟩ := hrel
   cases gk with
   | zero => exact absurd HA.out (by simp [payoffref03_Totals.l0])
   | succ k1 =>
    have H := HA.out
    clear HA
    simp only [payoffref03_Totals.l0] at H
    by_cases c5 : x7_1 < (t270.length : Int)
    ·rw [if_pos c5] at H
     have c5b0 := decide_eq_true c5
     clear c5
     by_cases c6 : 0 ≤ x7_1
     ·rw [if_pos c6] at H
      have c6b0 := decide_eq_true c6
      clear c6
      by_cases c7 : x6_1.length < 5864062014805
      ·rw [if_pos c7] at H
       have LMc7 := ak c7
       clear c7
       obtain ⟨y276, hy276⟩ : ∃ y_ : List (S62), y_ = (x6_1 ++ [(⟨(rd_T32 t270 x7_1).f1, (rd_T32 t270 x7_1).f2⟩ : S62)]) := ⟨_, rfl⟩
       replace H : (payoffref03_Totals.l0 k1 t270 y276 (wrap64 (x7_1 + 1))) = some (r1, r2) := by first | (rw [hy276]; with_reducible exact H) | (have H2_ := (Option.bind_some _ _).symm.trans H; rw [hy276]; with_reducible exact H2_) | (have H2_ := (Option.bind_some _ _).symm.trans H; with_reducible exact H2_) | with_reducible exact H | (rw [hy276]; exact H) | exact H
       have Ny276 := ak hy276
       clear hy276
       have H' := ak H
       clear H
       obtain ⟨Ao8, co8, eo8⟩ := Kd.R_slice HO_4.out
       subst eo8
       try go_wp2
       replace HO_4 := ak (Kd.R_drew HO_4.out)
       replace HO_6 := ak (Kd.R_drew HO_6.out)
       replace HB := ak (below_drew1 HB.out)
       have p274 : 0 ≤ (x7_1 : Int) := of_decide_eq_true (by first | (with_reducible assumption) | assumption)
       have q274 : x7_1 < (t270.length : Int) := of_decide_eq_true (by first | (with_reducible assumption) | assumption)
       obtain ⟨ad274, e274, hx274_0, hx274_1, hx274_2⟩ := at_T32 (Kd.R_reads' HO_4.out).2.2 x7_1 p274 q274
       cases e274
       replace p274 := eq_true p274
       replace q274 := eq_true q274
       have p275 : 0 ≤ (x7_1 : Int) := of_decide_eq_true (by first | (with_reducible assumption) | assumption)
       have q275 : x7_1 < (t270.length : Int) := of_decide_eq_true (by first | (with_reducible assumption) | assumption)
       obtain ⟨ad275, e275, hx275_0, hx275_1, hx275_2⟩ := at_T32 (Kd.R_reads' HO_4.out).2.2 x7_1 p275 q275
       obtain rfl : ad274 = ad275 := (by injection e275)
       replace p275 := eq_true p275
       replace q275 := eq_true q275
       refine start_ (n := 15) (S := fun w' => w'.cell? (ad274.add ((x7_1).toNat * 3)) = some (.int .i64 ((rd_T32 t270 x7_1).f0)) ∧ w'.cell? ⟨(ad274.add ((x7_1).toNat * 3)).block, (ad274.add ((x7_1).toNat * 3)).off + 1, none⟩ = some (.string ((rd_T32 t270 x7_1).f1)) ∧ w'.cell? ⟨(ad274.add ((x7_1).toNat * 3)).block, (ad274.add ((x7_1).toNat * 3)).off + 2, none⟩ = some (.int .i64 ((rd_T32 t270 x7_1).f2)) ∧ w'.cell? (ad274.add ((x7_1).toNat * 3)) = some (.int .i64 ((rd_T32 t270 x7_1).f0)) ∧ w'.cell? ⟨(ad274.add ((x7_1).toNat * 3)).block, (ad274.add ((x7_1).toNat * 3)).off + 1, none⟩ = some (.string ((rd_T32 t270 x7_1).f1)) ∧ w'.cell? ⟨(ad274.add ((x7_1).toNat * 3)).block, (ad274.add ((x7_1).toNat * 3)).off + 2, none⟩ = some (.int .i64 ((rd_T32 t270 x7_1).f2))) (ds := [12, 13]) (Go.ba 15 0) (by kernel_rfl) rfl rfl ⟨hx274_0, hx274_1, hx274_2, hx275_0, hx275_1, hx275_2⟩ (fun hHeld => ?_); refine with_tabW payoffref03_Totals.tab8 payoffref03_Totals.bits8 (fun HT_ HW_ => ?_)
       generalize wr.drew = w9 at HO_4 HO_6 HB hx274_0 hx274_1 hx274_2 hx275_0 hx275_1 hx275_2 hHeld ⊢
       refine pu 0 21 (Go.ba 15 1) (any_of HT_.out (by kernel_rfl)) ?_
       refine pu 1 22 (Go.ba 15 3) (any_of HT_.out (by kernel_rfl)) ?_
       refine pu 2 23 (Go.ba 15 7) (any_of HT_.out (by kernel_rfl)) ?_
       refine pu 3 24 (Go.ba 15 15) (any_of HT_.out (by kernel_rfl)) ?_
       refine pu 4 25 (Go.ba 15 31) (any_of HT_.out (by kernel_rfl)) ?_
       refine pu 6 27 (Go.ba 15 95) (any_of HT_.out (by kernel_rfl)) ?_
       refine pu 7 28 (Go.ba 15 223) (any_of HT_.out (by kernel_rfl)) ?_
       refine pu 8 29 (Go.ba 15 479) (any_of HT_.out (by kernel_rfl)) ?_
       refine pu 9 30 (Go.ba 15 991) (any_of HT_.out (by kernel_rfl)) ?_
       refine tk 5 26 (Go.ba 15 1023) (take_ofW HT_.out HW_.out (by kernel_rfl)) hHeld ?_ (hy := by rintro w' ⟨s0, s1, s2, s3, s4, s5⟩; go_simp; with_reducible rfl)
       refine tk 10 31 (Go.ba 15 2047) (take_ofW HT_.out HW_.out (by kernel_rfl)) hHeld ?_ (hy := by rintro w' ⟨s0, s1, s2, s3, s4, s5⟩; go_simp; with_reducible rfl)
       refine pu 11 32 (Go.ba 15 4095) (any_of HT_.out (by kernel_rfl)) ?_
       refine last_ (i := 12) (N := some 33) (Go.ba 15 8191) rfl rfl (one_of HT_.out (by kernel_rfl)) (by decide) (fun K hK => ?_)
       refine value_ (w1 := ?_) (v := ?_) (by rfl) rfl ?_ ?_
       rotate_left 2
       ·go_simp
        constructor
        ·rfl
        ·rfl
       refine hK.out _ _ ?_
       clear hK K
       refine norm_ (a' := ?_) ?_ ?_
       rotate_left
       ·show Act.put _ (some 33) _ = _
        simp only [pz]
        rfl
       refine last_ (i := 13) (N := some 34) (Go.ba 15 16383) rfl rfl (one_of HT_.out (by kernel_rfl)) (by decide) (fun K hK => ?_)
       refine Kd.R_append_step k62 (w0 := w) w.heap.size (by rfl) (.tmp 21) (.tmp 33) 26 62 (.agg #[(.string ⟨#[]⟩), (.int .i64 0)]) 24 rfl Try.underlying26 info62 rfl (by decide) (by omega) u6 x6_1 (⟨(rd_T32 t270 x7_1).f1, (rd_T32 t270 x7_1).f2⟩ : S62) [.string ((rd_T32 t270 x7_1).f1), .int .i64 ((rd_T32 t270 x7_1).f2)] (fun _ => True) (fun _ => False) rfl rfl ?aP (fun _ hk => hk.elim) ?aF ?aO ?aB ?aS ?aL ?_
       (case aP => exact k62_mkM _ _ _ (⟨(rd_T32 t270 x7_1).f1, (rd_T32 t270 x7_1).f2⟩ : S62))
       (case aB => exact (by repeat (first | (with_reducible first | exact HB.out | apply below_alloc | apply pw_below_drewN | apply below_drew1) | exact HB.out)))
       (case aF => exact (fun _ _ => trivial))
       (case aO => exact (by (with_reducible repeat (first | apply Kd.R_alloc | apply Kd.R_drewN | apply Kd.R_drew)); exact HO_6.out))
       (case aS => exact (below_size (by repeat (first | (with_reducible first | exact HB.out | apply below_alloc | apply pw_below_drewN | apply below_drew1) | exact HB.out))))
       (case aL => have := LMc7.out; omega)
       intro v277 w10 ho hb hg hat
       rw [← Ny276.out] at ho
       replace HO_4 := ak (Kd.R_over' (by (with_reducible repeat (first | apply Kd.R_alloc | apply Kd.R_drewN | apply Kd.R_drew)); exact HO_4.out) (Kd.R_typed (by (with_reducible repeat (first | apply Kd.R_alloc | apply Kd.R_drewN | apply Kd.R_drew)); exact HO_6.out)) (by decide) hg)
       replace HB := ak (hb)
       have HO278 := ak (ho)
       clear HO_6
       clear ho hb hg hat
       refine hK.out _ _ ?_
       clear hK K
       refine norm_ (a' := ?_) ?_ ?_
       rotate_left
       ·show Act.put _ (some 34) _ = _
        simp only [pz]
        rfl
       refine pu 14 6 (Go.ba 15 32767) (any_of HT_.out (by kernel_rfl)) ?_
       refine done_ (done_of HT_.out (by kernel_rfl)) ?_
       try go_wp2
       go_roundg k1
       case measure => have := HK1.out; omega
       case rel => exact ⟨(y276), (wrap64 (x7_1 + 1)), (by first | rfl | (simp; done) | (simp [*]; done)), H', ⟨by have := HK1.out; omega⟩, ⟨by (with_reducible repeat (first | apply Kd.R_alloc | apply Kd.R_drewN | apply Kd.R_drew)); exact HO_4.out⟩, ⟨by (with_reducible repeat (first | apply Kd.R_alloc | apply Kd.R_drewN | apply Kd.R_drew)); exact HO278.out⟩, ⟨by repeat (first | (with_reducible first | exact HB.out | apply below_alloc | apply pw_below_drewN | apply below_drew1) | exact HB.out)⟩⟩
      ·rw [if_neg c7] at H
       exact absurd H (by simp)
     ·rw [if_neg c6] at H
      exact absurd H (by simp)
    ·rw [if_neg c5] at H
     have c5b0 := decide_eq_false c5
     clear c5
     simp only [Option.some.injEq, Prod.mk.injEq] at H
     obtain ⟨rfl, rfl⟩ := H
     obtain ⟨Ao11, co11, eo11⟩ := Kd.R_slice HO_4.out
     subst eo11
     go_wp2
     go_ret2
     exact ⟨_, by first | rfl | (simp [errW_none, errW_some] <;> rfl) | (simp [*, errW_none, errW_some] <;> rfl), by (with_reducible repeat (first | apply Kd.R_alloc | apply Kd.R_drewN | apply Kd.R_drew)); exact HO_6.out, by repeat (first | (with_reducible first | exact HB.out | apply below_alloc | apply pw_below_drewN | apply below_drew1) | exact HB.out)⟩
 ·replace c3 := Bool.eq_false_iff.mpr c3
  subst c3
  have H1 : (some (([] : List (S62)), 1)) = some (r1, r2) := by rw [if_neg (show ¬ (false = true) by decide)] at H; exact H
  clear H
  have H := H1
  clear H1
  simp only [Option.some.injEq, Prod.mk.injEq] at H
  obtain ⟨rfl, rfl⟩ := H
  go_enter Try.func25, Try.ntmps25
  go_wp2_with (first | ((with_reducible refine gate_callee (f := 45) rfl ?_); refine goesL_ (some 10) rfl rfl Try.func45 (by kernel_rfl) rfl #[.slice A0 l0.length c0, .bool false] rfl (by (try simp only [List.map_toArray, List.map_cons, List.map_nil]); first | done | rfl | (simp only [List.length_drop, List.length_take]; rfl)) ?_; (with_reducible refine (payoffref03_sums.calls k _ _ l0 false t270 false _ ?side1 ?side2 A2.out).mono ?_); (case side1 => repeat (first | exact HR0.out | (with_reducible refine Kd.C_alloc ?_ _) | (with_reducible refine Kd.C_drewN ?_ _) | (with_reducible refine Kd.C_drew ?_))); (case side2 => exact HC0.out); rintro e w12 ⟨v272, rfl, ho0, hb⟩; refine ⟨_, rfl, ?_⟩; have HO273 := ak (Kd.R_lower ho0 (below_size (by repeat (first | (with_reducible first | exact HB.out | apply below_alloc | apply pw_below_drewN | apply below_drew1) | exact HB.out)))); replace HB := ak (below_step (by repeat (first | (with_reducible first | exact HB.out | apply below_alloc | apply pw_below_drewN | apply below_drew1) | exact HB.out)) hb); (try clear hb); (try clear hb2); (try clear hk); (try clear hi); (try clear ho0)))
  go_ret2
  exact ⟨_, by first | rfl | (simp [errW_none, errW_some] <;> rfl) | (simp [*, errW_none, errW_some] <;> rfl), by first | exact Kd.R_nil _ _ _ _ _ | exact Kd.N_nil _ _ _ _ _ | exact Kd.V_nil _ _ _ _ _ | exact Kd.Q_nil _ _ _ _ _ | exact Kd.S_nil _ _ _ _ _, by repeat (first | (with_reducible first | exact HB.out | apply below_alloc | apply pw_below_drewN | apply below_drew1) | exact HB.out)⟩
def payoffref03_Net.f (k : Nat) (l0 : List (S32)) : Option ((List (S32)) × Int) := (payoffref03_sums.f k l0 true).bind fun bt279 => (if bt279.2 = true then (some (bt279.1, 0)) else (some (([] : List (S32)), 1)))
theorem payoffref03_Net.mono : ∀ a0 k, LeO (payoffref03_Net.f k a0) (payoffref03_Net.f (k + 1) a0) := by
 intro a0 k
 unfold payoffref03_Net.f
 repeat' first
  | (with_reducible exact payoffref03_sums.mono _ _ _)
  | (with_reducible exact LeO.refl _)
  | (with_reducible exact LeO.none _)
  | (with_reducible refine LeO.ite ?_ ?_)
  | (with_reducible refine LeO.bind ?_ (fun _ => ?_))
  | exact payoffref03_sums.mono _ _ _
  | exact LeO.none _
  | refine LeO.ite ?_ ?_
  | refine LeO.bind ?_ (fun _ => ?_)
set_option maxHeartbeats 8000000 in
set_option maxRecDepth 100000 in
theorem payoffref03_Net.calls (k : Nat) (A0 : Option Addr) (c0 : Nat) (l0 : List (S32)) (r1 : List (S32)) (r2 : Int) (w : World) (hr0 : Kd.C k32 w A0 l0.length l0) (hc0 : l0.length ≤ c0) (h : payoffref03_Net.f k l0 = some (r1, r2)) :
  Calls Try.prog 29 #[.slice A0 l0.length c0] w fun e w' => ∃ v0_ : Value, e = .returned (.tuple #[v0_, .int .i64 r2]) ∧ Kd.R k32 32 w' w.heap.size (fun _ => True) v0_ r1 ∧ Below w.heap.size w w' := by
 have HR0 := ak hr0
 have HC0 := ak hc0
 clear hr0 hc0
 have HB := ak (Below.refl w.heap.size w)
 have H : ((payoffref03_sums.f k l0 true).bind fun bt279 => (if bt279.2 = true then (some (bt279.1, 0)) else (some (([] : List (S32)), 1)))) = some (r1, r2) := h
 clear h
 replace H := Option.bind_eq_some_iff.mp H
 obtain ⟨⟨t279, t280⟩, A20, H⟩ := H
 replace H : (if t280 = true then (some (t279, 0)) else (some (([] : List (S32)), 1))) = some (r1, r2) := H
 have A2 := ak A20
 clear A20
 by_cases c3 : t280 = true
 ·subst c3
  have H1 : (some (t279, 0)) = some (r1, r2) := by rw [if_pos rfl] at H; exact H
  clear H
  have H := H1
  clear H1
  simp only [Option.some.injEq, Prod.mk.injEq] at H
  obtain ⟨rfl, rfl⟩ := H
  go_enter Try.func29, Try.ntmps29
  go_wp2_with (first | ((with_reducible refine gate_callee (f := 45) rfl ?_); refine goesL_ (some 8) rfl rfl Try.func45 (by kernel_rfl) rfl #[.slice A0 l0.length c0, .bool true] rfl (by (try simp only [List.map_toArray, List.map_cons, List.map_nil]); first | done | rfl | (simp only [List.length_drop, List.length_take]; rfl)) ?_; (with_reducible refine (payoffref03_sums.calls k _ _ l0 true t279 true _ ?side1 ?side2 A2.out).mono ?_); (case side1 => repeat (first | exact HR0.out | (with_reducible refine Kd.C_alloc ?_ _) | (with_reducible refine Kd.C_drewN ?_ _) | (with_reducible refine Kd.C_drew ?_))); (case side2 => exact HC0.out); rintro e w4 ⟨v281, rfl, ho0, hb⟩; refine ⟨_, rfl, ?_⟩; have HO282 := ak (Kd.R_lower ho0 (below_size (by repeat (first | (with_reducible first | exact HB.out | apply below_alloc | apply pw_below_drewN | apply below_drew1) | exact HB.out)))); replace HB := ak (below_step (by repeat (first | (with_reducible first | exact HB.out | apply below_alloc | apply pw_below_drewN | apply below_drew1) | exact HB.out)) hb); (try clear hb); (try clear hb2); (try clear hk); (try clear hi); (try clear ho0)))
  go_ret2
  exact ⟨_, by first | rfl | (simp [errW_none, errW_some] <;> rfl) | (simp [*, errW_none, errW_some] <;> rfl), by (with_reducible repeat (first | apply Kd.R_alloc | apply Kd.R_drewN | apply Kd.R_drew)); exact HO282.out, by repeat (first | (with_reducible first | exact HB.out | apply below_alloc | apply pw_below_drewN | apply below_drew1) | exact HB.out)⟩
 ·replace c3 := Bool.eq_false_iff.mpr c3
  subst c3
  have H1 : (some (([] : List (S32)), 1)) = some (r1, r2) := by rw [if_neg (show ¬ (false = true) by decide)] at H; exact H
  clear H
  have H := H1
  clear H1
  simp only [Option.some.injEq, Prod.mk.injEq] at H
  obtain ⟨rfl, rfl⟩ := H
  go_enter Try.func29, Try.ntmps29
  go_wp2_with (first | ((with_reducible refine gate_callee (f := 45) rfl ?_); refine goesL_ (some 8) rfl rfl Try.func45 (by kernel_rfl) rfl #[.slice A0 l0.length c0, .bool true] rfl (by (try simp only [List.map_toArray, List.map_cons, List.map_nil]); first | done | rfl | (simp only [List.length_drop, List.length_take]; rfl)) ?_; (with_reducible refine (payoffref03_sums.calls k _ _ l0 true t279 false _ ?side1 ?side2 A2.out).mono ?_); (case side1 => repeat (first | exact HR0.out | (with_reducible refine Kd.C_alloc ?_ _) | (with_reducible refine Kd.C_drewN ?_ _) | (with_reducible refine Kd.C_drew ?_))); (case side2 => exact HC0.out); rintro e w5 ⟨v281, rfl, ho0, hb⟩; refine ⟨_, rfl, ?_⟩; have HO282 := ak (Kd.R_lower ho0 (below_size (by repeat (first | (with_reducible first | exact HB.out | apply below_alloc | apply pw_below_drewN | apply below_drew1) | exact HB.out)))); replace HB := ak (below_step (by repeat (first | (with_reducible first | exact HB.out | apply below_alloc | apply pw_below_drewN | apply below_drew1) | exact HB.out)) hb); (try clear hb); (try clear hb2); (try clear hk); (try clear hi); (try clear ho0)))
  go_ret2
  exact ⟨_, by first | rfl | (simp [errW_none, errW_some] <;> rfl) | (simp [*, errW_none, errW_some] <;> rfl), by first | exact Kd.R_nil _ _ _ _ _ | exact Kd.N_nil _ _ _ _ _ | exact Kd.V_nil _ _ _ _ _ | exact Kd.Q_nil _ _ _ _ _ | exact Kd.S_nil _ _ _ _ _, by repeat (first | (with_reducible first | exact HB.out | apply below_alloc | apply pw_below_drewN | apply below_drew1) | exact HB.out)⟩
end Go.Proofs.Ytdfndbegifdejaa.PFlowExact
end
