import Derived.Test.YtkfbkjcdngipcaaKinC
import Derived.Test.YtkfbkjcdngipcaaEqP
namespace Go.Proofs.Ytkfbkjcdngipcaa.PTreeEquals
open Go.RowKit Go.Proofs.YtkfbkjcdngipcaaW.PrintWords Go.Proofs.YtkfbkjcdngipcaaW.PrintLast Go.Proofs.YtkfbkjcdngipcaaW.PrintMore
attribute [local go_sem 5000] eqlD eqlR neqD neqR
attribute [local go_sem] max2_int min2_int max_two min_two max_three min_three max_four min_four
set_option linter.unusedVariables false
set_option linter.unusedSimpArgs false
theorem S54_ext {x y : S54} (h0 : x.f0 = y.f0) (h1 : x.f1 = y.f1) (h2 : x.f2 = y.f2) (h3 : x.f3 = y.f3) (h4 : x.f4 = y.f4) : x = y := by cases x; cases y; simp_all
set_option maxHeartbeats 8000000 in
set_option maxRecDepth 100000 in
theorem equalExpr.of (x y : S54) (hkl : EqLOK k54 36 35 x.f4 y.f4) : EqOK k54 35 x y := by
  intro cs ds w hK1 hK2
  obtain ⟨A3, A3c, A4, A4c, rfl, l3, g3, l4, g4⟩ := k54_open hK1
  obtain ⟨B3, B3c, B4, B4c, rfl, p3, q3, p4, q4⟩ := k54_open hK2
  have hu54 := Try.underlying54
  have L3 := Aside0.mk l3
  clear l3
  have G3 := Aside0.mk g3
  clear g3
  have L4 := Aside0.mk l4
  clear l4
  have G4 := Aside0.mk g4
  clear g4
  have P3 := Aside0.mk p3
  clear p3
  have Q3 := Aside0.mk q3
  clear q3
  have P4 := Aside0.mk p4
  clear p4
  have Q4 := Aside0.mk q4
  clear q4
  have HKL := Aside0.mk hkl
  clear hkl
  clear hK1 hK2
  have HB := Aside0.mk (Below.refl w.heap.size w)
  refine (Classical.em (x.f0 = y.f0)).elim (fun h0 => ?_) (fun h0 => ?_)
  rotate_left
  have ct0 : (x.f0 == y.f0) = false := beq_eq_false_iff_ne.mpr h0
  have cn0 : (x.f0 != y.f0) = true := bne_iff_ne.mpr h0
  have hsm : sm x y = false := sm_false (fun e => h0 (by rw [e]))
  clear h0
  rotate_right
  have ct0 : (x.f0 == y.f0) = true := beq_iff_eq.mpr h0
  have cn0 : (x.f0 != y.f0) = false := bne_eq_false_iff_eq.mpr h0
  have H0 := Aside0.mk h0
  clear h0
  refine (Classical.em (x.f1 = y.f1)).elim (fun h1 => ?_) (fun h1 => ?_)
  rotate_left
  have ct1 : (x.f1 == y.f1) = false := beq_eq_false_iff_ne.mpr h1
  have cn1 : (x.f1 != y.f1) = true := bne_iff_ne.mpr h1
  have hsm : sm x y = false := sm_false (fun e => h1 (by rw [e]))
  clear h1
  rotate_right
  have ct1 : (x.f1 == y.f1) = true := beq_iff_eq.mpr h1
  have cn1 : (x.f1 != y.f1) = false := bne_eq_false_iff_eq.mpr h1
  have H1 := Aside0.mk h1
  clear h1
  refine (Classical.em (x.f2 = y.f2)).elim (fun h2 => ?_) (fun h2 => ?_)
  rotate_left
  have ct2 : (x.f2.toList == y.f2.toList) = false := beq_eq_false_iff_ne.mpr (fun e => h2 ((toList_iff _ _).1 e))
  have cn2 : (x.f2.toList != y.f2.toList) = true := bne_iff_ne.mpr (fun e => h2 ((toList_iff _ _).1 e))
  have hsm : sm x y = false := sm_false (fun e => h2 (by rw [e]))
  clear h2
  rotate_right
  have ct2 : (x.f2.toList == y.f2.toList) = true := beq_iff_eq.mpr (by rw [h2])
  have cn2 : (x.f2.toList != y.f2.toList) = false := bne_eq_false_iff_eq.mpr (by rw [h2])
  have H2 := Aside0.mk h2
  clear h2
  refine (Classical.em (x.f3 = y.f3)).elim (fun h3 => ?_) (fun h3 => ?_)
  rotate_left
  have ct3 : sm x.f3 y.f3 = false := sm_false h3
  have hsm : sm x y = false := sm_false (fun e => h3 (by rw [e]))
  clear h3
  rotate_right
  have ct3 : sm x.f3 y.f3 = true := sm_true h3
  have H3 := Aside0.mk h3
  clear h3
  refine (Classical.em (x.f4 = y.f4)).elim (fun h4 => ?_) (fun h4 => ?_)
  rotate_left
  have ct4 : sm x.f4 y.f4 = false := sm_false h4
  have hsm : sm x y = false := sm_false (fun e => h4 (by rw [e]))
  clear h4
  rotate_right
  have ct4 : sm x.f4 y.f4 = true := sm_true h4
  have H4 := Aside0.mk h4
  clear h4
  have hsm : sm x y = true := sm_true (S54_ext H0.out H1.out H2.out H3.out H4.out)
  all_goals
    go_enter Try.func35, Try.ntmps35
    go_wp2_with (first | ((with_reducible refine gate_dst (N := 2) rfl ?_); (try (refine gate_guard (by rfl) ?_; dsimp only)); refine box_event ?hg (N := 2) ?hd (cs := #[.int .i64 x.f0, .int .i64 x.f1, .string x.f2, .slice A3 x.f3.length A3c, .slice A4 x.f4.length A4c]) (t := 54) ?hr ?_; (case hd => rfl); (case hg => rfl); (case hr => first | (go_simp; done) | (go_simp; rfl)); intro g1 hg wv1_ hbox hb; have n0_ := Aside0.mk (below_step HB.out hb); have n1_ := Aside0.mk (hbox); have n2_ := Aside0.mk ((show w.heap.size ≤ g1 by rw [hg]; exact below_size HB.out)); clear HB; have HB := n0_; have BK1 := n1_; have ORD := n2_; clear n0_ n1_ n2_; clear hb hbox hg) | ((with_reducible refine gate_dst (N := 3) rfl ?_); (try (refine gate_guard (by rfl) ?_; dsimp only)); refine box_event ?hg (N := 3) ?hd (cs := #[.int .i64 y.f0, .int .i64 y.f1, .string y.f2, .slice B3 y.f3.length B3c, .slice B4 y.f4.length B4c]) (t := 54) ?hr ?_; (case hd => rfl); (case hg => rfl); (case hr => first | (go_simp; done) | (go_simp; rfl)); intro g2 hg wv2_ hbox hb; have n0_ := Aside0.mk (below_step HB.out hb); have n1_ := Aside0.mk (blk_below BK1.out hb); have n2_ := Aside0.mk (hbox); have n3_ := Aside0.mk (And.intro ORD.out (show g1 < g2 by rw [hg]; exact blk_lt BK1.out)); clear HB BK1 ORD; have HB := n0_; have BK1 := n1_; have BK2 := n2_; have ORD := n3_; clear n0_ n1_ n2_ n3_; clear hb hbox hg) | ((with_reducible refine gate_dst (N := 6) rfl ?_); (try (refine gate_guard (by rfl) ?_; dsimp only)); refine ld_event rfl rfl (by first | rfl | (go_simp; done) | (go_simp; rfl)) Try.underlying3 trivial (.int .i64 x.f0) ((blk_cell BK1.out 0).trans rfl) ?_) | ((with_reducible refine gate_dst (N := 8) rfl ?_); (try (refine gate_guard (by rfl) ?_; dsimp only)); refine ld_event rfl rfl (by first | rfl | (go_simp; done) | (go_simp; rfl)) Try.underlying3 trivial (.int .i64 y.f0) ((blk_cell BK2.out 0).trans rfl) ?_) | ((with_reducible refine gate_dst (N := 12) rfl ?_); (try (refine gate_guard (by rfl) ?_; dsimp only)); refine ld_event rfl rfl (by first | rfl | (go_simp; done) | (go_simp; rfl)) Try.underlying3 trivial (.int .i64 x.f1) ((blk_cell BK1.out 1).trans rfl) ?_) | ((with_reducible refine gate_dst (N := 14) rfl ?_); (try (refine gate_guard (by rfl) ?_; dsimp only)); refine ld_event rfl rfl (by first | rfl | (go_simp; done) | (go_simp; rfl)) Try.underlying3 trivial (.int .i64 y.f1) ((blk_cell BK2.out 1).trans rfl) ?_) | ((with_reducible refine gate_dst (N := 19) rfl ?_); (try (refine gate_guard (by rfl) ?_; dsimp only)); refine ld_event rfl rfl (by first | rfl | (go_simp; done) | (go_simp; rfl)) Try.underlying9 trivial (.string x.f2) ((blk_cell BK1.out 2).trans rfl) ?_) | ((with_reducible refine gate_dst (N := 21) rfl ?_); (try (refine gate_guard (by rfl) ?_; dsimp only)); refine ld_event rfl rfl (by first | rfl | (go_simp; done) | (go_simp; rfl)) Try.underlying9 trivial (.string y.f2) ((blk_cell BK2.out 2).trans rfl) ?_) | ((with_reducible refine gate_dst (N := 26) rfl ?_); (try (refine gate_guard (by rfl) ?_; dsimp only)); refine ld_event rfl rfl (by first | rfl | (go_simp; done) | (go_simp; rfl)) Try.underlying24 trivial (.slice A3 x.f3.length A3c) ((blk_cell BK1.out 3).trans rfl) ?_) | ((with_reducible refine gate_dst (N := 28) rfl ?_); (try (refine gate_guard (by rfl) ?_; dsimp only)); refine ld_event rfl rfl (by first | rfl | (go_simp; done) | (go_simp; rfl)) Try.underlying24 trivial (.slice B3 y.f3.length B3c) ((blk_cell BK2.out 3).trans rfl) ?_) | ((with_reducible refine gate_dst (N := 33) rfl ?_); (try (refine gate_guard (by rfl) ?_; dsimp only)); refine ld_event rfl rfl (by first | rfl | (go_simp; done) | (go_simp; rfl)) Try.underlying31 trivial (.slice A4 x.f4.length A4c) ((blk_cell BK1.out 4).trans rfl) ?_) | ((with_reducible refine gate_dst (N := 35) rfl ?_); (try (refine gate_guard (by rfl) ?_; dsimp only)); refine ld_event rfl rfl (by first | rfl | (go_simp; done) | (go_simp; rfl)) Try.underlying31 trivial (.slice B4 y.f4.length B4c) ((blk_cell BK2.out 4).trans rfl) ?_) | ((with_reducible refine gate_callee (f := 22) rfl ?_); (try (refine gate_guard (by rfl) ?_; dsimp only)); refine goesL_ (some 29) rfl rfl Try.func22 (by kernel_rfl) rfl #[.slice A3 x.f3.length A3c, .slice B3 y.f3.length B3c] rfl (by (try simp only [List.map_toArray, List.map_cons, List.map_nil]); first | done | rfl) ?_; (with_reducible refine (datesEq.calls A3 A3c x.f3 B3 B3c y.f3 _ (Kd.C_below G3.out HB.out) L3.out (Kd.C_below Q3.out HB.out) P3.out).mono ?_); rintro e wv3_ ⟨rfl, hb⟩; refine ⟨_, rfl, ?_⟩; have n0_ := Aside0.mk (below_step HB.out hb); have n1_ := Aside0.mk (blk_below BK1.out hb); have n2_ := Aside0.mk (blk_below BK2.out hb); clear HB BK1 BK2; have HB := n0_; have BK1 := n1_; have BK2 := n2_; clear n0_ n1_ n2_; clear hb) | ((with_reducible refine gate_callee (f := 36) rfl ?_); (try (refine gate_guard (by rfl) ?_; dsimp only)); refine goesL_ (some 36) rfl rfl Try.func36 (by kernel_rfl) rfl #[.slice A4 x.f4.length A4c, .slice B4 y.f4.length B4c, .func (.func 35) #[] #[]] rfl (by (try simp only [List.map_toArray, List.map_cons, List.map_nil]); first | done | rfl) ?_; (with_reducible refine (EqLOK.calls HKL.out A4 A4c B4 B4c _ (Kd.C_below G4.out HB.out) (Kd.C_below Q4.out HB.out)).mono ?_); rintro e wv4_ ⟨rfl, hb⟩; refine ⟨_, rfl, ?_⟩; have n0_ := Aside0.mk (below_step HB.out hb); have n1_ := Aside0.mk (blk_below BK1.out hb); have n2_ := Aside0.mk (blk_below BK2.out hb); clear HB BK1 BK2; have HB := n0_; have BK1 := n1_; have BK2 := n2_; clear n0_ n1_ n2_; clear hb))
    go_ret
    exact ⟨by rw [hsm]; rfl, HB.out⟩
theorem equalExprs.lt : ∀ (n : Nat) (l m : List S54), S54.wts l < n → EqLOK k54 36 35 l m := by
  intro n
  induction n with
  | zero => intro l m h; omega
  | succ n ih =>
    intro l m h
    refine eqFunc36.of l m (fun x hx y hy => equalExpr.of x y (ih x.f4 y.f4 ?_))
    have h1 := S54.wt_le hx
    have h2 := S54.wt_eq x
    omega
theorem equalExprs.all (l m : List S54) : EqLOK k54 36 35 l m := equalExprs.lt _ l m (Nat.lt_succ_self _)
theorem equalExpr.all (x y : S54) : EqOK k54 35 x y := equalExpr.of x y (equalExprs.all _ _)
theorem S56_ext {x y : S56} (h0 : x.f0 = y.f0) (h1 : x.f1 = y.f1) (h2 : x.f2 = y.f2) : x = y := by cases x; cases y; simp_all
set_option maxHeartbeats 8000000 in
set_option maxRecDepth 100000 in
theorem equalDef.all (x y : S56) : EqOK k56 25 x y := by
  intro cs ds w hK1 hK2
  obtain ⟨A1, A1c, A5, A5c, A6, A6c, rfl, l1, g1, l5, g5, l6, g6⟩ := k56_open hK1
  obtain ⟨B1, B1c, B5, B5c, B6, B6c, rfl, p1, q1, p5, q5, p6, q6⟩ := k56_open hK2
  have hu54 := Try.underlying54
  have hu56 := Try.underlying56
  have L1 := Aside0.mk l1
  clear l1
  have G1 := Aside0.mk g1
  clear g1
  have L5 := Aside0.mk l5
  clear l5
  have G5 := Aside0.mk g5
  clear g5
  have L6 := Aside0.mk l6
  clear l6
  have G6 := Aside0.mk g6
  clear g6
  have P1 := Aside0.mk p1
  clear p1
  have Q1 := Aside0.mk q1
  clear q1
  have P5 := Aside0.mk p5
  clear p5
  have Q5 := Aside0.mk q5
  clear q5
  have P6 := Aside0.mk p6
  clear p6
  have Q6 := Aside0.mk q6
  clear q6
  clear hK1 hK2
  have HB := Aside0.mk (Below.refl w.heap.size w)
  refine (Classical.em (x.f0 = y.f0)).elim (fun h0 => ?_) (fun h0 => ?_)
  rotate_left
  have ct0 : (x.f0.toList == y.f0.toList) = false := beq_eq_false_iff_ne.mpr (fun e => h0 ((toList_iff _ _).1 e))
  have cn0 : (x.f0.toList != y.f0.toList) = true := bne_iff_ne.mpr (fun e => h0 ((toList_iff _ _).1 e))
  have hsm : sm x y = false := sm_false (fun e => h0 (by rw [e]))
  clear h0
  rotate_right
  have ct0 : (x.f0.toList == y.f0.toList) = true := beq_iff_eq.mpr (by rw [h0])
  have cn0 : (x.f0.toList != y.f0.toList) = false := bne_eq_false_iff_eq.mpr (by rw [h0])
  have H0 := Aside0.mk h0
  clear h0
  refine (Classical.em (x.f1 = y.f1)).elim (fun h1 => ?_) (fun h1 => ?_)
  rotate_left
  have ct1 : sm x.f1 y.f1 = false := sm_false h1
  have hsm : sm x y = false := sm_false (fun e => h1 (by rw [e]))
  clear h1
  rotate_right
  have ct1 : sm x.f1 y.f1 = true := sm_true h1
  have H1 := Aside0.mk h1
  clear h1
  refine (Classical.em (x.f2 = y.f2)).elim (fun h2 => ?_) (fun h2 => ?_)
  rotate_left
  have ct2 : sm x.f2 y.f2 = false := sm_false h2
  have hsm : sm x y = false := sm_false (fun e => h2 (by rw [e]))
  clear h2
  rotate_right
  have ct2 : sm x.f2 y.f2 = true := sm_true h2
  have H2 := Aside0.mk h2
  clear h2
  have hsm : sm x y = true := sm_true (S56_ext H0.out H1.out H2.out)
  all_goals
    go_enter Try.func25, Try.ntmps25
    go_wp2_with (first | ((with_reducible refine gate_dst (N := 2) rfl ?_); (try (refine gate_guard (by rfl) ?_; dsimp only)); refine box_event ?hg (N := 2) ?hd (cs := #[.string x.f0, .slice A1 x.f1.length A1c, .int .i64 x.f2.f0, .int .i64 x.f2.f1, .string x.f2.f2, .slice A5 x.f2.f3.length A5c, .slice A6 x.f2.f4.length A6c]) (t := 56) ?hr ?_; (case hd => rfl); (case hg => rfl); (case hr => first | (go_simp; done) | (go_simp; rfl)); intro g1 hg wv1_ hbox hb; have n0_ := Aside0.mk (below_step HB.out hb); have n1_ := Aside0.mk (hbox); have n2_ := Aside0.mk ((show w.heap.size ≤ g1 by rw [hg]; exact below_size HB.out)); clear HB; have HB := n0_; have BK1 := n1_; have ORD := n2_; clear n0_ n1_ n2_; clear hb hbox hg) | ((with_reducible refine gate_dst (N := 3) rfl ?_); (try (refine gate_guard (by rfl) ?_; dsimp only)); refine box_event ?hg (N := 3) ?hd (cs := #[.string y.f0, .slice B1 y.f1.length B1c, .int .i64 y.f2.f0, .int .i64 y.f2.f1, .string y.f2.f2, .slice B5 y.f2.f3.length B5c, .slice B6 y.f2.f4.length B6c]) (t := 56) ?hr ?_; (case hd => rfl); (case hg => rfl); (case hr => first | (go_simp; done) | (go_simp; rfl)); intro g2 hg wv2_ hbox hb; have n0_ := Aside0.mk (below_step HB.out hb); have n1_ := Aside0.mk (blk_below BK1.out hb); have n2_ := Aside0.mk (hbox); have n3_ := Aside0.mk (And.intro ORD.out (show g1 < g2 by rw [hg]; exact blk_lt BK1.out)); clear HB BK1 ORD; have HB := n0_; have BK1 := n1_; have BK2 := n2_; have ORD := n3_; clear n0_ n1_ n2_ n3_; clear hb hbox hg) | ((with_reducible refine gate_dst (N := 6) rfl ?_); (try (refine gate_guard (by rfl) ?_; dsimp only)); refine ld_event rfl rfl (by first | rfl | (go_simp; done) | (go_simp; rfl)) Try.underlying9 trivial (.string x.f0) ((blk_cell BK1.out 0).trans rfl) ?_) | ((with_reducible refine gate_dst (N := 8) rfl ?_); (try (refine gate_guard (by rfl) ?_; dsimp only)); refine ld_event rfl rfl (by first | rfl | (go_simp; done) | (go_simp; rfl)) Try.underlying9 trivial (.string y.f0) ((blk_cell BK2.out 0).trans rfl) ?_) | ((with_reducible refine gate_dst (N := 12) rfl ?_); (try (refine gate_guard (by rfl) ?_; dsimp only)); refine ld_event rfl rfl (by first | rfl | (go_simp; done) | (go_simp; rfl)) Try.underlying25 trivial (.slice A1 x.f1.length A1c) ((blk_cell BK1.out 1).trans rfl) ?_) | ((with_reducible refine gate_dst (N := 14) rfl ?_); (try (refine gate_guard (by rfl) ?_; dsimp only)); refine ld_event rfl rfl (by first | rfl | (go_simp; done) | (go_simp; rfl)) Try.underlying25 trivial (.slice B1 y.f1.length B1c) ((blk_cell BK2.out 1).trans rfl) ?_) | ((with_reducible refine gate_dst (N := 19) rfl ?_); (try (refine gate_guard (by rfl) ?_; dsimp only)); refine ldb_event rfl rfl (by first | rfl | (go_simp; done) | (go_simp; rfl)) Try.underlying54 ⟨_, rfl⟩ BK1.out 5 size54 [.int .i64 x.f2.f0, .int .i64 x.f2.f1, .string x.f2.f2, .slice A5 x.f2.f3.length A5c, .slice A6 x.f2.f4.length A6c] rfl rfl ?_) | ((with_reducible refine gate_dst (N := 21) rfl ?_); (try (refine gate_guard (by rfl) ?_; dsimp only)); refine ldb_event rfl rfl (by first | rfl | (go_simp; done) | (go_simp; rfl)) Try.underlying54 ⟨_, rfl⟩ BK2.out 5 size54 [.int .i64 y.f2.f0, .int .i64 y.f2.f1, .string y.f2.f2, .slice B5 y.f2.f3.length B5c, .slice B6 y.f2.f4.length B6c] rfl rfl ?_) | ((with_reducible refine gate_callee (f := 23) rfl ?_); (try (refine gate_guard (by rfl) ?_; dsimp only)); refine goesL_ (some 15) rfl rfl Try.func23 (by kernel_rfl) rfl #[.slice A1 x.f1.length A1c, .slice B1 y.f1.length B1c] rfl (by (try simp only [List.map_toArray, List.map_cons, List.map_nil]); first | done | rfl) ?_; (with_reducible refine (textsEq.calls A1 A1c x.f1 B1 B1c y.f1 _ (Kd.C_below G1.out HB.out) L1.out (Kd.C_below Q1.out HB.out) P1.out).mono ?_); rintro e wv3_ ⟨rfl, hb⟩; refine ⟨_, rfl, ?_⟩; have n0_ := Aside0.mk (below_step HB.out hb); have n1_ := Aside0.mk (blk_below BK1.out hb); have n2_ := Aside0.mk (blk_below BK2.out hb); clear HB BK1 BK2; have HB := n0_; have BK1 := n1_; have BK2 := n2_; clear n0_ n1_ n2_; clear hb) | ((with_reducible refine gate_callee (f := 35) rfl ?_); (try (refine gate_guard (by rfl) ?_; dsimp only)); refine goesL_ (some 22) rfl rfl Try.func35 (by kernel_rfl) rfl #[.agg #[.int .i64 x.f2.f0, .int .i64 x.f2.f1, .string x.f2.f2, .slice A5 x.f2.f3.length A5c, .slice A6 x.f2.f4.length A6c], .agg #[.int .i64 y.f2.f0, .int .i64 y.f2.f1, .string y.f2.f2, .slice B5 y.f2.f3.length B5c, .slice B6 y.f2.f4.length B6c]] rfl (by (try simp only [List.map_toArray, List.map_cons, List.map_nil]); first | done | rfl) ?_; (with_reducible refine (EqOK.calls (equalExpr.all x.f2 y.f2) [.int .i64 x.f2.f0, .int .i64 x.f2.f1, .string x.f2.f2, .slice A5 x.f2.f3.length A5c, .slice A6 x.f2.f4.length A6c] [.int .i64 y.f2.f0, .int .i64 y.f2.f1, .string y.f2.f2, .slice B5 y.f2.f3.length B5c, .slice B6 y.f2.f4.length B6c] _ (k54_mk _ x.f2 L5.out (Kd.C_below G5.out HB.out) L6.out (Kd.C_below G6.out HB.out)) (k54_mk _ y.f2 P5.out (Kd.C_below Q5.out HB.out) P6.out (Kd.C_below Q6.out HB.out))).mono ?_); rintro e wv4_ ⟨rfl, hb⟩; refine ⟨_, rfl, ?_⟩; have n0_ := Aside0.mk (below_step HB.out hb); have n1_ := Aside0.mk (blk_below BK1.out hb); have n2_ := Aside0.mk (blk_below BK2.out hb); clear HB BK1 BK2; have HB := n0_; have BK1 := n1_; have BK2 := n2_; clear n0_ n1_ n2_; clear hb))
    go_ret
    exact ⟨by rw [hsm]; rfl, HB.out⟩
end Go.Proofs.Ytkfbkjcdngipcaa.PTreeEquals
