import Derived.Test.YtkfbkjcdngipcaaKinC
import Derived.Test.YtkfbkjcdngipcaaEq3
namespace Go.Proofs.Ytkfbkjcdngipcaa.PTreeEquals
open Go.RowKit Go.Proofs.YtkfbkjcdngipcaaW.PrintWords Go.Proofs.YtkfbkjcdngipcaaW.PrintLast Go.Proofs.YtkfbkjcdngipcaaW.PrintMore
attribute [local go_sem 5000] eqlD eqlR neqD neqR
attribute [local go_sem] max2_int min2_int max_two min_two max_three min_three max_four min_four
set_option linter.unusedVariables false
set_option linter.unusedSimpArgs false
theorem equalDefs.all (l m : List S56) : EqLOK k56 24 25 l m := eqFunc24.of l m (fun x _ y _ => equalDef.all x y)
set_option maxHeartbeats 16000000 in
set_option maxRecDepth 100000 in
theorem tree_Equal.all (x y : S36) : EqOK k36 7 x y := by
  intro cs ds w hK1 hK2
  obtain ⟨A2, A2c, A3, A3c, A4, A4c, A7, A7c, A8, A8c, rfl, l2, g2, l3, g3, l4, g4, l7, g7, l8, g8⟩ := k36_open hK1
  obtain ⟨B2, B2c, B3, B3c, B4, B4c, B7, B7c, B8, B8c, rfl, p2, q2, p3, q3, p4, q4, p7, q7, p8, q8⟩ := k36_open hK2
  have hu36 := Try.underlying36
  have hu34 := Try.underlying34
  have hu23 := Try.underlying23
  have hu30 := Try.underlying30
  have hu28 := Try.underlying28
  have hu56 := Try.underlying56
  have L2 := Aside0.mk l2
  clear l2
  have G2 := Aside0.mk g2
  clear g2
  have L3 := Aside0.mk l3
  clear l3
  have G3 := Aside0.mk g3
  clear g3
  have L4 := Aside0.mk l4
  clear l4
  have G4 := Aside0.mk g4
  clear g4
  have L7 := Aside0.mk l7
  clear l7
  have G7 := Aside0.mk g7
  clear g7
  have L8 := Aside0.mk l8
  clear l8
  have G8 := Aside0.mk g8
  clear g8
  have P2 := Aside0.mk p2
  clear p2
  have Q2 := Aside0.mk q2
  clear q2
  have P3 := Aside0.mk p3
  clear p3
  have Q3 := Aside0.mk q3
  clear q3
  have P4 := Aside0.mk p4
  clear p4
  have Q4 := Aside0.mk q4
  clear q4
  have P7 := Aside0.mk p7
  clear p7
  have Q7 := Aside0.mk q7
  clear q7
  have P8 := Aside0.mk p8
  clear p8
  have Q8 := Aside0.mk q8
  clear q8
  clear hK1 hK2
  have HB := Aside0.mk (Below.refl w.heap.size w)
  refine (Classical.em (x.f0 = y.f0)).elim (fun h0 => ?_) (fun h0 => ?_)
  rotate_left
  have ct0 : (x.f0.toList == y.f0.toList) = false := beq_eq_false_iff_ne.mpr (fun e => h0 ((toList_iff _ _).1 e))
  have cn0 : (x.f0.toList != y.f0.toList) = true := bne_iff_ne.mpr (fun e => h0 ((toList_iff _ _).1 e))
  have hsm : sm x y = false := sm_false (fun e => h0 (by rw [e]))
  clear h0
  rotate_right
  have ct0 : (x.f0.toList == y.f0.toList) = true := beq_iff_eq.mpr (by rw [h0])
  have cn0 : (x.f0.toList != y.f0.toList) = false := bne_eq_false_iff_eq.mpr (by rw [h0])
  have H0 := Aside0.mk h0
  clear h0
  refine (Classical.em (x.f1 = y.f1)).elim (fun h1 => ?_) (fun h1 => ?_)
  rotate_left
  have ct1 : sm x.f1 y.f1 = false := sm_false h1
  have hsm : sm x y = false := sm_false (fun e => h1 (by rw [e]))
  clear h1
  rotate_right
  have ct1 : sm x.f1 y.f1 = true := sm_true h1
  have H1 := Aside0.mk h1
  clear h1
  refine (Classical.em (x.f2 = y.f2)).elim (fun h2 => ?_) (fun h2 => ?_)
  rotate_left
  have ct2 : sm x.f2 y.f2 = false := sm_false h2
  have hsm : sm x y = false := sm_false (fun e => h2 (by rw [e]))
  clear h2
  rotate_right
  have ct2 : sm x.f2 y.f2 = true := sm_true h2
  have H2 := Aside0.mk h2
  clear h2
  refine (Classical.em (x.f3 = y.f3)).elim (fun h3 => ?_) (fun h3 => ?_)
  rotate_left
  have ct3 : sm x.f3 y.f3 = false := sm_false h3
  have hsm : sm x y = false := sm_false (fun e => h3 (by rw [e]))
  clear h3
  rotate_right
  have ct3 : sm x.f3 y.f3 = true := sm_true h3
  have H3 := Aside0.mk h3
  clear h3
  refine (Classical.em (x.f4 = y.f4)).elim (fun h4 => ?_) (fun h4 => ?_)
  rotate_left
  have ct4 : sm x.f4 y.f4 = false := sm_false h4
  have hsm : sm x y = false := sm_false (fun e => h4 (by rw [e]))
  clear h4
  rotate_right
  have ct4 : sm x.f4 y.f4 = true := sm_true h4
  have H4 := Aside0.mk h4
  clear h4
  refine (Classical.em (x.f5 = y.f5)).elim (fun h5 => ?_) (fun h5 => ?_)
  rotate_left
  have ct5 : sm x.f5 y.f5 = false := sm_false h5
  have hsm : sm x y = false := sm_false (fun e => h5 (by rw [e]))
  clear h5
  rotate_right
  have ct5 : sm x.f5 y.f5 = true := sm_true h5
  have H5 := Aside0.mk h5
  clear h5
  have hsm : sm x y = true := sm_true (S36_ext H0.out H1.out H2.out H3.out H4.out H5.out)
  all_goals
    go_enter Try.func7, Try.ntmps7
    go_wp2_with (first | ((with_reducible refine gate_dst (N := 2) rfl ?_); (try (refine gate_guard (by rfl) ?_; dsimp only)); refine box_event ?hg (N := 2) ?hd (cs := #[.string x.f0, .int .i64 x.f1.f0, .int .i64 x.f1.f1, .int .i64 x.f1.f2, .slice A2 x.f2.length A2c, .slice A3 x.f3.length A3c, .slice A4 x.f4.length A4c, .int .i64 x.f5.f0, .string x.f5.f1, .string x.f5.f2, .string x.f5.f3, .int .i64 x.f5.f4, .int .i64 x.f5.f5.f0, .int .i64 x.f5.f5.f1, .int .i64 x.f5.f5.f2, .int .i64 x.f5.f6.f0, .int .i64 x.f5.f6.f1, .int .i64 x.f5.f6.f2, .int .i64 x.f5.f6.f3, .int .i64 x.f5.f6.f4.f0, .int .i64 x.f5.f6.f4.f1, .int .i64 x.f5.f6.f4.f2, .int .i64 x.f5.f6.f5.f0, .int .i64 x.f5.f6.f5.f1, .int .i64 x.f5.f6.f5.f2, .int .i64 x.f5.f6.f6.f0, .int .i64 x.f5.f6.f6.f1, .int .i64 x.f5.f6.f7, .slice A7 x.f5.f7.length A7c, .slice A8 x.f5.f8.length A8c]) (t := 36) ?hr ?_; (case hd => rfl); (case hg => rfl); (case hr => first | (go_simp; done) | (go_simp; rfl)); intro g1 hg wv1_ hbox hb; have n0_ := Aside0.mk (below_step HB.out hb); have n1_ := Aside0.mk (hbox); have n2_ := Aside0.mk ((show w.heap.size ≤ g1 by rw [hg]; exact below_size HB.out)); clear HB; have HB := n0_; have BK1 := n1_; have ORD := n2_; clear n0_ n1_ n2_; clear hb hbox hg) | ((with_reducible refine gate_dst (N := 3) rfl ?_); (try (refine gate_guard (by rfl) ?_; dsimp only)); refine box_event ?hg (N := 3) ?hd (cs := #[.string y.f0, .int .i64 y.f1.f0, .int .i64 y.f1.f1, .int .i64 y.f1.f2, .slice B2 y.f2.length B2c, .slice B3 y.f3.length B3c, .slice B4 y.f4.length B4c, .int .i64 y.f5.f0, .string y.f5.f1, .string y.f5.f2, .string y.f5.f3, .int .i64 y.f5.f4, .int .i64 y.f5.f5.f0, .int .i64 y.f5.f5.f1, .int .i64 y.f5.f5.f2, .int .i64 y.f5.f6.f0, .int .i64 y.f5.f6.f1, .int .i64 y.f5.f6.f2, .int .i64 y.f5.f6.f3, .int .i64 y.f5.f6.f4.f0, .int .i64 y.f5.f6.f4.f1, .int .i64 y.f5.f6.f4.f2, .int .i64 y.f5.f6.f5.f0, .int .i64 y.f5.f6.f5.f1, .int .i64 y.f5.f6.f5.f2, .int .i64 y.f5.f6.f6.f0, .int .i64 y.f5.f6.f6.f1, .int .i64 y.f5.f6.f7, .slice B7 y.f5.f7.length B7c, .slice B8 y.f5.f8.length B8c]) (t := 36) ?hr ?_; (case hd => rfl); (case hg => rfl); (case hr => first | (go_simp; done) | (go_simp; rfl)); intro g2 hg wv2_ hbox hb; have n0_ := Aside0.mk (below_step HB.out hb); have n1_ := Aside0.mk (blk_below BK1.out hb); have n2_ := Aside0.mk (hbox); have n3_ := Aside0.mk (And.intro ORD.out (show g1 < g2 by rw [hg]; exact blk_lt BK1.out)); clear HB BK1 ORD; have HB := n0_; have BK1 := n1_; have BK2 := n2_; have ORD := n3_; clear n0_ n1_ n2_ n3_; clear hb hbox hg) | ((with_reducible refine gate_dst (N := 6) rfl ?_); (try (refine gate_guard (by rfl) ?_; dsimp only)); refine ld_event rfl rfl (by first | rfl | (go_simp; done) | (go_simp; rfl)) Try.underlying9 trivial (.string x.f0) ((blk_cell BK1.out 0).trans rfl) ?_) | ((with_reducible refine gate_dst (N := 8) rfl ?_); (try (refine gate_guard (by rfl) ?_; dsimp only)); refine ld_event rfl rfl (by first | rfl | (go_simp; done) | (go_simp; rfl)) Try.underlying9 trivial (.string y.f0) ((blk_cell BK2.out 0).trans rfl) ?_) | ((with_reducible refine gate_dst (N := 19) rfl ?_); (try (refine gate_guard (by rfl) ?_; dsimp only)); refine ld_event rfl rfl (by first | rfl | (go_simp; done) | (go_simp; rfl)) Try.underlying24 trivial (.slice A2 x.f2.length A2c) ((blk_cell BK1.out 4).trans rfl) ?_) | ((with_reducible refine gate_dst (N := 21) rfl ?_); (try (refine gate_guard (by rfl) ?_; dsimp only)); refine ld_event rfl rfl (by first | rfl | (go_simp; done) | (go_simp; rfl)) Try.underlying24 trivial (.slice B2 y.f2.length B2c) ((blk_cell BK2.out 4).trans rfl) ?_) | ((with_reducible refine gate_dst (N := 26) rfl ?_); (try (refine gate_guard (by rfl) ?_; dsimp only)); refine ld_event rfl rfl (by first | rfl | (go_simp; done) | (go_simp; rfl)) Try.underlying25 trivial (.slice A3 x.f3.length A3c) ((blk_cell BK1.out 5).trans rfl) ?_) | ((with_reducible refine gate_dst (N := 28) rfl ?_); (try (refine gate_guard (by rfl) ?_; dsimp only)); refine ld_event rfl rfl (by first | rfl | (go_simp; done) | (go_simp; rfl)) Try.underlying25 trivial (.slice B3 y.f3.length B3c) ((blk_cell BK2.out 5).trans rfl) ?_) | ((with_reducible refine gate_dst (N := 33) rfl ?_); (try (refine gate_guard (by rfl) ?_; dsimp only)); refine ld_event rfl rfl (by first | rfl | (go_simp; done) | (go_simp; rfl)) Try.underlying26 trivial (.slice A4 x.f4.length A4c) ((blk_cell BK1.out 6).trans rfl) ?_) | ((with_reducible refine gate_dst (N := 35) rfl ?_); (try (refine gate_guard (by rfl) ?_; dsimp only)); refine ld_event rfl rfl (by first | rfl | (go_simp; done) | (go_simp; rfl)) Try.underlying26 trivial (.slice B4 y.f4.length B4c) ((blk_cell BK2.out 6).trans rfl) ?_) | ((with_reducible refine gate_dst (N := 12) rfl ?_); (try (refine gate_guard (by rfl) ?_; dsimp only)); refine ldb_event rfl rfl (by first | rfl | (go_simp; done) | (go_simp; rfl)) Try.underlying23 ⟨_, rfl⟩ BK1.out 3 size23 [.int .i64 x.f1.f0, .int .i64 x.f1.f1, .int .i64 x.f1.f2] rfl rfl ?_) | ((with_reducible refine gate_dst (N := 14) rfl ?_); (try (refine gate_guard (by rfl) ?_; dsimp only)); refine ldb_event rfl rfl (by first | rfl | (go_simp; done) | (go_simp; rfl)) Try.underlying23 ⟨_, rfl⟩ BK2.out 3 size23 [.int .i64 y.f1.f0, .int .i64 y.f1.f1, .int .i64 y.f1.f2] rfl rfl ?_) | ((with_reducible refine gate_dst (N := 40) rfl ?_); (try (refine gate_guard (by rfl) ?_; dsimp only)); refine ldb_event rfl rfl (by first | rfl | (go_simp; done) | (go_simp; rfl)) Try.underlying34 ⟨_, rfl⟩ BK1.out 23 size34 [.int .i64 x.f5.f0, .string x.f5.f1, .string x.f5.f2, .string x.f5.f3, .int .i64 x.f5.f4, .int .i64 x.f5.f5.f0, .int .i64 x.f5.f5.f1, .int .i64 x.f5.f5.f2, .int .i64 x.f5.f6.f0, .int .i64 x.f5.f6.f1, .int .i64 x.f5.f6.f2, .int .i64 x.f5.f6.f3, .int .i64 x.f5.f6.f4.f0, .int .i64 x.f5.f6.f4.f1, .int .i64 x.f5.f6.f4.f2, .int .i64 x.f5.f6.f5.f0, .int .i64 x.f5.f6.f5.f1, .int .i64 x.f5.f6.f5.f2, .int .i64 x.f5.f6.f6.f0, .int .i64 x.f5.f6.f6.f1, .int .i64 x.f5.f6.f7, .slice A7 x.f5.f7.length A7c, .slice A8 x.f5.f8.length A8c] rfl rfl ?_) | ((with_reducible refine gate_dst (N := 42) rfl ?_); (try (refine gate_guard (by rfl) ?_; dsimp only)); refine ldb_event rfl rfl (by first | rfl | (go_simp; done) | (go_simp; rfl)) Try.underlying34 ⟨_, rfl⟩ BK2.out 23 size34 [.int .i64 y.f5.f0, .string y.f5.f1, .string y.f5.f2, .string y.f5.f3, .int .i64 y.f5.f4, .int .i64 y.f5.f5.f0, .int .i64 y.f5.f5.f1, .int .i64 y.f5.f5.f2, .int .i64 y.f5.f6.f0, .int .i64 y.f5.f6.f1, .int .i64 y.f5.f6.f2, .int .i64 y.f5.f6.f3, .int .i64 y.f5.f6.f4.f0, .int .i64 y.f5.f6.f4.f1, .int .i64 y.f5.f6.f4.f2, .int .i64 y.f5.f6.f5.f0, .int .i64 y.f5.f6.f5.f1, .int .i64 y.f5.f6.f5.f2, .int .i64 y.f5.f6.f6.f0, .int .i64 y.f5.f6.f6.f1, .int .i64 y.f5.f6.f7, .slice B7 y.f5.f7.length B7c, .slice B8 y.f5.f8.length B8c] rfl rfl ?_) | ((with_reducible refine gate_callee (f := 22) rfl ?_); (try (refine gate_guard (by rfl) ?_; dsimp only)); refine goesL_ (some 22) rfl rfl Try.func22 (by kernel_rfl) rfl #[.slice A2 x.f2.length A2c, .slice B2 y.f2.length B2c] rfl (by (try simp only [List.map_toArray, List.map_cons, List.map_nil]); first | done | rfl) ?_; (with_reducible refine (datesEq.calls A2 A2c x.f2 B2 B2c y.f2 _ (Kd.C_below G2.out HB.out) L2.out (Kd.C_below Q2.out HB.out) P2.out).mono ?_); rintro e wv3_ ⟨rfl, hb⟩; refine ⟨_, rfl, ?_⟩; have n0_ := Aside0.mk (below_step HB.out hb); have n1_ := Aside0.mk (blk_below BK1.out hb); have n2_ := Aside0.mk (blk_below BK2.out hb); clear HB BK1 BK2; have HB := n0_; have BK1 := n1_; have BK2 := n2_; clear n0_ n1_ n2_; clear hb) | ((with_reducible refine gate_callee (f := 23) rfl ?_); (try (refine gate_guard (by rfl) ?_; dsimp only)); refine goesL_ (some 29) rfl rfl Try.func23 (by kernel_rfl) rfl #[.slice A3 x.f3.length A3c, .slice B3 y.f3.length B3c] rfl (by (try simp only [List.map_toArray, List.map_cons, List.map_nil]); first | done | rfl) ?_; (with_reducible refine (textsEq.calls A3 A3c x.f3 B3 B3c y.f3 _ (Kd.C_below G3.out HB.out) L3.out (Kd.C_below Q3.out HB.out) P3.out).mono ?_); rintro e wv4_ ⟨rfl, hb⟩; refine ⟨_, rfl, ?_⟩; have n0_ := Aside0.mk (below_step HB.out hb); have n1_ := Aside0.mk (blk_below BK1.out hb); have n2_ := Aside0.mk (blk_below BK2.out hb); clear HB BK1 BK2; have HB := n0_; have BK1 := n1_; have BK2 := n2_; clear n0_ n1_ n2_; clear hb) | ((with_reducible refine gate_callee (f := 24) rfl ?_); (try (refine gate_guard (by rfl) ?_; dsimp only)); refine goesL_ (some 36) rfl rfl Try.func24 (by kernel_rfl) rfl #[.slice A4 x.f4.length A4c, .slice B4 y.f4.length B4c, .func (.func 25) #[] #[]] rfl (by (try simp only [List.map_toArray, List.map_cons, List.map_nil]); first | done | rfl) ?_; (with_reducible refine (EqLOK.calls (equalDefs.all x.f4 y.f4) A4 A4c B4 B4c _ (Kd.C_below G4.out HB.out) (Kd.C_below Q4.out HB.out)).mono ?_); rintro e wv5_ ⟨rfl, hb⟩; refine ⟨_, rfl, ?_⟩; have n0_ := Aside0.mk (below_step HB.out hb); have n1_ := Aside0.mk (blk_below BK1.out hb); have n2_ := Aside0.mk (blk_below BK2.out hb); clear HB BK1 BK2; have HB := n0_; have BK1 := n1_; have BK2 := n2_; clear n0_ n1_ n2_; clear hb) | ((with_reducible refine gate_callee (f := 26) rfl ?_); (try (refine gate_guard (by rfl) ?_; dsimp only)); refine goesL_ (some 43) rfl rfl Try.func26 (by kernel_rfl) rfl #[.agg #[.int .i64 x.f5.f0, .string x.f5.f1, .string x.f5.f2, .string x.f5.f3, .int .i64 x.f5.f4, .int .i64 x.f5.f5.f0, .int .i64 x.f5.f5.f1, .int .i64 x.f5.f5.f2, .int .i64 x.f5.f6.f0, .int .i64 x.f5.f6.f1, .int .i64 x.f5.f6.f2, .int .i64 x.f5.f6.f3, .int .i64 x.f5.f6.f4.f0, .int .i64 x.f5.f6.f4.f1, .int .i64 x.f5.f6.f4.f2, .int .i64 x.f5.f6.f5.f0, .int .i64 x.f5.f6.f5.f1, .int .i64 x.f5.f6.f5.f2, .int .i64 x.f5.f6.f6.f0, .int .i64 x.f5.f6.f6.f1, .int .i64 x.f5.f6.f7, .slice A7 x.f5.f7.length A7c, .slice A8 x.f5.f8.length A8c], .agg #[.int .i64 y.f5.f0, .string y.f5.f1, .string y.f5.f2, .string y.f5.f3, .int .i64 y.f5.f4, .int .i64 y.f5.f5.f0, .int .i64 y.f5.f5.f1, .int .i64 y.f5.f5.f2, .int .i64 y.f5.f6.f0, .int .i64 y.f5.f6.f1, .int .i64 y.f5.f6.f2, .int .i64 y.f5.f6.f3, .int .i64 y.f5.f6.f4.f0, .int .i64 y.f5.f6.f4.f1, .int .i64 y.f5.f6.f4.f2, .int .i64 y.f5.f6.f5.f0, .int .i64 y.f5.f6.f5.f1, .int .i64 y.f5.f6.f5.f2, .int .i64 y.f5.f6.f6.f0, .int .i64 y.f5.f6.f6.f1, .int .i64 y.f5.f6.f7, .slice B7 y.f5.f7.length B7c, .slice B8 y.f5.f8.length B8c]] rfl (by (try simp only [List.map_toArray, List.map_cons, List.map_nil]); first | done | rfl) ?_; (with_reducible refine (EqOK.calls (equalCon.all x.f5 y.f5) [.int .i64 x.f5.f0, .string x.f5.f1, .string x.f5.f2, .string x.f5.f3, .int .i64 x.f5.f4, .int .i64 x.f5.f5.f0, .int .i64 x.f5.f5.f1, .int .i64 x.f5.f5.f2, .int .i64 x.f5.f6.f0, .int .i64 x.f5.f6.f1, .int .i64 x.f5.f6.f2, .int .i64 x.f5.f6.f3, .int .i64 x.f5.f6.f4.f0, .int .i64 x.f5.f6.f4.f1, .int .i64 x.f5.f6.f4.f2, .int .i64 x.f5.f6.f5.f0, .int .i64 x.f5.f6.f5.f1, .int .i64 x.f5.f6.f5.f2, .int .i64 x.f5.f6.f6.f0, .int .i64 x.f5.f6.f6.f1, .int .i64 x.f5.f6.f7, .slice A7 x.f5.f7.length A7c, .slice A8 x.f5.f8.length A8c] [.int .i64 y.f5.f0, .string y.f5.f1, .string y.f5.f2, .string y.f5.f3, .int .i64 y.f5.f4, .int .i64 y.f5.f5.f0, .int .i64 y.f5.f5.f1, .int .i64 y.f5.f5.f2, .int .i64 y.f5.f6.f0, .int .i64 y.f5.f6.f1, .int .i64 y.f5.f6.f2, .int .i64 y.f5.f6.f3, .int .i64 y.f5.f6.f4.f0, .int .i64 y.f5.f6.f4.f1, .int .i64 y.f5.f6.f4.f2, .int .i64 y.f5.f6.f5.f0, .int .i64 y.f5.f6.f5.f1, .int .i64 y.f5.f6.f5.f2, .int .i64 y.f5.f6.f6.f0, .int .i64 y.f5.f6.f6.f1, .int .i64 y.f5.f6.f7, .slice B7 y.f5.f7.length B7c, .slice B8 y.f5.f8.length B8c] _ (k34_mk _ x.f5 L7.out (Kd.C_below G7.out HB.out) L8.out (Kd.C_below G8.out HB.out)) (k34_mk _ y.f5 P7.out (Kd.C_below Q7.out HB.out) P8.out (Kd.C_below Q8.out HB.out))).mono ?_); rintro e wv6_ ⟨rfl, hb⟩; refine ⟨_, rfl, ?_⟩; have n0_ := Aside0.mk (below_step HB.out hb); have n1_ := Aside0.mk (blk_below BK1.out hb); have n2_ := Aside0.mk (blk_below BK2.out hb); clear HB BK1 BK2; have HB := n0_; have BK1 := n1_; have BK2 := n2_; clear n0_ n1_ n2_; clear hb))
    go_ret
    exact ⟨by rw [hsm]; rfl, HB.out⟩
end Go.Proofs.Ytkfbkjcdngipcaa.PTreeEquals
