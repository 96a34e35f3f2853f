import Derived.Test.YtkfbkjcdngipcaaKinC
import Derived.Test.YtkfbkjcdngipcaaEq4
import Derived.Test.YtkfbkjcdngipcaaEq2
namespace Go.Proofs.Ytkfbkjcdngipcaa.PTreeEquals
open Go.RowKit Go.Proofs.YtkfbkjcdngipcaaW.PrintWords Go.Proofs.YtkfbkjcdngipcaaW.PrintLast Go.Proofs.YtkfbkjcdngipcaaW.PrintMore
attribute [local go_sem 5000] eqlD eqlR neqD neqR
attribute [local go_sem] max2_int min2_int max_two min_two max_three min_three max_four min_four
set_option linter.unusedVariables false
set_option linter.unusedSimpArgs false
theorem sameCons.lt : ∀ (n : Nat) (x y : S34), S34.wt x < n → x.wf → EqOK k34 13 x y := by
  intro n
  induction n with
  | zero => intro x y h; omega
  | succ n ih =>
    intro x y h hw
    rw [S34.wf_eq] at hw
    obtain ⟨_, h1, _, h2⟩ := hw
    rw [S54.wfs_iff] at h1
    rw [S34.wfs_iff] at h2
    refine sameCon.of x y h1 (fun a ha b hb => ih a b ?_ (h2 a ha))
    have h3 := S34.wt_le ha
    have h4 := S34.wt_eq x
    omega
theorem sameCon.all (x y : S34) (hw : x.wf) : EqOK k34 13 x y := sameCons.lt _ x y (Nat.lt_succ_self _) hw
set_option maxHeartbeats 32000000 in
set_option maxRecDepth 100000 in
theorem refEqual.all (x y : S36) (hw4 : ∀ a ∈ x.f4, a.f2.wf) (hw5 : x.f5.wf) : EqOK k36 8 x y := by
  intro cs ds w hK1 hK2
  obtain ⟨A2, A2c, A3, A3c, A4, A4c, A7, A7c, A8, A8c, rfl, l2, g2, l3, g3, l4, g4, l7, g7, l8, g8⟩ := k36_open hK1
  obtain ⟨B2, B2c, B3, B3c, B4, B4c, B7, B7c, B8, B8c, rfl, p2, q2, p3, q3, p4, q4, p7, q7, p8, q8⟩ := k36_open hK2
  have hu36 := Try.underlying36
  have hu34 := Try.underlying34
  have hu23 := Try.underlying23
  have hu30 := Try.underlying30
  have hu28 := Try.underlying28
  have hu56 := Try.underlying56
  have hu54 := Try.underlying54
  have HW4 := Aside0.mk hw4
  have HW5 := Aside0.mk hw5
  have L2 := Aside0.mk l2
  clear l2
  have G2 := Aside0.mk g2
  clear g2
  have L3 := Aside0.mk l3
  clear l3
  have G3 := Aside0.mk g3
  clear g3
  have L4 := Aside0.mk l4
  clear l4
  have G4 := Aside0.mk g4
  clear g4
  have L7 := Aside0.mk l7
  clear l7
  have G7 := Aside0.mk g7
  clear g7
  have L8 := Aside0.mk l8
  clear l8
  have G8 := Aside0.mk g8
  clear g8
  have P2 := Aside0.mk p2
  clear p2
  have Q2 := Aside0.mk q2
  clear q2
  have P3 := Aside0.mk p3
  clear p3
  have Q3 := Aside0.mk q3
  clear q3
  have P4 := Aside0.mk p4
  clear p4
  have Q4 := Aside0.mk q4
  clear q4
  have P7 := Aside0.mk p7
  clear p7
  have Q7 := Aside0.mk q7
  clear q7
  have P8 := Aside0.mk p8
  clear p8
  have Q8 := Aside0.mk q8
  clear q8
  clear hK1 hK2 hw4 hw5
  have HB := Aside0.mk (Below.refl w.heap.size w)
  refine (Classical.em (x.f0 = y.f0)).elim (fun h0 => ?_) (fun h0 => ?_)
  rotate_left
  have ct0 : (x.f0.toList == y.f0.toList) = false := beq_eq_false_iff_ne.mpr (fun e => h0 ((toList_iff _ _).1 e))
  have cn0 : (x.f0.toList != y.f0.toList) = true := bne_iff_ne.mpr (fun e => h0 ((toList_iff _ _).1 e))
  have hsm : sm x y = false := sm_false (fun e => h0 (by rw [e]))
  clear h0
  rotate_right
  have ct0 : (x.f0.toList == y.f0.toList) = true := beq_iff_eq.mpr (by rw [h0])
  have cn0 : (x.f0.toList != y.f0.toList) = false := bne_eq_false_iff_eq.mpr (by rw [h0])
  have H0 := Aside0.mk h0
  clear h0
  refine (Classical.em (x.f1 = y.f1)).elim (fun h1 => ?_) (fun h1 => ?_)
  rotate_left
  have ct1 : sm x.f1 y.f1 = false := sm_false h1
  have hsm : sm x y = false := sm_false (fun e => h1 (by rw [e]))
  clear h1
  rotate_right
  have ct1 : sm x.f1 y.f1 = true := sm_true h1
  have H1 := Aside0.mk h1
  clear h1
  refine (Classical.em (x.f2 = y.f2)).elim (fun h2 => ?_) (fun h2 => ?_)
  rotate_left
  have ct2 : sm x.f2 y.f2 = false := sm_false h2
  have hsm : sm x y = false := sm_false (fun e => h2 (by rw [e]))
  clear h2
  rotate_right
  have ct2 : sm x.f2 y.f2 = true := sm_true h2
  have H2 := Aside0.mk h2
  clear h2
  refine (Classical.em (x.f3 = y.f3)).elim (fun h3 => ?_) (fun h3 => ?_)
  rotate_left
  have ct3 : sm x.f3 y.f3 = false := sm_false h3
  have hsm : sm x y = false := sm_false (fun e => h3 (by rw [e]))
  clear h3
  rotate_right
  have ct3 : sm x.f3 y.f3 = true := sm_true h3
  have H3 := Aside0.mk h3
  clear h3
  refine (Classical.em (x.f5 = y.f5)).elim (fun h4 => ?_) (fun h4 => ?_)
  rotate_left
  have ct4 : sm x.f5 y.f5 = false := sm_false h4
  have hsm : sm x y = false := sm_false (fun e => h4 (by rw [e]))
  clear h4
  rotate_right
  have ct4 : sm x.f5 y.f5 = true := sm_true h4
  have H4 := Aside0.mk h4
  clear h4
  refine (Classical.em (x.f4.length = y.f4.length)).elim (fun hl4 => ?_) (fun hl4 => ?_)
  rotate_left
  have ct9 : ((x.f4.length : Int) != (y.f4.length : Int)) = true := bne_iff_ne.mpr (by omega)
  have hsm : sm x y = false := sm_false (fun e => hl4 (by rw [e]))
  clear hl4
  rotate_right
  have ct9 : ((x.f4.length : Int) != (y.f4.length : Int)) = false := bne_eq_false_iff_eq.mpr (by omega)
  have HL4 := Aside0.mk hl4
  clear hl4
  · go_enter Try.func8, Try.ntmps8
    go_wp2_with (first | ((with_reducible refine gate_dst (N := 2) rfl ?_); (try (refine gate_guard (by rfl) ?_; dsimp only)); refine box_event ?hg (N := 2) ?hd (cs := #[.string x.f0, .int .i64 x.f1.f0, .int .i64 x.f1.f1, .int .i64 x.f1.f2, .slice A2 x.f2.length A2c, .slice A3 x.f3.length A3c, .slice A4 x.f4.length A4c, .int .i64 x.f5.f0, .string x.f5.f1, .string x.f5.f2, .string x.f5.f3, .int .i64 x.f5.f4, .int .i64 x.f5.f5.f0, .int .i64 x.f5.f5.f1, .int .i64 x.f5.f5.f2, .int .i64 x.f5.f6.f0, .int .i64 x.f5.f6.f1, .int .i64 x.f5.f6.f2, .int .i64 x.f5.f6.f3, .int .i64 x.f5.f6.f4.f0, .int .i64 x.f5.f6.f4.f1, .int .i64 x.f5.f6.f4.f2, .int .i64 x.f5.f6.f5.f0, .int .i64 x.f5.f6.f5.f1, .int .i64 x.f5.f6.f5.f2, .int .i64 x.f5.f6.f6.f0, .int .i64 x.f5.f6.f6.f1, .int .i64 x.f5.f6.f7, .slice A7 x.f5.f7.length A7c, .slice A8 x.f5.f8.length A8c]) (t := 36) ?hr ?_; (case hd => rfl); (case hg => rfl); (case hr => first | (go_simp; done) | (go_simp; rfl)); intro g1 hg wv1_ hbox hb; have n0_ := Aside0.mk (below_step HB.out hb); have n1_ := Aside0.mk (hbox); have n2_ := Aside0.mk ((show w.heap.size ≤ g1 by rw [hg]; exact below_size HB.out)); clear HB; have HB := n0_; have BK1 := n1_; have ORD := n2_; clear n0_ n1_ n2_; clear hb hbox hg) | ((with_reducible refine gate_dst (N := 3) rfl ?_); (try (refine gate_guard (by rfl) ?_; dsimp only)); refine box_event ?hg (N := 3) ?hd (cs := #[.string y.f0, .int .i64 y.f1.f0, .int .i64 y.f1.f1, .int .i64 y.f1.f2, .slice B2 y.f2.length B2c, .slice B3 y.f3.length B3c, .slice B4 y.f4.length B4c, .int .i64 y.f5.f0, .string y.f5.f1, .string y.f5.f2, .string y.f5.f3, .int .i64 y.f5.f4, .int .i64 y.f5.f5.f0, .int .i64 y.f5.f5.f1, .int .i64 y.f5.f5.f2, .int .i64 y.f5.f6.f0, .int .i64 y.f5.f6.f1, .int .i64 y.f5.f6.f2, .int .i64 y.f5.f6.f3, .int .i64 y.f5.f6.f4.f0, .int .i64 y.f5.f6.f4.f1, .int .i64 y.f5.f6.f4.f2, .int .i64 y.f5.f6.f5.f0, .int .i64 y.f5.f6.f5.f1, .int .i64 y.f5.f6.f5.f2, .int .i64 y.f5.f6.f6.f0, .int .i64 y.f5.f6.f6.f1, .int .i64 y.f5.f6.f7, .slice B7 y.f5.f7.length B7c, .slice B8 y.f5.f8.length B8c]) (t := 36) ?hr ?_; (case hd => rfl); (case hg => rfl); (case hr => first | (go_simp; done) | (go_simp; rfl)); intro g2 hg wv2_ hbox hb; have n0_ := Aside0.mk (below_step HB.out hb); have n1_ := Aside0.mk (blk_below BK1.out hb); have n2_ := Aside0.mk (hbox); have n3_ := Aside0.mk (And.intro ORD.out (show g1 < g2 by rw [hg]; exact blk_lt BK1.out)); clear HB BK1 ORD; have HB := n0_; have BK1 := n1_; have BK2 := n2_; have ORD := n3_; clear n0_ n1_ n2_ n3_; clear hb hbox hg) | ((with_reducible refine gate_dst (N := 12) rfl ?_); (try (refine gate_guard (by rfl) ?_; dsimp only)); refine ld_event rfl rfl (by first | rfl | (go_simp; done) | (go_simp; rfl)) Try.underlying24 trivial (.slice A2 x.f2.length A2c) ((blk_cell BK1.out 4).trans rfl) ?_) | ((with_reducible refine gate_dst (N := 14) rfl ?_); (try (refine gate_guard (by rfl) ?_; dsimp only)); refine ld_event rfl rfl (by first | rfl | (go_simp; done) | (go_simp; rfl)) Try.underlying24 trivial (.slice B2 y.f2.length B2c) ((blk_cell BK2.out 4).trans rfl) ?_) | ((with_reducible refine gate_dst (N := 17) rfl ?_); (try (refine gate_guard (by rfl) ?_; dsimp only)); refine ld_event rfl rfl (by first | rfl | (go_simp; done) | (go_simp; rfl)) Try.underlying25 trivial (.slice A3 x.f3.length A3c) ((blk_cell BK1.out 5).trans rfl) ?_) | ((with_reducible refine gate_dst (N := 19) rfl ?_); (try (refine gate_guard (by rfl) ?_; dsimp only)); refine ld_event rfl rfl (by first | rfl | (go_simp; done) | (go_simp; rfl)) Try.underlying25 trivial (.slice B3 y.f3.length B3c) ((blk_cell BK2.out 5).trans rfl) ?_) | ((with_reducible refine gate_dst (N := 27) rfl ?_); (try (refine gate_guard (by rfl) ?_; dsimp only)); refine ld_event rfl rfl (by first | rfl | (go_simp; done) | (go_simp; rfl)) Try.underlying9 trivial (.string x.f0) ((blk_cell BK1.out 0).trans rfl) ?_) | ((with_reducible refine gate_dst (N := 29) rfl ?_); (try (refine gate_guard (by rfl) ?_; dsimp only)); refine ld_event rfl rfl (by first | rfl | (go_simp; done) | (go_simp; rfl)) Try.underlying9 trivial (.string y.f0) ((blk_cell BK2.out 0).trans rfl) ?_) | ((with_reducible refine gate_dst (N := 52) rfl ?_); (try (refine gate_guard (by rfl) ?_; dsimp only)); refine ld_event rfl rfl (by first | rfl | (go_simp; done) | (go_simp; rfl)) Try.underlying26 trivial (.slice A4 x.f4.length A4c) ((blk_cell BK1.out 6).trans rfl) ?_) | ((with_reducible refine gate_dst (N := 55) rfl ?_); (try (refine gate_guard (by rfl) ?_; dsimp only)); refine ld_event rfl rfl (by first | rfl | (go_simp; done) | (go_simp; rfl)) Try.underlying26 trivial (.slice B4 y.f4.length B4c) ((blk_cell BK2.out 6).trans rfl) ?_) | ((with_reducible refine gate_dst (N := 22) rfl ?_); (try (refine gate_guard (by rfl) ?_; dsimp only)); refine ldb_event rfl rfl (by first | rfl | (go_simp; done) | (go_simp; rfl)) Try.underlying34 ⟨_, rfl⟩ BK1.out 23 size34 [.int .i64 x.f5.f0, .string x.f5.f1, .string x.f5.f2, .string x.f5.f3, .int .i64 x.f5.f4, .int .i64 x.f5.f5.f0, .int .i64 x.f5.f5.f1, .int .i64 x.f5.f5.f2, .int .i64 x.f5.f6.f0, .int .i64 x.f5.f6.f1, .int .i64 x.f5.f6.f2, .int .i64 x.f5.f6.f3, .int .i64 x.f5.f6.f4.f0, .int .i64 x.f5.f6.f4.f1, .int .i64 x.f5.f6.f4.f2, .int .i64 x.f5.f6.f5.f0, .int .i64 x.f5.f6.f5.f1, .int .i64 x.f5.f6.f5.f2, .int .i64 x.f5.f6.f6.f0, .int .i64 x.f5.f6.f6.f1, .int .i64 x.f5.f6.f7, .slice A7 x.f5.f7.length A7c, .slice A8 x.f5.f8.length A8c] rfl rfl ?_) | ((with_reducible refine gate_dst (N := 24) rfl ?_); (try (refine gate_guard (by rfl) ?_; dsimp only)); refine ldb_event rfl rfl (by first | rfl | (go_simp; done) | (go_simp; rfl)) Try.underlying34 ⟨_, rfl⟩ BK2.out 23 size34 [.int .i64 y.f5.f0, .string y.f5.f1, .string y.f5.f2, .string y.f5.f3, .int .i64 y.f5.f4, .int .i64 y.f5.f5.f0, .int .i64 y.f5.f5.f1, .int .i64 y.f5.f5.f2, .int .i64 y.f5.f6.f0, .int .i64 y.f5.f6.f1, .int .i64 y.f5.f6.f2, .int .i64 y.f5.f6.f3, .int .i64 y.f5.f6.f4.f0, .int .i64 y.f5.f6.f4.f1, .int .i64 y.f5.f6.f4.f2, .int .i64 y.f5.f6.f5.f0, .int .i64 y.f5.f6.f5.f1, .int .i64 y.f5.f6.f5.f2, .int .i64 y.f5.f6.f6.f0, .int .i64 y.f5.f6.f6.f1, .int .i64 y.f5.f6.f7, .slice B7 y.f5.f7.length B7c, .slice B8 y.f5.f8.length B8c] rfl rfl ?_) | ((with_reducible refine gate_dst (N := 33) rfl ?_); (try (refine gate_guard (by rfl) ?_; dsimp only)); refine ldb_event rfl rfl (by first | rfl | (go_simp; done) | (go_simp; rfl)) Try.underlying23 ⟨_, rfl⟩ BK1.out 3 size23 [.int .i64 x.f1.f0, .int .i64 x.f1.f1, .int .i64 x.f1.f2] rfl rfl ?_) | ((with_reducible refine gate_dst (N := 35) rfl ?_); (try (refine gate_guard (by rfl) ?_; dsimp only)); refine ldb_event rfl rfl (by first | rfl | (go_simp; done) | (go_simp; rfl)) Try.underlying23 ⟨_, rfl⟩ BK2.out 3 size23 [.int .i64 y.f1.f0, .int .i64 y.f1.f1, .int .i64 y.f1.f2] rfl rfl ?_) | ((with_reducible refine gate_callee (f := 27) rfl ?_); (try (refine gate_guard (by rfl) ?_; dsimp only)); refine goesL_ (some 15) rfl rfl Try.func27 (by kernel_rfl) rfl #[.slice A2 x.f2.length A2c, .slice B2 y.f2.length B2c] rfl (by (try simp only [List.map_toArray, List.map_cons, List.map_nil]); first | done | rfl) ?_; (with_reducible refine (sameDates.calls A2 A2c x.f2 B2 B2c y.f2 _ (Kd.C_below G2.out HB.out) L2.out (Kd.C_below Q2.out HB.out) P2.out).mono ?_); rintro e wv3_ ⟨rfl, hb⟩; refine ⟨_, rfl, ?_⟩; have n0_ := Aside0.mk (below_step HB.out hb); have n1_ := Aside0.mk (blk_below BK1.out hb); have n2_ := Aside0.mk (blk_below BK2.out hb); clear HB BK1 BK2; have HB := n0_; have BK1 := n1_; have BK2 := n2_; clear n0_ n1_ n2_; clear hb) | ((with_reducible refine gate_callee (f := 28) rfl ?_); (try (refine gate_guard (by rfl) ?_; dsimp only)); refine goesL_ (some 20) rfl rfl Try.func28 (by kernel_rfl) rfl #[.slice A3 x.f3.length A3c, .slice B3 y.f3.length B3c] rfl (by (try simp only [List.map_toArray, List.map_cons, List.map_nil]); first | done | rfl) ?_; (with_reducible refine (sameTexts.calls A3 A3c x.f3 B3 B3c y.f3 _ (Kd.C_below G3.out HB.out) L3.out (Kd.C_below Q3.out HB.out) P3.out).mono ?_); rintro e wv4_ ⟨rfl, hb⟩; refine ⟨_, rfl, ?_⟩; have n0_ := Aside0.mk (below_step HB.out hb); have n1_ := Aside0.mk (blk_below BK1.out hb); have n2_ := Aside0.mk (blk_below BK2.out hb); clear HB BK1 BK2; have HB := n0_; have BK1 := n1_; have BK2 := n2_; clear n0_ n1_ n2_; clear hb) | ((with_reducible refine gate_callee (f := 13) rfl ?_); (try (refine gate_guard (by rfl) ?_; dsimp only)); refine goesL_ (some 25) rfl rfl Try.func13 (by kernel_rfl) rfl #[.agg #[.int .i64 x.f5.f0, .string x.f5.f1, .string x.f5.f2, .string x.f5.f3, .int .i64 x.f5.f4, .int .i64 x.f5.f5.f0, .int .i64 x.f5.f5.f1, .int .i64 x.f5.f5.f2, .int .i64 x.f5.f6.f0, .int .i64 x.f5.f6.f1, .int .i64 x.f5.f6.f2, .int .i64 x.f5.f6.f3, .int .i64 x.f5.f6.f4.f0, .int .i64 x.f5.f6.f4.f1, .int .i64 x.f5.f6.f4.f2, .int .i64 x.f5.f6.f5.f0, .int .i64 x.f5.f6.f5.f1, .int .i64 x.f5.f6.f5.f2, .int .i64 x.f5.f6.f6.f0, .int .i64 x.f5.f6.f6.f1, .int .i64 x.f5.f6.f7, .slice A7 x.f5.f7.length A7c, .slice A8 x.f5.f8.length A8c], .agg #[.int .i64 y.f5.f0, .string y.f5.f1, .string y.f5.f2, .string y.f5.f3, .int .i64 y.f5.f4, .int .i64 y.f5.f5.f0, .int .i64 y.f5.f5.f1, .int .i64 y.f5.f5.f2, .int .i64 y.f5.f6.f0, .int .i64 y.f5.f6.f1, .int .i64 y.f5.f6.f2, .int .i64 y.f5.f6.f3, .int .i64 y.f5.f6.f4.f0, .int .i64 y.f5.f6.f4.f1, .int .i64 y.f5.f6.f4.f2, .int .i64 y.f5.f6.f5.f0, .int .i64 y.f5.f6.f5.f1, .int .i64 y.f5.f6.f5.f2, .int .i64 y.f5.f6.f6.f0, .int .i64 y.f5.f6.f6.f1, .int .i64 y.f5.f6.f7, .slice B7 y.f5.f7.length B7c, .slice B8 y.f5.f8.length B8c]] rfl (by (try simp only [List.map_toArray, List.map_cons, List.map_nil]); first | done | rfl) ?_; (with_reducible refine (EqOK.calls (sameCon.all x.f5 y.f5 HW5.out) [.int .i64 x.f5.f0, .string x.f5.f1, .string x.f5.f2, .string x.f5.f3, .int .i64 x.f5.f4, .int .i64 x.f5.f5.f0, .int .i64 x.f5.f5.f1, .int .i64 x.f5.f5.f2, .int .i64 x.f5.f6.f0, .int .i64 x.f5.f6.f1, .int .i64 x.f5.f6.f2, .int .i64 x.f5.f6.f3, .int .i64 x.f5.f6.f4.f0, .int .i64 x.f5.f6.f4.f1, .int .i64 x.f5.f6.f4.f2, .int .i64 x.f5.f6.f5.f0, .int .i64 x.f5.f6.f5.f1, .int .i64 x.f5.f6.f5.f2, .int .i64 x.f5.f6.f6.f0, .int .i64 x.f5.f6.f6.f1, .int .i64 x.f5.f6.f7, .slice A7 x.f5.f7.length A7c, .slice A8 x.f5.f8.length A8c] [.int .i64 y.f5.f0, .string y.f5.f1, .string y.f5.f2, .string y.f5.f3, .int .i64 y.f5.f4, .int .i64 y.f5.f5.f0, .int .i64 y.f5.f5.f1, .int .i64 y.f5.f5.f2, .int .i64 y.f5.f6.f0, .int .i64 y.f5.f6.f1, .int .i64 y.f5.f6.f2, .int .i64 y.f5.f6.f3, .int .i64 y.f5.f6.f4.f0, .int .i64 y.f5.f6.f4.f1, .int .i64 y.f5.f6.f4.f2, .int .i64 y.f5.f6.f5.f0, .int .i64 y.f5.f6.f5.f1, .int .i64 y.f5.f6.f5.f2, .int .i64 y.f5.f6.f6.f0, .int .i64 y.f5.f6.f6.f1, .int .i64 y.f5.f6.f7, .slice B7 y.f5.f7.length B7c, .slice B8 y.f5.f8.length B8c] _ (k34_mk _ x.f5 L7.out (Kd.C_below G7.out HB.out) L8.out (Kd.C_below G8.out HB.out)) (k34_mk _ y.f5 P7.out (Kd.C_below Q7.out HB.out) P8.out (Kd.C_below Q8.out HB.out))).mono ?_); rintro e wv5_ ⟨rfl, hb⟩; refine ⟨_, rfl, ?_⟩; have n0_ := Aside0.mk (below_step HB.out hb); have n1_ := Aside0.mk (blk_below BK1.out hb); have n2_ := Aside0.mk (blk_below BK2.out hb); clear HB BK1 BK2; have HB := n0_; have BK1 := n1_; have BK2 := n2_; clear n0_ n1_ n2_; clear hb))
    clear ct0 cn0 ct1 ct2 ct3 ct4 ct9
    go_loopg [8] x.f4.length (fun kq v8 w' => ∃ (i_ : Int), v8 = .int .i64 i_ ∧ Aside0 (0 ≤ i_ ∧ i_ + (kq : Int) = (x.f4.length : Int)) ∧ Aside0 (sm (x.f4.drop i_.toNat) (y.f4.drop i_.toNat) = sm x.f4 y.f4) ∧ Aside0 (w'.heap[g1]? = some (.cells #[.string x.f0, .int .i64 x.f1.f0, .int .i64 x.f1.f1, .int .i64 x.f1.f2, .slice A2 x.f2.length A2c, .slice A3 x.f3.length A3c, .slice A4 x.f4.length A4c, .int .i64 x.f5.f0, .string x.f5.f1, .string x.f5.f2, .string x.f5.f3, .int .i64 x.f5.f4, .int .i64 x.f5.f5.f0, .int .i64 x.f5.f5.f1, .int .i64 x.f5.f5.f2, .int .i64 x.f5.f6.f0, .int .i64 x.f5.f6.f1, .int .i64 x.f5.f6.f2, .int .i64 x.f5.f6.f3, .int .i64 x.f5.f6.f4.f0, .int .i64 x.f5.f6.f4.f1, .int .i64 x.f5.f6.f4.f2, .int .i64 x.f5.f6.f5.f0, .int .i64 x.f5.f6.f5.f1, .int .i64 x.f5.f6.f5.f2, .int .i64 x.f5.f6.f6.f0, .int .i64 x.f5.f6.f6.f1, .int .i64 x.f5.f6.f7, .slice A7 x.f5.f7.length A7c, .slice A8 x.f5.f8.length A8c] 36 (0, 0))) ∧ Aside0 (w'.heap[g2]? = some (.cells #[.string y.f0, .int .i64 y.f1.f0, .int .i64 y.f1.f1, .int .i64 y.f1.f2, .slice B2 y.f2.length B2c, .slice B3 y.f3.length B3c, .slice B4 y.f4.length B4c, .int .i64 y.f5.f0, .string y.f5.f1, .string y.f5.f2, .string y.f5.f3, .int .i64 y.f5.f4, .int .i64 y.f5.f5.f0, .int .i64 y.f5.f5.f1, .int .i64 y.f5.f5.f2, .int .i64 y.f5.f6.f0, .int .i64 y.f5.f6.f1, .int .i64 y.f5.f6.f2, .int .i64 y.f5.f6.f3, .int .i64 y.f5.f6.f4.f0, .int .i64 y.f5.f6.f4.f1, .int .i64 y.f5.f6.f4.f2, .int .i64 y.f5.f6.f5.f0, .int .i64 y.f5.f6.f5.f1, .int .i64 y.f5.f6.f5.f2, .int .i64 y.f5.f6.f6.f0, .int .i64 y.f5.f6.f6.f1, .int .i64 y.f5.f6.f7, .slice B7 y.f5.f7.length B7c, .slice B8 y.f5.f8.length B8c] 36 (0, 0))) ∧ Aside0 (Below w.heap.size w w'))
    case atStart => exact ⟨0, rfl, ⟨by omega, by omega⟩, ⟨rfl⟩, BK1, BK2, HB⟩
    case round =>
      clear HB BK1 BK2
      obtain ⟨i_, rfl, HQ, HX, BK1, BK2, HB⟩ := hrel
      by_cases c_ : i_ < (x.f4.length : Int)
      · have cb : decide (i_ < (x.f4.length : Int)) = true := decide_eq_true c_
        have p_ : 0 ≤ i_ := HQ.out.1
        have c2_ : i_ < (y.f4.length : Int) := by have := HL4.out; omega
        obtain ⟨ad, cv1_, e_, _, hK1, hc1_⟩ := Kd.C_get G4.out z56 i_ p_ c_
        obtain rfl := e_
        obtain ⟨bd, cv2_, e_, _, hK2, hc2_⟩ := Kd.C_get Q4.out z56 i_ p_ c2_
        obtain rfl := e_
        have hM1 := mem_getD z56 p_ c_
        have hN := sm_next z56 p_ c_ c2_
        obtain ⟨x_, hx_⟩ : ∃ q, q = x.f4.getD i_.toNat z56 := ⟨_, rfl⟩
        obtain ⟨y_, hy_⟩ : ∃ q, q = y.f4.getD i_.toNat z56 := ⟨_, rfl⟩
        rw [← hx_] at hK1 hM1 hN
        rw [← hy_] at hK2 hN
        clear hx_ hy_
        obtain ⟨E1, E1c, E5, E5c, E6, E6c, rfl, e1l, e1g, e5l, e5g, e6l, e6g⟩ := k56_open hK1
        obtain ⟨F1, F1c, F5, F5c, F6, F6c, rfl, f1l, f1g, f5l, f5g, f6l, f6g⟩ := k56_open hK2
        have hc1_ : ∀ j u, ([.string x_.f0, .slice E1 x_.f1.length E1c, .int .i64 x_.f2.f0, .int .i64 x_.f2.f1, .string x_.f2.f2, .slice E5 x_.f2.f3.length E5c, .slice E6 x_.f2.f4.length E6c] : List Value)[j]? = some u → wr.cell? (ad.add (i_.toNat * 7 + j)) = some u := fun j v hj => by have h1 := hc1_ j v hj; exact (HB.out.cell (World.block_lt_of_cell? w _ h1)).trans h1
        have hc2_ : ∀ j u, ([.string y_.f0, .slice F1 y_.f1.length F1c, .int .i64 y_.f2.f0, .int .i64 y_.f2.f1, .string y_.f2.f2, .slice F5 y_.f2.f3.length F5c, .slice F6 y_.f2.f4.length F6c] : List Value)[j]? = some u → wr.cell? (bd.add (i_.toNat * 7 + j)) = some u := fun j v hj => by have h1 := hc2_ j v hj; exact (HB.out.cell (World.block_lt_of_cell? w _ h1)).trans h1
        have HX0 := Aside0.mk (show wr.cell? (ad.add (i_.toNat * 7)) = some (.string x_.f0) from hc1_ 0 _ rfl)
        have HX1 := Aside0.mk (show wr.cell? ⟨(ad.add (i_.toNat * 7)).block, (ad.add (i_.toNat * 7)).off + 1, none⟩ = some (.slice E1 x_.f1.length E1c) from by rw [← add_field _ _ 1 (by omega)]; exact hc1_ 1 _ rfl)
        have HCS := Aside0.mk (show CSat wr ⟨(ad.add (i_.toNat * 7)).block, (ad.add (i_.toNat * 7)).off + 2, none⟩ [.int .i64 x_.f2.f0, .int .i64 x_.f2.f1, .string x_.f2.f2, .slice E5 x_.f2.f3.length E5c, .slice E6 x_.f2.f4.length E6c] from CSat.of_get hc1_ 2 (by decide))
        have HY0 := Aside0.mk (show wr.cell? (bd.add (i_.toNat * 7)) = some (.string y_.f0) from hc2_ 0 _ rfl)
        have HY1 := Aside0.mk (show wr.cell? ⟨(bd.add (i_.toNat * 7)).block, (bd.add (i_.toNat * 7)).off + 1, none⟩ = some (.slice F1 y_.f1.length F1c) from by rw [← add_field _ _ 1 (by omega)]; exact hc2_ 1 _ rfl)
        have HDS := Aside0.mk (show CSat wr ⟨(bd.add (i_.toNat * 7)).block, (bd.add (i_.toNat * 7)).off + 2, none⟩ [.int .i64 y_.f2.f0, .int .i64 y_.f2.f1, .string y_.f2.f2, .slice F5 y_.f2.f3.length F5c, .slice F6 y_.f2.f4.length F6c] from CSat.of_get hc2_ 2 (by decide))
        have E1l := Aside0.mk e1l; have E1g := Aside0.mk e1g; have E5l := Aside0.mk e5l; have E5g := Aside0.mk e5g; have E6l := Aside0.mk e6l; have E6g := Aside0.mk e6g
        have F1l := Aside0.mk f1l; have F1g := Aside0.mk f1g; have F5l := Aside0.mk f5l; have F5g := Aside0.mk f5g; have F6l := Aside0.mk f6l; have F6g := Aside0.mk f6g
        have HM1 := Aside0.mk hM1
        have HN := Aside0.mk hN
        clear hK1 hK2 hc1_ hc2_ hM1 hN e1l e1g e5l e5g e6l e6g f1l f1g f5l f5g f6l f6g
        have HC_ := Aside0.mk c_
        replace p_ := eq_true p_
        replace c_ := eq_true c_
        replace c2_ := eq_true c2_
        go_upto_region 9 with (first | ((with_reducible refine gate_dst (N := 61) rfl ?_); (try (refine gate_guard (by rfl) ?_; dsimp only)); refine ld_event rfl rfl (by first | rfl | (go_simp; done) | (go_simp; rfl)) Try.underlying26 trivial (.slice (some ad) x.f4.length A4c) ((blk_cell BK1.out 6).trans rfl) ?_))
        refine (Classical.em (x_.f0 = y_.f0)).elim (fun h0 => ?_) (fun h0 => ?_)
        rotate_left
        have ct0 : (x_.f0.toList == y_.f0.toList) = false := beq_eq_false_iff_ne.mpr (fun e => h0 ((toList_iff _ _).1 e))
        have cn0 : (x_.f0.toList != y_.f0.toList) = true := bne_iff_ne.mpr (fun e => h0 ((toList_iff _ _).1 e))
        have hxy : sm x_ y_ = false := sm_false (fun e => h0 (by rw [e]))
        have hxy := Aside0.mk hxy
        clear h0
        rotate_right
        have ct0 : (x_.f0.toList == y_.f0.toList) = true := beq_iff_eq.mpr (by rw [h0])
        have cn0 : (x_.f0.toList != y_.f0.toList) = false := bne_eq_false_iff_eq.mpr (by rw [h0])
        have K0 := Aside0.mk h0
        clear h0
        refine (Classical.em (x_.f1 = y_.f1)).elim (fun h1 => ?_) (fun h1 => ?_)
        rotate_left
        have ct1 : sm x_.f1 y_.f1 = false := sm_false h1
        have hxy : sm x_ y_ = false := sm_false (fun e => h1 (by rw [e]))
        have hxy := Aside0.mk hxy
        clear h1
        rotate_right
        have ct1 : sm x_.f1 y_.f1 = true := sm_true h1
        have K1 := Aside0.mk h1
        clear h1
        refine (Classical.em (x_.f2 = y_.f2)).elim (fun h2 => ?_) (fun h2 => ?_)
        rotate_left
        have ct2 : sm x_.f2 y_.f2 = false := sm_false h2
        have hxy : sm x_ y_ = false := sm_false (fun e => h2 (by rw [e]))
        have hxy := Aside0.mk hxy
        clear h2
        rotate_right
        have ct2 : sm x_.f2 y_.f2 = true := sm_true h2
        have K2 := Aside0.mk h2
        clear h2
        have hxy : sm x_ y_ = true := sm_true (S56_ext K0.out K1.out K2.out)
        have hxy := Aside0.mk hxy
        all_goals
          refine start_ (n := 14) (S := fun w' => w'.heap[g1]? = some (.cells #[.string x.f0, .int .i64 x.f1.f0, .int .i64 x.f1.f1, .int .i64 x.f1.f2, .slice A2 x.f2.length A2c, .slice A3 x.f3.length A3c, .slice (some ad) x.f4.length A4c, .int .i64 x.f5.f0, .string x.f5.f1, .string x.f5.f2, .string x.f5.f3, .int .i64 x.f5.f4, .int .i64 x.f5.f5.f0, .int .i64 x.f5.f5.f1, .int .i64 x.f5.f5.f2, .int .i64 x.f5.f6.f0, .int .i64 x.f5.f6.f1, .int .i64 x.f5.f6.f2, .int .i64 x.f5.f6.f3, .int .i64 x.f5.f6.f4.f0, .int .i64 x.f5.f6.f4.f1, .int .i64 x.f5.f6.f4.f2, .int .i64 x.f5.f6.f5.f0, .int .i64 x.f5.f6.f5.f1, .int .i64 x.f5.f6.f5.f2, .int .i64 x.f5.f6.f6.f0, .int .i64 x.f5.f6.f6.f1, .int .i64 x.f5.f6.f7, .slice A7 x.f5.f7.length A7c, .slice A8 x.f5.f8.length A8c] 36 (0, 0)) ∧ w'.heap[g2]? = some (.cells #[.string y.f0, .int .i64 y.f1.f0, .int .i64 y.f1.f1, .int .i64 y.f1.f2, .slice B2 y.f2.length B2c, .slice B3 y.f3.length B3c, .slice (some bd) y.f4.length B4c, .int .i64 y.f5.f0, .string y.f5.f1, .string y.f5.f2, .string y.f5.f3, .int .i64 y.f5.f4, .int .i64 y.f5.f5.f0, .int .i64 y.f5.f5.f1, .int .i64 y.f5.f5.f2, .int .i64 y.f5.f6.f0, .int .i64 y.f5.f6.f1, .int .i64 y.f5.f6.f2, .int .i64 y.f5.f6.f3, .int .i64 y.f5.f6.f4.f0, .int .i64 y.f5.f6.f4.f1, .int .i64 y.f5.f6.f4.f2, .int .i64 y.f5.f6.f5.f0, .int .i64 y.f5.f6.f5.f1, .int .i64 y.f5.f6.f5.f2, .int .i64 y.f5.f6.f6.f0, .int .i64 y.f5.f6.f6.f1, .int .i64 y.f5.f6.f7, .slice B7 y.f5.f7.length B7c, .slice B8 y.f5.f8.length B8c] 36 (0, 0)) ∧ w'.cell? (ad.add (i_.toNat * 7)) = some (.string x_.f0) ∧ w'.cell? ⟨(ad.add (i_.toNat * 7)).block, (ad.add (i_.toNat * 7)).off + 1, none⟩ = some (.slice E1 x_.f1.length E1c) ∧ CSat w' ⟨(ad.add (i_.toNat * 7)).block, (ad.add (i_.toNat * 7)).off + 2, none⟩ [.int .i64 x_.f2.f0, .int .i64 x_.f2.f1, .string x_.f2.f2, .slice E5 x_.f2.f3.length E5c, .slice E6 x_.f2.f4.length E6c] ∧ w'.cell? (bd.add (i_.toNat * 7)) = some (.string y_.f0) ∧ w'.cell? ⟨(bd.add (i_.toNat * 7)).block, (bd.add (i_.toNat * 7)).off + 1, none⟩ = some (.slice F1 y_.f1.length F1c) ∧ CSat w' ⟨(bd.add (i_.toNat * 7)).block, (bd.add (i_.toNat * 7)).off + 2, none⟩ [.int .i64 y_.f2.f0, .int .i64 y_.f2.f1, .string y_.f2.f2, .slice F5 y_.f2.f3.length F5c, .slice F6 y_.f2.f4.length F6c]) (ds := [12]) #[false, false, false, false, false, false, false, false, false, false, false, false, false, false] (by kernel_rfl) rfl rfl ⟨blk_below BK1.out (below_drew1 (Below.refl _ _)), blk_below BK2.out (below_drew1 (Below.refl _ _)), (((below_drew1 (Below.refl _ _))).cell (World.block_lt_of_cell? _ _ HX0.out)).trans HX0.out, (((below_drew1 (Below.refl _ _))).cell (World.block_lt_of_cell? _ _ HX1.out)).trans HX1.out, CSat.below HCS.out (below_drew1 (Below.refl _ _)), (((below_drew1 (Below.refl _ _))).cell (World.block_lt_of_cell? _ _ HY0.out)).trans HY0.out, (((below_drew1 (Below.refl _ _))).cell (World.block_lt_of_cell? _ _ HY1.out)).trans HY1.out, CSat.below HDS.out (below_drew1 (Below.refl _ _))⟩ (fun hHeld => ?_)
          have n0_ := Aside0.mk (below_drew1 HB.out)
          have n1_ := Aside0.mk (blk_drew BK1.out)
          have n2_ := Aside0.mk (blk_drew BK2.out)
          have n3_ := Aside0.mk ((((below_drew1 (Below.refl _ _))).cell (World.block_lt_of_cell? _ _ HX0.out)).trans HX0.out)
          have n4_ := Aside0.mk ((((below_drew1 (Below.refl _ _))).cell (World.block_lt_of_cell? _ _ HX1.out)).trans HX1.out)
          have n5_ := Aside0.mk (CSat.below HCS.out (below_drew1 (Below.refl _ _)))
          have n6_ := Aside0.mk ((((below_drew1 (Below.refl _ _))).cell (World.block_lt_of_cell? _ _ HY0.out)).trans HY0.out)
          have n7_ := Aside0.mk ((((below_drew1 (Below.refl _ _))).cell (World.block_lt_of_cell? _ _ HY1.out)).trans HY1.out)
          have n8_ := Aside0.mk (CSat.below HDS.out (below_drew1 (Below.refl _ _)))
          clear HB BK1 BK2 HX0 HX1 HCS HY0 HY1 HDS
          have HB := n0_
          have BK1 := n1_
          have BK2 := n2_
          have HX0 := n3_
          have HX1 := n4_
          have HCS := n5_
          have HY0 := n6_
          have HY1 := n7_
          have HDS := n8_
          clear n0_ n1_ n2_ n3_ n4_ n5_ n6_ n7_ n8_
          generalize wr.drew = wv6_ at HB BK1 BK2 HX0 HX1 HCS HY0 HY1 HDS hHeld ⊢
          refine pure_ (i := 0) (N := some 66) (v := ?_) (a' := ?_) #[true, false, false, false, false, false, false, false, false, false, false, false, false, false] rfl rfl (by kernel_rfl) (fun _ _ _ h => h) (Or.inl ⟨by rfl, ?_⟩) ?_ ?_
          rotate_left
          · intro w'
            go_simp
            with_reducible rfl
          rotate_left
          · simp only [Act.put, List.setIfInBounds_toArray, List.set_cons_zero, List.set_cons_succ, i64_w, i32_w]
            rfl
          refine pure_ (i := 2) (N := some 68) (v := ?_) (a' := ?_) #[true, false, true, false, false, false, false, false, false, false, false, false, false, false] rfl rfl (by kernel_rfl) (fun _ _ _ h => h) (Or.inl ⟨by rfl, ?_⟩) ?_ ?_
          rotate_left
          · intro w'
            go_simp
            with_reducible rfl
          rotate_left
          · simp only [Act.put, List.setIfInBounds_toArray, List.set_cons_zero, List.set_cons_succ, i64_w, i32_w]
            rfl
          refine pure_ (i := 6) (N := some 72) (v := ?_) (a' := ?_) #[true, false, true, false, false, false, true, false, false, false, false, false, false, false] rfl rfl (by kernel_rfl) (fun _ _ _ h => h) (Or.inl ⟨by rfl, ?_⟩) ?_ ?_
          rotate_left
          · intro w'
            go_simp
            with_reducible rfl
          rotate_left
          · simp only [Act.put, List.setIfInBounds_toArray, List.set_cons_zero, List.set_cons_succ, i64_w, i32_w]
            rfl
          refine pure_ (i := 8) (N := some 74) (v := ?_) (a' := ?_) #[true, false, true, false, false, false, true, false, true, false, false, false, false, false] rfl rfl (by kernel_rfl) (fun _ _ _ h => h) (Or.inl ⟨by rfl, ?_⟩) ?_ ?_
          rotate_left
          · intro w'
            go_simp
            with_reducible rfl
          rotate_left
          · simp only [Act.put, List.setIfInBounds_toArray, List.set_cons_zero, List.set_cons_succ, i64_w, i32_w]
            rfl
          refine take_ (i := 1) (N := some 67) (v := ?_) (a' := ?_) #[true, true, true, false, false, false, true, false, true, false, false, false, false, false] rfl rfl (by kernel_rfl) (fun _ _ _ h => h) (Or.inl ⟨by rfl, ?_⟩) hHeld ?_ ?_
          rotate_left
          · rintro w' ⟨s1, s2, x0, x1, x2, x3, x4, x5⟩
            refine Eq.trans (ld_run rfl (by first | rfl | (go_simp; done) | (go_simp; rfl)) Try.underlying26 trivial (.slice (some ad) x.f4.length A4c) ((blk_cell s1 6).trans rfl)) ?_
            with_reducible rfl
          rotate_left
          · simp only [Act.put, List.setIfInBounds_toArray, List.set_cons_zero, List.set_cons_succ, i64_w, i32_w]
            rfl
          refine take_ (i := 7) (N := some 73) (v := ?_) (a' := ?_) #[true, true, true, false, false, false, true, true, true, false, false, false, false, false] rfl rfl (by kernel_rfl) (fun _ _ _ h => h) (Or.inl ⟨by rfl, ?_⟩) hHeld ?_ ?_
          rotate_left
          · rintro w' ⟨s1, s2, x0, x1, x2, x3, x4, x5⟩
            refine Eq.trans (ld_run rfl (by first | rfl | (go_simp; done) | (go_simp; rfl)) Try.underlying26 trivial (.slice (some bd) y.f4.length B4c) ((blk_cell s2 6).trans rfl)) ?_
            with_reducible rfl
          rotate_left
          · simp only [Act.put, List.setIfInBounds_toArray, List.set_cons_zero, List.set_cons_succ, i64_w, i32_w]
            rfl
          refine pure_ (i := 3) (N := some 69) (v := ?_) (a' := ?_) #[true, true, true, true, false, false, true, true, true, false, false, false, false, false] rfl rfl (by kernel_rfl) (fun _ _ _ h => h) (Or.inl ⟨by rfl, ?_⟩) ?_ ?_
          rotate_left
          · intro w'
            go_simp
            with_reducible rfl
          rotate_left
          · simp only [Act.put, List.setIfInBounds_toArray, List.set_cons_zero, List.set_cons_succ, i64_w, i32_w]
            rfl
          refine pure_ (i := 4) (N := some 70) (v := ?_) (a' := ?_) #[true, true, true, true, true, false, true, true, true, false, false, false, false, false] rfl rfl (by kernel_rfl) (fun _ _ _ h => h) (Or.inl ⟨by rfl, ?_⟩) ?_ ?_
          rotate_left
          · intro w'
            go_simp
            with_reducible rfl
          rotate_left
          · simp only [Act.put, List.setIfInBounds_toArray, List.set_cons_zero, List.set_cons_succ, i64_w, i32_w]
            rfl
          refine pure_ (i := 9) (N := some 75) (v := ?_) (a' := ?_) #[true, true, true, true, true, false, true, true, true, true, false, false, false, false] rfl rfl (by kernel_rfl) (fun _ _ _ h => h) (Or.inl ⟨by rfl, ?_⟩) ?_ ?_
          rotate_left
          · intro w'
            go_simp
            with_reducible rfl
          rotate_left
          · simp only [Act.put, List.setIfInBounds_toArray, List.set_cons_zero, List.set_cons_succ, i64_w, i32_w]
            rfl
          refine pure_ (i := 10) (N := some 76) (v := ?_) (a' := ?_) #[true, true, true, true, true, false, true, true, true, true, true, false, false, false] rfl rfl (by kernel_rfl) (fun _ _ _ h => h) (Or.inl ⟨by rfl, ?_⟩) ?_ ?_
          rotate_left
          · intro w'
            go_simp
            with_reducible rfl
          rotate_left
          · simp only [Act.put, List.setIfInBounds_toArray, List.set_cons_zero, List.set_cons_succ, i64_w, i32_w]
            rfl
          refine take_ (i := 5) (N := some 71) (v := ?_) (a' := ?_) #[true, true, true, true, true, true, true, true, true, true, true, false, false, false] rfl rfl (by kernel_rfl) (fun _ _ _ h => h) (Or.inl ⟨by rfl, ?_⟩) hHeld ?_ ?_
          rotate_left
          · rintro w' ⟨s1, s2, x0, x1, x2, x3, x4, x5⟩
            refine Eq.trans (ld_run rfl (by first | rfl | (go_simp; done) | (go_simp; rfl)) Try.underlying25 trivial (.slice E1 x_.f1.length E1c) x1) ?_
            with_reducible rfl
          rotate_left
          · simp only [Act.put, List.setIfInBounds_toArray, List.set_cons_zero, List.set_cons_succ, i64_w, i32_w]
            rfl
          refine take_ (i := 11) (N := some 77) (v := ?_) (a' := ?_) #[true, true, true, true, true, true, true, true, true, true, true, true, false, false] rfl rfl (by kernel_rfl) (fun _ _ _ h => h) (Or.inl ⟨by rfl, ?_⟩) hHeld ?_ ?_
          rotate_left
          · rintro w' ⟨s1, s2, x0, x1, x2, x3, x4, x5⟩
            refine Eq.trans (ld_run rfl (by first | rfl | (go_simp; done) | (go_simp; rfl)) Try.underlying25 trivial (.slice F1 y_.f1.length F1c) x4) ?_
            with_reducible rfl
          rotate_left
          · simp only [Act.put, List.setIfInBounds_toArray, List.set_cons_zero, List.set_cons_succ, i64_w, i32_w]
            rfl
          refine last_ (i := 12) (N := some 78) #[true, true, true, true, true, true, true, true, true, true, true, true, true, false] rfl rfl (by kernel_rfl) (by decide) (fun K hK => ?_)
          refine goes_ Try.func28 (by kernel_rfl) rfl #[.slice E1 x_.f1.length E1c, .slice F1 y_.f1.length F1c] (by rfl) rfl rfl (by (try simp only [List.map_toArray, List.map_cons, List.map_nil]); first | done | rfl) ?_
          with_reducible refine (sameTexts.calls E1 E1c x_.f1 F1 F1c y_.f1 _ (Kd.C_below E1g.out HB.out) E1l.out (Kd.C_below F1g.out HB.out) F1l.out).mono ?_
          rintro e wv7_ ⟨rfl, hb⟩
          refine ⟨_, rfl, ?_⟩
          have n0_ := Aside0.mk (below_step HB.out hb)
          have n1_ := Aside0.mk (blk_below BK1.out hb)
          have n2_ := Aside0.mk (blk_below BK2.out hb)
          have n3_ := Aside0.mk (((hb).cell (World.block_lt_of_cell? _ _ HX0.out)).trans HX0.out)
          have n4_ := Aside0.mk (((hb).cell (World.block_lt_of_cell? _ _ HX1.out)).trans HX1.out)
          have n5_ := Aside0.mk (CSat.below HCS.out hb)
          have n6_ := Aside0.mk (((hb).cell (World.block_lt_of_cell? _ _ HY0.out)).trans HY0.out)
          have n7_ := Aside0.mk (((hb).cell (World.block_lt_of_cell? _ _ HY1.out)).trans HY1.out)
          have n8_ := Aside0.mk (CSat.below HDS.out hb)
          clear HB BK1 BK2 HX0 HX1 HCS HY0 HY1 HDS
          have HB := n0_
          have BK1 := n1_
          have BK2 := n2_
          have HX0 := n3_
          have HX1 := n4_
          have HCS := n5_
          have HY0 := n6_
          have HY1 := n7_
          have HDS := n8_
          clear n0_ n1_ n2_ n3_ n4_ n5_ n6_ n7_ n8_
          clear hb
          refine hK.out _ _ ?_
          clear hK K
          refine norm_ (a' := ?_) ?_ ?_
          rotate_left
          · show Act.put _ (some 78) _ = _
            simp only [Act.put, List.setIfInBounds_toArray, List.set_cons_zero, List.set_cons_succ, i64_w, i32_w]
            rfl
          refine pure_ (i := 13) (N := some 9) (v := ?_) (a' := ?_) #[true, true, true, true, true, true, true, true, true, true, true, true, true, true] rfl rfl (by kernel_rfl) (fun _ _ _ h => h) (Or.inl ⟨by rfl, ?_⟩) ?_ ?_
          rotate_left
          · intro w'
            go_simp
            with_reducible rfl
          rotate_left
          · simp only [Act.put, List.setIfInBounds_toArray, List.set_cons_zero, List.set_cons_succ, i64_w, i32_w]
            rfl
          refine done_ (by kernel_rfl) ?_
          go_upto_region 10 with (fail)
          refine start_ (n := 14) (S := fun w' => w'.heap[g1]? = some (.cells #[.string x.f0, .int .i64 x.f1.f0, .int .i64 x.f1.f1, .int .i64 x.f1.f2, .slice A2 x.f2.length A2c, .slice A3 x.f3.length A3c, .slice (some ad) x.f4.length A4c, .int .i64 x.f5.f0, .string x.f5.f1, .string x.f5.f2, .string x.f5.f3, .int .i64 x.f5.f4, .int .i64 x.f5.f5.f0, .int .i64 x.f5.f5.f1, .int .i64 x.f5.f5.f2, .int .i64 x.f5.f6.f0, .int .i64 x.f5.f6.f1, .int .i64 x.f5.f6.f2, .int .i64 x.f5.f6.f3, .int .i64 x.f5.f6.f4.f0, .int .i64 x.f5.f6.f4.f1, .int .i64 x.f5.f6.f4.f2, .int .i64 x.f5.f6.f5.f0, .int .i64 x.f5.f6.f5.f1, .int .i64 x.f5.f6.f5.f2, .int .i64 x.f5.f6.f6.f0, .int .i64 x.f5.f6.f6.f1, .int .i64 x.f5.f6.f7, .slice A7 x.f5.f7.length A7c, .slice A8 x.f5.f8.length A8c] 36 (0, 0)) ∧ w'.heap[g2]? = some (.cells #[.string y.f0, .int .i64 y.f1.f0, .int .i64 y.f1.f1, .int .i64 y.f1.f2, .slice B2 y.f2.length B2c, .slice B3 y.f3.length B3c, .slice (some bd) y.f4.length B4c, .int .i64 y.f5.f0, .string y.f5.f1, .string y.f5.f2, .string y.f5.f3, .int .i64 y.f5.f4, .int .i64 y.f5.f5.f0, .int .i64 y.f5.f5.f1, .int .i64 y.f5.f5.f2, .int .i64 y.f5.f6.f0, .int .i64 y.f5.f6.f1, .int .i64 y.f5.f6.f2, .int .i64 y.f5.f6.f3, .int .i64 y.f5.f6.f4.f0, .int .i64 y.f5.f6.f4.f1, .int .i64 y.f5.f6.f4.f2, .int .i64 y.f5.f6.f5.f0, .int .i64 y.f5.f6.f5.f1, .int .i64 y.f5.f6.f5.f2, .int .i64 y.f5.f6.f6.f0, .int .i64 y.f5.f6.f6.f1, .int .i64 y.f5.f6.f7, .slice B7 y.f5.f7.length B7c, .slice B8 y.f5.f8.length B8c] 36 (0, 0)) ∧ w'.cell? (ad.add (i_.toNat * 7)) = some (.string x_.f0) ∧ w'.cell? ⟨(ad.add (i_.toNat * 7)).block, (ad.add (i_.toNat * 7)).off + 1, none⟩ = some (.slice E1 x_.f1.length E1c) ∧ CSat w' ⟨(ad.add (i_.toNat * 7)).block, (ad.add (i_.toNat * 7)).off + 2, none⟩ [.int .i64 x_.f2.f0, .int .i64 x_.f2.f1, .string x_.f2.f2, .slice E5 x_.f2.f3.length E5c, .slice E6 x_.f2.f4.length E6c] ∧ w'.cell? (bd.add (i_.toNat * 7)) = some (.string y_.f0) ∧ w'.cell? ⟨(bd.add (i_.toNat * 7)).block, (bd.add (i_.toNat * 7)).off + 1, none⟩ = some (.slice F1 y_.f1.length F1c) ∧ CSat w' ⟨(bd.add (i_.toNat * 7)).block, (bd.add (i_.toNat * 7)).off + 2, none⟩ [.int .i64 y_.f2.f0, .int .i64 y_.f2.f1, .string y_.f2.f2, .slice F5 y_.f2.f3.length F5c, .slice F6 y_.f2.f4.length F6c]) (ds := [12]) #[false, false, false, false, false, false, false, false, false, false, false, false, false, false] (by kernel_rfl) rfl rfl ⟨blk_below BK1.out (below_drew1 (Below.refl _ _)), blk_below BK2.out (below_drew1 (Below.refl _ _)), (((below_drew1 (Below.refl _ _))).cell (World.block_lt_of_cell? _ _ HX0.out)).trans HX0.out, (((below_drew1 (Below.refl _ _))).cell (World.block_lt_of_cell? _ _ HX1.out)).trans HX1.out, CSat.below HCS.out (below_drew1 (Below.refl _ _)), (((below_drew1 (Below.refl _ _))).cell (World.block_lt_of_cell? _ _ HY0.out)).trans HY0.out, (((below_drew1 (Below.refl _ _))).cell (World.block_lt_of_cell? _ _ HY1.out)).trans HY1.out, CSat.below HDS.out (below_drew1 (Below.refl _ _))⟩ (fun hHeld => ?_)
          have n0_ := Aside0.mk (below_drew1 HB.out)
          have n1_ := Aside0.mk (blk_drew BK1.out)
          have n2_ := Aside0.mk (blk_drew BK2.out)
          have n3_ := Aside0.mk ((((below_drew1 (Below.refl _ _))).cell (World.block_lt_of_cell? _ _ HX0.out)).trans HX0.out)
          have n4_ := Aside0.mk ((((below_drew1 (Below.refl _ _))).cell (World.block_lt_of_cell? _ _ HX1.out)).trans HX1.out)
          have n5_ := Aside0.mk (CSat.below HCS.out (below_drew1 (Below.refl _ _)))
          have n6_ := Aside0.mk ((((below_drew1 (Below.refl _ _))).cell (World.block_lt_of_cell? _ _ HY0.out)).trans HY0.out)
          have n7_ := Aside0.mk ((((below_drew1 (Below.refl _ _))).cell (World.block_lt_of_cell? _ _ HY1.out)).trans HY1.out)
          have n8_ := Aside0.mk (CSat.below HDS.out (below_drew1 (Below.refl _ _)))
          clear HB BK1 BK2 HX0 HX1 HCS HY0 HY1 HDS
          have HB := n0_
          have BK1 := n1_
          have BK2 := n2_
          have HX0 := n3_
          have HX1 := n4_
          have HCS := n5_
          have HY0 := n6_
          have HY1 := n7_
          have HDS := n8_
          clear n0_ n1_ n2_ n3_ n4_ n5_ n6_ n7_ n8_
          generalize wv7_.drew = wv8_ at HB BK1 BK2 HX0 HX1 HCS HY0 HY1 HDS hHeld ⊢
          refine pure_ (i := 0) (N := some 79) (v := ?_) (a' := ?_) #[true, false, false, false, false, false, false, false, false, false, false, false, false, false] rfl rfl (by kernel_rfl) (fun _ _ _ h => h) (Or.inl ⟨by rfl, ?_⟩) ?_ ?_
          rotate_left
          · intro w'
            go_simp
            with_reducible rfl
          rotate_left
          · simp only [Act.put, List.setIfInBounds_toArray, List.set_cons_zero, List.set_cons_succ, i64_w, i32_w]
            rfl
          refine pure_ (i := 2) (N := some 81) (v := ?_) (a' := ?_) #[true, false, true, false, false, false, false, false, false, false, false, false, false, false] rfl rfl (by kernel_rfl) (fun _ _ _ h => h) (Or.inl ⟨by rfl, ?_⟩) ?_ ?_
          rotate_left
          · intro w'
            go_simp
            with_reducible rfl
          rotate_left
          · simp only [Act.put, List.setIfInBounds_toArray, List.set_cons_zero, List.set_cons_succ, i64_w, i32_w]
            rfl
          refine pure_ (i := 6) (N := some 85) (v := ?_) (a' := ?_) #[true, false, true, false, false, false, true, false, false, false, false, false, false, false] rfl rfl (by kernel_rfl) (fun _ _ _ h => h) (Or.inl ⟨by rfl, ?_⟩) ?_ ?_
          rotate_left
          · intro w'
            go_simp
            with_reducible rfl
          rotate_left
          · simp only [Act.put, List.setIfInBounds_toArray, List.set_cons_zero, List.set_cons_succ, i64_w, i32_w]
            rfl
          refine pure_ (i := 8) (N := some 87) (v := ?_) (a' := ?_) #[true, false, true, false, false, false, true, false, true, false, false, false, false, false] rfl rfl (by kernel_rfl) (fun _ _ _ h => h) (Or.inl ⟨by rfl, ?_⟩) ?_ ?_
          rotate_left
          · intro w'
            go_simp
            with_reducible rfl
          rotate_left
          · simp only [Act.put, List.setIfInBounds_toArray, List.set_cons_zero, List.set_cons_succ, i64_w, i32_w]
            rfl
          refine take_ (i := 1) (N := some 80) (v := ?_) (a' := ?_) #[true, true, true, false, false, false, true, false, true, false, false, false, false, false] rfl rfl (by kernel_rfl) (fun _ _ _ h => h) (Or.inl ⟨by rfl, ?_⟩) hHeld ?_ ?_
          rotate_left
          · rintro w' ⟨s1, s2, x0, x1, x2, x3, x4, x5⟩
            refine Eq.trans (ld_run rfl (by first | rfl | (go_simp; done) | (go_simp; rfl)) Try.underlying26 trivial (.slice (some ad) x.f4.length A4c) ((blk_cell s1 6).trans rfl)) ?_
            with_reducible rfl
          rotate_left
          · simp only [Act.put, List.setIfInBounds_toArray, List.set_cons_zero, List.set_cons_succ, i64_w, i32_w]
            rfl
          refine take_ (i := 7) (N := some 86) (v := ?_) (a' := ?_) #[true, true, true, false, false, false, true, true, true, false, false, false, false, false] rfl rfl (by kernel_rfl) (fun _ _ _ h => h) (Or.inl ⟨by rfl, ?_⟩) hHeld ?_ ?_
          rotate_left
          · rintro w' ⟨s1, s2, x0, x1, x2, x3, x4, x5⟩
            refine Eq.trans (ld_run rfl (by first | rfl | (go_simp; done) | (go_simp; rfl)) Try.underlying26 trivial (.slice (some bd) y.f4.length B4c) ((blk_cell s2 6).trans rfl)) ?_
            with_reducible rfl
          rotate_left
          · simp only [Act.put, List.setIfInBounds_toArray, List.set_cons_zero, List.set_cons_succ, i64_w, i32_w]
            rfl
          refine pure_ (i := 3) (N := some 82) (v := ?_) (a' := ?_) #[true, true, true, true, false, false, true, true, true, false, false, false, false, false] rfl rfl (by kernel_rfl) (fun _ _ _ h => h) (Or.inl ⟨by rfl, ?_⟩) ?_ ?_
          rotate_left
          · intro w'
            go_simp
            with_reducible rfl
          rotate_left
          · simp only [Act.put, List.setIfInBounds_toArray, List.set_cons_zero, List.set_cons_succ, i64_w, i32_w]
            rfl
          refine pure_ (i := 4) (N := some 83) (v := ?_) (a' := ?_) #[true, true, true, true, true, false, true, true, true, false, false, false, false, false] rfl rfl (by kernel_rfl) (fun _ _ _ h => h) (Or.inl ⟨by rfl, ?_⟩) ?_ ?_
          rotate_left
          · intro w'
            go_simp
            with_reducible rfl
          rotate_left
          · simp only [Act.put, List.setIfInBounds_toArray, List.set_cons_zero, List.set_cons_succ, i64_w, i32_w]
            rfl
          refine pure_ (i := 9) (N := some 88) (v := ?_) (a' := ?_) #[true, true, true, true, true, false, true, true, true, true, false, false, false, false] rfl rfl (by kernel_rfl) (fun _ _ _ h => h) (Or.inl ⟨by rfl, ?_⟩) ?_ ?_
          rotate_left
          · intro w'
            go_simp
            with_reducible rfl
          rotate_left
          · simp only [Act.put, List.setIfInBounds_toArray, List.set_cons_zero, List.set_cons_succ, i64_w, i32_w]
            rfl
          refine pure_ (i := 10) (N := some 89) (v := ?_) (a' := ?_) #[true, true, true, true, true, false, true, true, true, true, true, false, false, false] rfl rfl (by kernel_rfl) (fun _ _ _ h => h) (Or.inl ⟨by rfl, ?_⟩) ?_ ?_
          rotate_left
          · intro w'
            go_simp
            with_reducible rfl
          rotate_left
          · simp only [Act.put, List.setIfInBounds_toArray, List.set_cons_zero, List.set_cons_succ, i64_w, i32_w]
            rfl
          refine take_ (i := 5) (N := some 84) (v := ?_) (a' := ?_) #[true, true, true, true, true, true, true, true, true, true, true, false, false, false] rfl rfl (by kernel_rfl) (fun _ _ _ h => h) (Or.inl ⟨by rfl, ?_⟩) hHeld ?_ ?_
          rotate_left
          · rintro w' ⟨s1, s2, x0, x1, x2, x3, x4, x5⟩
            refine Eq.trans (lds_run rfl (by first | rfl | (go_simp; done) | (go_simp; rfl)) Try.underlying54 ⟨_, rfl⟩ [.int .i64 x_.f2.f0, .int .i64 x_.f2.f1, .string x_.f2.f2, .slice E5 x_.f2.f3.length E5c, .slice E6 x_.f2.f4.length E6c] size54 x2) ?_
            with_reducible rfl
          rotate_left
          · simp only [Act.put, List.setIfInBounds_toArray, List.set_cons_zero, List.set_cons_succ, i64_w, i32_w]
            rfl
          refine take_ (i := 11) (N := some 90) (v := ?_) (a' := ?_) #[true, true, true, true, true, true, true, true, true, true, true, true, false, false] rfl rfl (by kernel_rfl) (fun _ _ _ h => h) (Or.inl ⟨by rfl, ?_⟩) hHeld ?_ ?_
          rotate_left
          · rintro w' ⟨s1, s2, x0, x1, x2, x3, x4, x5⟩
            refine Eq.trans (lds_run rfl (by first | rfl | (go_simp; done) | (go_simp; rfl)) Try.underlying54 ⟨_, rfl⟩ [.int .i64 y_.f2.f0, .int .i64 y_.f2.f1, .string y_.f2.f2, .slice F5 y_.f2.f3.length F5c, .slice F6 y_.f2.f4.length F6c] size54 x5) ?_
            with_reducible rfl
          rotate_left
          · simp only [Act.put, List.setIfInBounds_toArray, List.set_cons_zero, List.set_cons_succ, i64_w, i32_w]
            rfl
          refine last_ (i := 12) (N := some 91) #[true, true, true, true, true, true, true, true, true, true, true, true, true, false] rfl rfl (by kernel_rfl) (by decide) (fun K hK => ?_)
          refine goes_ Try.func29 (by kernel_rfl) rfl #[.agg #[.int .i64 x_.f2.f0, .int .i64 x_.f2.f1, .string x_.f2.f2, .slice E5 x_.f2.f3.length E5c, .slice E6 x_.f2.f4.length E6c], .agg #[.int .i64 y_.f2.f0, .int .i64 y_.f2.f1, .string y_.f2.f2, .slice F5 y_.f2.f3.length F5c, .slice F6 y_.f2.f4.length F6c]] (by rfl) rfl rfl (by (try simp only [List.map_toArray, List.map_cons, List.map_nil]); first | done | rfl) ?_
          with_reducible refine (EqOK.calls (sameExpr.all x_.f2 y_.f2 (HW4.out _ HM1.out)) [.int .i64 x_.f2.f0, .int .i64 x_.f2.f1, .string x_.f2.f2, .slice E5 x_.f2.f3.length E5c, .slice E6 x_.f2.f4.length E6c] [.int .i64 y_.f2.f0, .int .i64 y_.f2.f1, .string y_.f2.f2, .slice F5 y_.f2.f3.length F5c, .slice F6 y_.f2.f4.length F6c] _ (k54_mk _ x_.f2 E5l.out (Kd.C_below E5g.out HB.out) E6l.out (Kd.C_below E6g.out HB.out)) (k54_mk _ y_.f2 F5l.out (Kd.C_below F5g.out HB.out) F6l.out (Kd.C_below F6g.out HB.out))).mono ?_
          rintro e wv9_ ⟨rfl, hb⟩
          refine ⟨_, rfl, ?_⟩
          have n0_ := Aside0.mk (below_step HB.out hb)
          have n1_ := Aside0.mk (blk_below BK1.out hb)
          have n2_ := Aside0.mk (blk_below BK2.out hb)
          have n3_ := Aside0.mk (((hb).cell (World.block_lt_of_cell? _ _ HX0.out)).trans HX0.out)
          have n4_ := Aside0.mk (((hb).cell (World.block_lt_of_cell? _ _ HX1.out)).trans HX1.out)
          have n5_ := Aside0.mk (CSat.below HCS.out hb)
          have n6_ := Aside0.mk (((hb).cell (World.block_lt_of_cell? _ _ HY0.out)).trans HY0.out)
          have n7_ := Aside0.mk (((hb).cell (World.block_lt_of_cell? _ _ HY1.out)).trans HY1.out)
          have n8_ := Aside0.mk (CSat.below HDS.out hb)
          clear HB BK1 BK2 HX0 HX1 HCS HY0 HY1 HDS
          have HB := n0_
          have BK1 := n1_
          have BK2 := n2_
          have HX0 := n3_
          have HX1 := n4_
          have HCS := n5_
          have HY0 := n6_
          have HY1 := n7_
          have HDS := n8_
          clear n0_ n1_ n2_ n3_ n4_ n5_ n6_ n7_ n8_
          clear hb
          refine hK.out _ _ ?_
          clear hK K
          refine norm_ (a' := ?_) ?_ ?_
          rotate_left
          · show Act.put _ (some 91) _ = _
            simp only [Act.put, List.setIfInBounds_toArray, List.set_cons_zero, List.set_cons_succ, i64_w, i32_w]
            rfl
          refine pure_ (i := 13) (N := some 10) (v := ?_) (a' := ?_) #[true, true, true, true, true, true, true, true, true, true, true, true, true, true] rfl rfl (by kernel_rfl) (fun _ _ _ h => h) (Or.inl ⟨by rfl, ?_⟩) ?_ ?_
          rotate_left
          · intro w'
            go_simp
            with_reducible rfl
          rotate_left
          · simp only [Act.put, List.setIfInBounds_toArray, List.set_cons_zero, List.set_cons_succ, i64_w, i32_w]
            rfl
          refine done_ (by kernel_rfl) ?_
          go_upto_region 11 with (fail)
          refine start_ (n := 21) (S := fun w' => w'.heap[g1]? = some (.cells #[.string x.f0, .int .i64 x.f1.f0, .int .i64 x.f1.f1, .int .i64 x.f1.f2, .slice A2 x.f2.length A2c, .slice A3 x.f3.length A3c, .slice (some ad) x.f4.length A4c, .int .i64 x.f5.f0, .string x.f5.f1, .string x.f5.f2, .string x.f5.f3, .int .i64 x.f5.f4, .int .i64 x.f5.f5.f0, .int .i64 x.f5.f5.f1, .int .i64 x.f5.f5.f2, .int .i64 x.f5.f6.f0, .int .i64 x.f5.f6.f1, .int .i64 x.f5.f6.f2, .int .i64 x.f5.f6.f3, .int .i64 x.f5.f6.f4.f0, .int .i64 x.f5.f6.f4.f1, .int .i64 x.f5.f6.f4.f2, .int .i64 x.f5.f6.f5.f0, .int .i64 x.f5.f6.f5.f1, .int .i64 x.f5.f6.f5.f2, .int .i64 x.f5.f6.f6.f0, .int .i64 x.f5.f6.f6.f1, .int .i64 x.f5.f6.f7, .slice A7 x.f5.f7.length A7c, .slice A8 x.f5.f8.length A8c] 36 (0, 0)) ∧ w'.heap[g2]? = some (.cells #[.string y.f0, .int .i64 y.f1.f0, .int .i64 y.f1.f1, .int .i64 y.f1.f2, .slice B2 y.f2.length B2c, .slice B3 y.f3.length B3c, .slice (some bd) y.f4.length B4c, .int .i64 y.f5.f0, .string y.f5.f1, .string y.f5.f2, .string y.f5.f3, .int .i64 y.f5.f4, .int .i64 y.f5.f5.f0, .int .i64 y.f5.f5.f1, .int .i64 y.f5.f5.f2, .int .i64 y.f5.f6.f0, .int .i64 y.f5.f6.f1, .int .i64 y.f5.f6.f2, .int .i64 y.f5.f6.f3, .int .i64 y.f5.f6.f4.f0, .int .i64 y.f5.f6.f4.f1, .int .i64 y.f5.f6.f4.f2, .int .i64 y.f5.f6.f5.f0, .int .i64 y.f5.f6.f5.f1, .int .i64 y.f5.f6.f5.f2, .int .i64 y.f5.f6.f6.f0, .int .i64 y.f5.f6.f6.f1, .int .i64 y.f5.f6.f7, .slice B7 y.f5.f7.length B7c, .slice B8 y.f5.f8.length B8c] 36 (0, 0)) ∧ w'.cell? (ad.add (i_.toNat * 7)) = some (.string x_.f0) ∧ w'.cell? ⟨(ad.add (i_.toNat * 7)).block, (ad.add (i_.toNat * 7)).off + 1, none⟩ = some (.slice E1 x_.f1.length E1c) ∧ CSat w' ⟨(ad.add (i_.toNat * 7)).block, (ad.add (i_.toNat * 7)).off + 2, none⟩ [.int .i64 x_.f2.f0, .int .i64 x_.f2.f1, .string x_.f2.f2, .slice E5 x_.f2.f3.length E5c, .slice E6 x_.f2.f4.length E6c] ∧ w'.cell? (bd.add (i_.toNat * 7)) = some (.string y_.f0) ∧ w'.cell? ⟨(bd.add (i_.toNat * 7)).block, (bd.add (i_.toNat * 7)).off + 1, none⟩ = some (.slice F1 y_.f1.length F1c) ∧ CSat w' ⟨(bd.add (i_.toNat * 7)).block, (bd.add (i_.toNat * 7)).off + 2, none⟩ [.int .i64 y_.f2.f0, .int .i64 y_.f2.f1, .string y_.f2.f2, .slice F5 y_.f2.f3.length F5c, .slice F6 y_.f2.f4.length F6c]) (ds := []) #[false, false, false, false, false, false, false, false, false, false, false, false, false, false, false, false, false, false, false, false, false] (by kernel_rfl) rfl rfl ⟨blk_below BK1.out (below_drew1 (Below.refl _ _)), blk_below BK2.out (below_drew1 (Below.refl _ _)), (((below_drew1 (Below.refl _ _))).cell (World.block_lt_of_cell? _ _ HX0.out)).trans HX0.out, (((below_drew1 (Below.refl _ _))).cell (World.block_lt_of_cell? _ _ HX1.out)).trans HX1.out, CSat.below HCS.out (below_drew1 (Below.refl _ _)), (((below_drew1 (Below.refl _ _))).cell (World.block_lt_of_cell? _ _ HY0.out)).trans HY0.out, (((below_drew1 (Below.refl _ _))).cell (World.block_lt_of_cell? _ _ HY1.out)).trans HY1.out, CSat.below HDS.out (below_drew1 (Below.refl _ _))⟩ (fun hHeld => ?_)
          have n0_ := Aside0.mk (below_drew1 HB.out)
          have n1_ := Aside0.mk (blk_drew BK1.out)
          have n2_ := Aside0.mk (blk_drew BK2.out)
          have n3_ := Aside0.mk ((((below_drew1 (Below.refl _ _))).cell (World.block_lt_of_cell? _ _ HX0.out)).trans HX0.out)
          have n4_ := Aside0.mk ((((below_drew1 (Below.refl _ _))).cell (World.block_lt_of_cell? _ _ HX1.out)).trans HX1.out)
          have n5_ := Aside0.mk (CSat.below HCS.out (below_drew1 (Below.refl _ _)))
          have n6_ := Aside0.mk ((((below_drew1 (Below.refl _ _))).cell (World.block_lt_of_cell? _ _ HY0.out)).trans HY0.out)
          have n7_ := Aside0.mk ((((below_drew1 (Below.refl _ _))).cell (World.block_lt_of_cell? _ _ HY1.out)).trans HY1.out)
          have n8_ := Aside0.mk (CSat.below HDS.out (below_drew1 (Below.refl _ _)))
          clear HB BK1 BK2 HX0 HX1 HCS HY0 HY1 HDS
          have HB := n0_
          have BK1 := n1_
          have BK2 := n2_
          have HX0 := n3_
          have HX1 := n4_
          have HCS := n5_
          have HY0 := n6_
          have HY1 := n7_
          have HDS := n8_
          clear n0_ n1_ n2_ n3_ n4_ n5_ n6_ n7_ n8_
          generalize wv9_.drew = wv10_ at HB BK1 BK2 HX0 HX1 HCS HY0 HY1 HDS hHeld ⊢
          refine pure_ (i := 0) (N := some 92) (v := ?_) (a' := ?_) #[true, false, false, false, false, false, false, false, false, false, false, false, false, false, false, false, false, false, false, false, false] rfl rfl (by kernel_rfl) (fun _ _ _ h => h) (Or.inl ⟨by rfl, ?_⟩) ?_ ?_
          rotate_left
          · intro w'
            go_simp
            with_reducible rfl
          rotate_left
          · simp only [Act.put, List.setIfInBounds_toArray, List.set_cons_zero, List.set_cons_succ, i64_w, i32_w]
            rfl
          refine pure_ (i := 2) (N := some 94) (v := ?_) (a' := ?_) #[true, false, true, false, false, false, false, false, false, false, false, false, false, false, false, false, false, false, false, false, false] rfl rfl (by kernel_rfl) (fun _ _ _ h => h) (Or.inl ⟨by rfl, ?_⟩) ?_ ?_
          rotate_left
          · intro w'
            go_simp
            with_reducible rfl
          rotate_left
          · simp only [Act.put, List.setIfInBounds_toArray, List.set_cons_zero, List.set_cons_succ, i64_w, i32_w]
            rfl
          refine pure_ (i := 6) (N := some 98) (v := ?_) (a' := ?_) #[true, false, true, false, false, false, true, false, false, false, false, false, false, false, false, false, false, false, false, false, false] rfl rfl (by kernel_rfl) (fun _ _ _ h => h) (Or.inl ⟨by rfl, ?_⟩) ?_ ?_
          rotate_left
          · intro w'
            go_simp
            with_reducible rfl
          rotate_left
          · simp only [Act.put, List.setIfInBounds_toArray, List.set_cons_zero, List.set_cons_succ, i64_w, i32_w]
            rfl
          refine pure_ (i := 8) (N := some 100) (v := ?_) (a' := ?_) #[true, false, true, false, false, false, true, false, true, false, false, false, false, false, false, false, false, false, false, false, false] rfl rfl (by kernel_rfl) (fun _ _ _ h => h) (Or.inl ⟨by rfl, ?_⟩) ?_ ?_
          rotate_left
          · intro w'
            go_simp
            with_reducible rfl
          rotate_left
          · simp only [Act.put, List.setIfInBounds_toArray, List.set_cons_zero, List.set_cons_succ, i64_w, i32_w]
            rfl
          refine take_ (i := 1) (N := some 93) (v := ?_) (a' := ?_) #[true, true, true, false, false, false, true, false, true, false, false, false, false, false, false, false, false, false, false, false, false] rfl rfl (by kernel_rfl) (fun _ _ _ h => h) (Or.inl ⟨by rfl, ?_⟩) hHeld ?_ ?_
          rotate_left
          · rintro w' ⟨s1, s2, x0, x1, x2, x3, x4, x5⟩
            refine Eq.trans (ld_run rfl (by first | rfl | (go_simp; done) | (go_simp; rfl)) Try.underlying26 trivial (.slice (some ad) x.f4.length A4c) ((blk_cell s1 6).trans rfl)) ?_
            with_reducible rfl
          rotate_left
          · simp only [Act.put, List.setIfInBounds_toArray, List.set_cons_zero, List.set_cons_succ, i64_w, i32_w]
            rfl
          refine take_ (i := 7) (N := some 99) (v := ?_) (a' := ?_) #[true, true, true, false, false, false, true, true, true, false, false, false, false, false, false, false, false, false, false, false, false] rfl rfl (by kernel_rfl) (fun _ _ _ h => h) (Or.inl ⟨by rfl, ?_⟩) hHeld ?_ ?_
          rotate_left
          · rintro w' ⟨s1, s2, x0, x1, x2, x3, x4, x5⟩
            refine Eq.trans (ld_run rfl (by first | rfl | (go_simp; done) | (go_simp; rfl)) Try.underlying26 trivial (.slice (some bd) y.f4.length B4c) ((blk_cell s2 6).trans rfl)) ?_
            with_reducible rfl
          rotate_left
          · simp only [Act.put, List.setIfInBounds_toArray, List.set_cons_zero, List.set_cons_succ, i64_w, i32_w]
            rfl
          refine pure_ (i := 3) (N := some 95) (v := ?_) (a' := ?_) #[true, true, true, true, false, false, true, true, true, false, false, false, false, false, false, false, false, false, false, false, false] rfl rfl (by kernel_rfl) (fun _ _ _ h => h) (Or.inl ⟨by rfl, ?_⟩) ?_ ?_
          rotate_left
          · intro w'
            go_simp
            with_reducible rfl
          rotate_left
          · simp only [Act.put, List.setIfInBounds_toArray, List.set_cons_zero, List.set_cons_succ, i64_w, i32_w]
            rfl
          refine pure_ (i := 4) (N := some 96) (v := ?_) (a' := ?_) #[true, true, true, true, true, false, true, true, true, false, false, false, false, false, false, false, false, false, false, false, false] rfl rfl (by kernel_rfl) (fun _ _ _ h => h) (Or.inl ⟨by rfl, ?_⟩) ?_ ?_
          rotate_left
          · intro w'
            go_simp
            with_reducible rfl
          rotate_left
          · simp only [Act.put, List.setIfInBounds_toArray, List.set_cons_zero, List.set_cons_succ, i64_w, i32_w]
            rfl
          refine pure_ (i := 9) (N := some 101) (v := ?_) (a' := ?_) #[true, true, true, true, true, false, true, true, true, true, false, false, false, false, false, false, false, false, false, false, false] rfl rfl (by kernel_rfl) (fun _ _ _ h => h) (Or.inl ⟨by rfl, ?_⟩) ?_ ?_
          rotate_left
          · intro w'
            go_simp
            with_reducible rfl
          rotate_left
          · simp only [Act.put, List.setIfInBounds_toArray, List.set_cons_zero, List.set_cons_succ, i64_w, i32_w]
            rfl
          refine pure_ (i := 10) (N := some 102) (v := ?_) (a' := ?_) #[true, true, true, true, true, false, true, true, true, true, true, false, false, false, false, false, false, false, false, false, false] rfl rfl (by kernel_rfl) (fun _ _ _ h => h) (Or.inl ⟨by rfl, ?_⟩) ?_ ?_
          rotate_left
          · intro w'
            go_simp
            with_reducible rfl
          rotate_left
          · simp only [Act.put, List.setIfInBounds_toArray, List.set_cons_zero, List.set_cons_succ, i64_w, i32_w]
            rfl
          refine take_ (i := 5) (N := some 97) (v := ?_) (a' := ?_) #[true, true, true, true, true, true, true, true, true, true, true, false, false, false, false, false, false, false, false, false, false] rfl rfl (by kernel_rfl) (fun _ _ _ h => h) (Or.inl ⟨by rfl, ?_⟩) hHeld ?_ ?_
          rotate_left
          · rintro w' ⟨s1, s2, x0, x1, x2, x3, x4, x5⟩
            refine Eq.trans (ld_run rfl (by first | rfl | (go_simp; done) | (go_simp; rfl)) Try.underlying9 trivial (.string x_.f0) x0) ?_
            with_reducible rfl
          rotate_left
          · simp only [Act.put, List.setIfInBounds_toArray, List.set_cons_zero, List.set_cons_succ, i64_w, i32_w]
            rfl
          refine take_ (i := 11) (N := some 103) (v := ?_) (a' := ?_) #[true, true, true, true, true, true, true, true, true, true, true, true, false, false, false, false, false, false, false, false, false] rfl rfl (by kernel_rfl) (fun _ _ _ h => h) (Or.inl ⟨by rfl, ?_⟩) hHeld ?_ ?_
          rotate_left
          · rintro w' ⟨s1, s2, x0, x1, x2, x3, x4, x5⟩
            refine Eq.trans (ld_run rfl (by first | rfl | (go_simp; done) | (go_simp; rfl)) Try.underlying9 trivial (.string y_.f0) x3) ?_
            with_reducible rfl
          rotate_left
          · simp only [Act.put, List.setIfInBounds_toArray, List.set_cons_zero, List.set_cons_succ, i64_w, i32_w]
            rfl
          refine pure_ (i := 12) (N := some 104) (v := ?_) (a' := ?_) #[true, true, true, true, true, true, true, true, true, true, true, true, true, false, false, false, false, false, false, false, false] rfl rfl (by kernel_rfl) (fun _ _ _ h => h) (Or.inl ⟨by rfl, ?_⟩) ?_ ?_
          rotate_left
          · intro w'
            go_simp
            with_reducible rfl
          rotate_left
          · simp only [Act.put, List.setIfInBounds_toArray, List.set_cons_zero, List.set_cons_succ, i64_w, i32_w]
            rfl
          refine pure_ (i := 13) (N := some 105) (v := ?_) (a' := ?_) #[true, true, true, true, true, true, true, true, true, true, true, true, true, true, false, false, false, false, false, false, false] rfl rfl (by kernel_rfl) (fun _ _ _ h => h) (Or.inl ⟨by rfl, ?_⟩) ?_ ?_
          rotate_left
          · intro w'
            go_simp
            with_reducible rfl
          rotate_left
          · simp only [Act.put, List.setIfInBounds_toArray, List.set_cons_zero, List.set_cons_succ, i64_w, i32_w]
            rfl
          first
          | (refine pure_ (i := 14) (N := some 106) (v := ?_) (a' := ?_) #[true, true, true, true, true, true, true, true, true, true, true, true, true, true, true, false, false, false, false, false, false] rfl rfl (by kernel_rfl) (fun _ _ _ h => h) (Or.inl ⟨by rfl, ?_⟩) ?_ ?_
             rotate_left
             · intro w'
               go_simp
               with_reducible rfl
             rotate_left
             · simp only [Act.put, List.setIfInBounds_toArray, List.set_cons_zero, List.set_cons_succ, i64_w, i32_w]
               rfl)
          | (refine pure_ (i := 14) (N := some 106) (v := undef) (a' := ?_) #[true, true, true, true, true, true, true, true, true, true, true, true, true, true, true, false, false, false, false, false, false] rfl rfl (by kernel_rfl) (fun _ _ _ h => h) (Or.inr ⟨by first | rfl | (go_simp; done) | (go_simp; rfl), rfl⟩) ?_ ?_
             rotate_left
             · simp only [Act.put, List.setIfInBounds_toArray, List.set_cons_zero, List.set_cons_succ, i64_w, i32_w]
               rfl)
          first
          | (refine pure_ (i := 15) (N := some 107) (v := ?_) (a' := ?_) #[true, true, true, true, true, true, true, true, true, true, true, true, true, true, true, true, false, false, false, false, false] rfl rfl (by kernel_rfl) (fun _ _ _ h => h) (Or.inl ⟨by rfl, ?_⟩) ?_ ?_
             rotate_left
             · intro w'
               go_simp
               with_reducible rfl
             rotate_left
             · simp only [Act.put, List.setIfInBounds_toArray, List.set_cons_zero, List.set_cons_succ, i64_w, i32_w]
               rfl)
          | (refine pure_ (i := 15) (N := some 107) (v := undef) (a' := ?_) #[true, true, true, true, true, true, true, true, true, true, true, true, true, true, true, true, false, false, false, false, false] rfl rfl (by kernel_rfl) (fun _ _ _ h => h) (Or.inr ⟨by first | rfl | (go_simp; done) | (go_simp; rfl), rfl⟩) ?_ ?_
             rotate_left
             · simp only [Act.put, List.setIfInBounds_toArray, List.set_cons_zero, List.set_cons_succ, i64_w, i32_w]
               rfl)
          refine pure_ (i := 16) (N := some 108) (v := ?_) (a' := ?_) #[true, true, true, true, true, true, true, true, true, true, true, true, true, true, true, true, true, false, false, false, false] rfl rfl (by kernel_rfl) (fun _ _ _ h => h) (Or.inl ⟨by rfl, ?_⟩) ?_ ?_
          rotate_left
          · intro w'
            go_simp
            with_reducible rfl
          rotate_left
          · simp only [Act.put, List.setIfInBounds_toArray, List.set_cons_zero, List.set_cons_succ, i64_w, i32_w]
            rfl
          refine pure_ (i := 17) (N := some 109) (v := ?_) (a' := ?_) #[true, true, true, true, true, true, true, true, true, true, true, true, true, true, true, true, true, true, false, false, false] rfl rfl (by kernel_rfl) (fun _ _ _ h => h) (Or.inl ⟨by rfl, ?_⟩) ?_ ?_
          rotate_left
          · intro w'
            go_simp
            with_reducible rfl
          rotate_left
          · simp only [Act.put, List.setIfInBounds_toArray, List.set_cons_zero, List.set_cons_succ, i64_w, i32_w]
            rfl
          first
          | (refine pure_ (i := 18) (N := some 110) (v := ?_) (a' := ?_) #[true, true, true, true, true, true, true, true, true, true, true, true, true, true, true, true, true, true, true, false, false] rfl rfl (by kernel_rfl) (fun _ _ _ h => h) (Or.inl ⟨by rfl, ?_⟩) ?_ ?_
             rotate_left
             · intro w'
               go_simp
               with_reducible rfl
             rotate_left
             · simp only [Act.put, List.setIfInBounds_toArray, List.set_cons_zero, List.set_cons_succ, i64_w, i32_w]
               rfl)
          | (refine pure_ (i := 18) (N := some 110) (v := undef) (a' := ?_) #[true, true, true, true, true, true, true, true, true, true, true, true, true, true, true, true, true, true, true, false, false] rfl rfl (by kernel_rfl) (fun _ _ _ h => h) (Or.inr ⟨by first | rfl | (go_simp; done) | (go_simp; rfl), rfl⟩) ?_ ?_
             rotate_left
             · simp only [Act.put, List.setIfInBounds_toArray, List.set_cons_zero, List.set_cons_succ, i64_w, i32_w]
               rfl)
          first
          | (refine pure_ (i := 19) (N := some 111) (v := ?_) (a' := ?_) #[true, true, true, true, true, true, true, true, true, true, true, true, true, true, true, true, true, true, true, true, false] rfl rfl (by kernel_rfl) (fun _ _ _ h => h) (Or.inl ⟨by rfl, ?_⟩) ?_ ?_
             rotate_left
             · intro w'
               go_simp
               with_reducible rfl
             rotate_left
             · simp only [Act.put, List.setIfInBounds_toArray, List.set_cons_zero, List.set_cons_succ, i64_w, i32_w]
               rfl)
          | (refine pure_ (i := 19) (N := some 111) (v := undef) (a' := ?_) #[true, true, true, true, true, true, true, true, true, true, true, true, true, true, true, true, true, true, true, true, false] rfl rfl (by kernel_rfl) (fun _ _ _ h => h) (Or.inr ⟨by first | rfl | (go_simp; done) | (go_simp; rfl), rfl⟩) ?_ ?_
             rotate_left
             · simp only [Act.put, List.setIfInBounds_toArray, List.set_cons_zero, List.set_cons_succ, i64_w, i32_w]
               rfl)
          refine pure_ (i := 20) (N := some 112) (v := ?_) (a' := ?_) #[true, true, true, true, true, true, true, true, true, true, true, true, true, true, true, true, true, true, true, true, true] rfl rfl (by kernel_rfl) (fun _ _ _ h => h) (Or.inl ⟨by rfl, ?_⟩) ?_ ?_
          rotate_left
          · intro w'
            go_simp
            with_reducible rfl
          rotate_left
          · simp only [Act.put, List.setIfInBounds_toArray, List.set_cons_zero, List.set_cons_succ, i64_w, i32_w]
            rfl
          refine done_ (by kernel_rfl) ?_
          go_wp2
          replace hxy := hxy.out
        · go_roundg (gk - 1)
          case measure => have := HQ.out; have := HC_.out; omega
          case rel => exact ⟨i_ + 1, by rw [show wrap64 (i_ + 1) = i_ + 1 from by have := HQ.out; have := HC_.out; have := Kd.C_max G4.out; unfold wrap64; omega], ⟨by have := HQ.out; have := HC_.out; omega⟩, ⟨by rw [← HX.out, HN.out, hxy, Bool.true_and]⟩, BK1, BK2, HB⟩
        all_goals
          have hsm : sm x y = false := sm_false (fun e => by have h8 : sm x.f4 y.f4 = false := (by rw [← HX.out, HN.out, hxy, Bool.false_and]); rw [e, sm_self] at h8; cases h8)
          go_ret
          exact ⟨by rw [hsm]; rfl, HB.out⟩
      · have cb : decide (i_ < (x.f4.length : Int)) = false := decide_eq_false c_
        have hsm4 : sm x.f4 y.f4 = true := by rw [← HX.out]; exact sm_end _ _ _ (by omega) (by have := HL4.out; omega)
        have hsm : sm x y = true := sm_true (S36_ext H0.out H1.out H2.out H3.out (sm_iff.1 hsm4) H4.out)
        clear c_ HQ HX hsm4
        go_wp2_with (first | ((with_reducible refine gate_dst (N := 61) rfl ?_); (try (refine gate_guard (by rfl) ?_; dsimp only)); refine ld_event rfl rfl (by first | rfl | (go_simp; done) | (go_simp; rfl)) Try.underlying26 trivial (.slice A4 x.f4.length A4c) ((blk_cell BK1.out 6).trans rfl) ?_))
        go_ret
        exact ⟨by rw [hsm]; rfl, HB.out⟩
  all_goals
    go_enter Try.func8, Try.ntmps8
    go_wp2_with (first | ((with_reducible refine gate_dst (N := 2) rfl ?_); (try (refine gate_guard (by rfl) ?_; dsimp only)); refine box_event ?hg (N := 2) ?hd (cs := #[.string x.f0, .int .i64 x.f1.f0, .int .i64 x.f1.f1, .int .i64 x.f1.f2, .slice A2 x.f2.length A2c, .slice A3 x.f3.length A3c, .slice A4 x.f4.length A4c, .int .i64 x.f5.f0, .string x.f5.f1, .string x.f5.f2, .string x.f5.f3, .int .i64 x.f5.f4, .int .i64 x.f5.f5.f0, .int .i64 x.f5.f5.f1, .int .i64 x.f5.f5.f2, .int .i64 x.f5.f6.f0, .int .i64 x.f5.f6.f1, .int .i64 x.f5.f6.f2, .int .i64 x.f5.f6.f3, .int .i64 x.f5.f6.f4.f0, .int .i64 x.f5.f6.f4.f1, .int .i64 x.f5.f6.f4.f2, .int .i64 x.f5.f6.f5.f0, .int .i64 x.f5.f6.f5.f1, .int .i64 x.f5.f6.f5.f2, .int .i64 x.f5.f6.f6.f0, .int .i64 x.f5.f6.f6.f1, .int .i64 x.f5.f6.f7, .slice A7 x.f5.f7.length A7c, .slice A8 x.f5.f8.length A8c]) (t := 36) ?hr ?_; (case hd => rfl); (case hg => rfl); (case hr => first | (go_simp; done) | (go_simp; rfl)); intro g1 hg wv1_ hbox hb; have n0_ := Aside0.mk (below_step HB.out hb); have n1_ := Aside0.mk (hbox); have n2_ := Aside0.mk ((show w.heap.size ≤ g1 by rw [hg]; exact below_size HB.out)); clear HB; have HB := n0_; have BK1 := n1_; have ORD := n2_; clear n0_ n1_ n2_; clear hb hbox hg) | ((with_reducible refine gate_dst (N := 3) rfl ?_); (try (refine gate_guard (by rfl) ?_; dsimp only)); refine box_event ?hg (N := 3) ?hd (cs := #[.string y.f0, .int .i64 y.f1.f0, .int .i64 y.f1.f1, .int .i64 y.f1.f2, .slice B2 y.f2.length B2c, .slice B3 y.f3.length B3c, .slice B4 y.f4.length B4c, .int .i64 y.f5.f0, .string y.f5.f1, .string y.f5.f2, .string y.f5.f3, .int .i64 y.f5.f4, .int .i64 y.f5.f5.f0, .int .i64 y.f5.f5.f1, .int .i64 y.f5.f5.f2, .int .i64 y.f5.f6.f0, .int .i64 y.f5.f6.f1, .int .i64 y.f5.f6.f2, .int .i64 y.f5.f6.f3, .int .i64 y.f5.f6.f4.f0, .int .i64 y.f5.f6.f4.f1, .int .i64 y.f5.f6.f4.f2, .int .i64 y.f5.f6.f5.f0, .int .i64 y.f5.f6.f5.f1, .int .i64 y.f5.f6.f5.f2, .int .i64 y.f5.f6.f6.f0, .int .i64 y.f5.f6.f6.f1, .int .i64 y.f5.f6.f7, .slice B7 y.f5.f7.length B7c, .slice B8 y.f5.f8.length B8c]) (t := 36) ?hr ?_; (case hd => rfl); (case hg => rfl); (case hr => first | (go_simp; done) | (go_simp; rfl)); intro g2 hg wv2_ hbox hb; have n0_ := Aside0.mk (below_step HB.out hb); have n1_ := Aside0.mk (blk_below BK1.out hb); have n2_ := Aside0.mk (hbox); have n3_ := Aside0.mk (And.intro ORD.out (show g1 < g2 by rw [hg]; exact blk_lt BK1.out)); clear HB BK1 ORD; have HB := n0_; have BK1 := n1_; have BK2 := n2_; have ORD := n3_; clear n0_ n1_ n2_ n3_; clear hb hbox hg) | ((with_reducible refine gate_dst (N := 12) rfl ?_); (try (refine gate_guard (by rfl) ?_; dsimp only)); refine ld_event rfl rfl (by first | rfl | (go_simp; done) | (go_simp; rfl)) Try.underlying24 trivial (.slice A2 x.f2.length A2c) ((blk_cell BK1.out 4).trans rfl) ?_) | ((with_reducible refine gate_dst (N := 14) rfl ?_); (try (refine gate_guard (by rfl) ?_; dsimp only)); refine ld_event rfl rfl (by first | rfl | (go_simp; done) | (go_simp; rfl)) Try.underlying24 trivial (.slice B2 y.f2.length B2c) ((blk_cell BK2.out 4).trans rfl) ?_) | ((with_reducible refine gate_dst (N := 17) rfl ?_); (try (refine gate_guard (by rfl) ?_; dsimp only)); refine ld_event rfl rfl (by first | rfl | (go_simp; done) | (go_simp; rfl)) Try.underlying25 trivial (.slice A3 x.f3.length A3c) ((blk_cell BK1.out 5).trans rfl) ?_) | ((with_reducible refine gate_dst (N := 19) rfl ?_); (try (refine gate_guard (by rfl) ?_; dsimp only)); refine ld_event rfl rfl (by first | rfl | (go_simp; done) | (go_simp; rfl)) Try.underlying25 trivial (.slice B3 y.f3.length B3c) ((blk_cell BK2.out 5).trans rfl) ?_) | ((with_reducible refine gate_dst (N := 27) rfl ?_); (try (refine gate_guard (by rfl) ?_; dsimp only)); refine ld_event rfl rfl (by first | rfl | (go_simp; done) | (go_simp; rfl)) Try.underlying9 trivial (.string x.f0) ((blk_cell BK1.out 0).trans rfl) ?_) | ((with_reducible refine gate_dst (N := 29) rfl ?_); (try (refine gate_guard (by rfl) ?_; dsimp only)); refine ld_event rfl rfl (by first | rfl | (go_simp; done) | (go_simp; rfl)) Try.underlying9 trivial (.string y.f0) ((blk_cell BK2.out 0).trans rfl) ?_) | ((with_reducible refine gate_dst (N := 52) rfl ?_); (try (refine gate_guard (by rfl) ?_; dsimp only)); refine ld_event rfl rfl (by first | rfl | (go_simp; done) | (go_simp; rfl)) Try.underlying26 trivial (.slice A4 x.f4.length A4c) ((blk_cell BK1.out 6).trans rfl) ?_) | ((with_reducible refine gate_dst (N := 55) rfl ?_); (try (refine gate_guard (by rfl) ?_; dsimp only)); refine ld_event rfl rfl (by first | rfl | (go_simp; done) | (go_simp; rfl)) Try.underlying26 trivial (.slice B4 y.f4.length B4c) ((blk_cell BK2.out 6).trans rfl) ?_) | ((with_reducible refine gate_dst (N := 22) rfl ?_); (try (refine gate_guard (by rfl) ?_; dsimp only)); refine ldb_event rfl rfl (by first | rfl | (go_simp; done) | (go_simp; rfl)) Try.underlying34 ⟨_, rfl⟩ BK1.out 23 size34 [.int .i64 x.f5.f0, .string x.f5.f1, .string x.f5.f2, .string x.f5.f3, .int .i64 x.f5.f4, .int .i64 x.f5.f5.f0, .int .i64 x.f5.f5.f1, .int .i64 x.f5.f5.f2, .int .i64 x.f5.f6.f0, .int .i64 x.f5.f6.f1, .int .i64 x.f5.f6.f2, .int .i64 x.f5.f6.f3, .int .i64 x.f5.f6.f4.f0, .int .i64 x.f5.f6.f4.f1, .int .i64 x.f5.f6.f4.f2, .int .i64 x.f5.f6.f5.f0, .int .i64 x.f5.f6.f5.f1, .int .i64 x.f5.f6.f5.f2, .int .i64 x.f5.f6.f6.f0, .int .i64 x.f5.f6.f6.f1, .int .i64 x.f5.f6.f7, .slice A7 x.f5.f7.length A7c, .slice A8 x.f5.f8.length A8c] rfl rfl ?_) | ((with_reducible refine gate_dst (N := 24) rfl ?_); (try (refine gate_guard (by rfl) ?_; dsimp only)); refine ldb_event rfl rfl (by first | rfl | (go_simp; done) | (go_simp; rfl)) Try.underlying34 ⟨_, rfl⟩ BK2.out 23 size34 [.int .i64 y.f5.f0, .string y.f5.f1, .string y.f5.f2, .string y.f5.f3, .int .i64 y.f5.f4, .int .i64 y.f5.f5.f0, .int .i64 y.f5.f5.f1, .int .i64 y.f5.f5.f2, .int .i64 y.f5.f6.f0, .int .i64 y.f5.f6.f1, .int .i64 y.f5.f6.f2, .int .i64 y.f5.f6.f3, .int .i64 y.f5.f6.f4.f0, .int .i64 y.f5.f6.f4.f1, .int .i64 y.f5.f6.f4.f2, .int .i64 y.f5.f6.f5.f0, .int .i64 y.f5.f6.f5.f1, .int .i64 y.f5.f6.f5.f2, .int .i64 y.f5.f6.f6.f0, .int .i64 y.f5.f6.f6.f1, .int .i64 y.f5.f6.f7, .slice B7 y.f5.f7.length B7c, .slice B8 y.f5.f8.length B8c] rfl rfl ?_) | ((with_reducible refine gate_dst (N := 33) rfl ?_); (try (refine gate_guard (by rfl) ?_; dsimp only)); refine ldb_event rfl rfl (by first | rfl | (go_simp; done) | (go_simp; rfl)) Try.underlying23 ⟨_, rfl⟩ BK1.out 3 size23 [.int .i64 x.f1.f0, .int .i64 x.f1.f1, .int .i64 x.f1.f2] rfl rfl ?_) | ((with_reducible refine gate_dst (N := 35) rfl ?_); (try (refine gate_guard (by rfl) ?_; dsimp only)); refine ldb_event rfl rfl (by first | rfl | (go_simp; done) | (go_simp; rfl)) Try.underlying23 ⟨_, rfl⟩ BK2.out 3 size23 [.int .i64 y.f1.f0, .int .i64 y.f1.f1, .int .i64 y.f1.f2] rfl rfl ?_) | ((with_reducible refine gate_callee (f := 27) rfl ?_); (try (refine gate_guard (by rfl) ?_; dsimp only)); refine goesL_ (some 15) rfl rfl Try.func27 (by kernel_rfl) rfl #[.slice A2 x.f2.length A2c, .slice B2 y.f2.length B2c] rfl (by (try simp only [List.map_toArray, List.map_cons, List.map_nil]); first | done | rfl) ?_; (with_reducible refine (sameDates.calls A2 A2c x.f2 B2 B2c y.f2 _ (Kd.C_below G2.out HB.out) L2.out (Kd.C_below Q2.out HB.out) P2.out).mono ?_); rintro e wv3_ ⟨rfl, hb⟩; refine ⟨_, rfl, ?_⟩; have n0_ := Aside0.mk (below_step HB.out hb); have n1_ := Aside0.mk (blk_below BK1.out hb); have n2_ := Aside0.mk (blk_below BK2.out hb); clear HB BK1 BK2; have HB := n0_; have BK1 := n1_; have BK2 := n2_; clear n0_ n1_ n2_; clear hb) | ((with_reducible refine gate_callee (f := 28) rfl ?_); (try (refine gate_guard (by rfl) ?_; dsimp only)); refine goesL_ (some 20) rfl rfl Try.func28 (by kernel_rfl) rfl #[.slice A3 x.f3.length A3c, .slice B3 y.f3.length B3c] rfl (by (try simp only [List.map_toArray, List.map_cons, List.map_nil]); first | done | rfl) ?_; (with_reducible refine (sameTexts.calls A3 A3c x.f3 B3 B3c y.f3 _ (Kd.C_below G3.out HB.out) L3.out (Kd.C_below Q3.out HB.out) P3.out).mono ?_); rintro e wv4_ ⟨rfl, hb⟩; refine ⟨_, rfl, ?_⟩; have n0_ := Aside0.mk (below_step HB.out hb); have n1_ := Aside0.mk (blk_below BK1.out hb); have n2_ := Aside0.mk (blk_below BK2.out hb); clear HB BK1 BK2; have HB := n0_; have BK1 := n1_; have BK2 := n2_; clear n0_ n1_ n2_; clear hb) | ((with_reducible refine gate_callee (f := 13) rfl ?_); (try (refine gate_guard (by rfl) ?_; dsimp only)); refine goesL_ (some 25) rfl rfl Try.func13 (by kernel_rfl) rfl #[.agg #[.int .i64 x.f5.f0, .string x.f5.f1, .string x.f5.f2, .string x.f5.f3, .int .i64 x.f5.f4, .int .i64 x.f5.f5.f0, .int .i64 x.f5.f5.f1, .int .i64 x.f5.f5.f2, .int .i64 x.f5.f6.f0, .int .i64 x.f5.f6.f1, .int .i64 x.f5.f6.f2, .int .i64 x.f5.f6.f3, .int .i64 x.f5.f6.f4.f0, .int .i64 x.f5.f6.f4.f1, .int .i64 x.f5.f6.f4.f2, .int .i64 x.f5.f6.f5.f0, .int .i64 x.f5.f6.f5.f1, .int .i64 x.f5.f6.f5.f2, .int .i64 x.f5.f6.f6.f0, .int .i64 x.f5.f6.f6.f1, .int .i64 x.f5.f6.f7, .slice A7 x.f5.f7.length A7c, .slice A8 x.f5.f8.length A8c], .agg #[.int .i64 y.f5.f0, .string y.f5.f1, .string y.f5.f2, .string y.f5.f3, .int .i64 y.f5.f4, .int .i64 y.f5.f5.f0, .int .i64 y.f5.f5.f1, .int .i64 y.f5.f5.f2, .int .i64 y.f5.f6.f0, .int .i64 y.f5.f6.f1, .int .i64 y.f5.f6.f2, .int .i64 y.f5.f6.f3, .int .i64 y.f5.f6.f4.f0, .int .i64 y.f5.f6.f4.f1, .int .i64 y.f5.f6.f4.f2, .int .i64 y.f5.f6.f5.f0, .int .i64 y.f5.f6.f5.f1, .int .i64 y.f5.f6.f5.f2, .int .i64 y.f5.f6.f6.f0, .int .i64 y.f5.f6.f6.f1, .int .i64 y.f5.f6.f7, .slice B7 y.f5.f7.length B7c, .slice B8 y.f5.f8.length B8c]] rfl (by (try simp only [List.map_toArray, List.map_cons, List.map_nil]); first | done | rfl) ?_; (with_reducible refine (EqOK.calls (sameCon.all x.f5 y.f5 HW5.out) [.int .i64 x.f5.f0, .string x.f5.f1, .string x.f5.f2, .string x.f5.f3, .int .i64 x.f5.f4, .int .i64 x.f5.f5.f0, .int .i64 x.f5.f5.f1, .int .i64 x.f5.f5.f2, .int .i64 x.f5.f6.f0, .int .i64 x.f5.f6.f1, .int .i64 x.f5.f6.f2, .int .i64 x.f5.f6.f3, .int .i64 x.f5.f6.f4.f0, .int .i64 x.f5.f6.f4.f1, .int .i64 x.f5.f6.f4.f2, .int .i64 x.f5.f6.f5.f0, .int .i64 x.f5.f6.f5.f1, .int .i64 x.f5.f6.f5.f2, .int .i64 x.f5.f6.f6.f0, .int .i64 x.f5.f6.f6.f1, .int .i64 x.f5.f6.f7, .slice A7 x.f5.f7.length A7c, .slice A8 x.f5.f8.length A8c] [.int .i64 y.f5.f0, .string y.f5.f1, .string y.f5.f2, .string y.f5.f3, .int .i64 y.f5.f4, .int .i64 y.f5.f5.f0, .int .i64 y.f5.f5.f1, .int .i64 y.f5.f5.f2, .int .i64 y.f5.f6.f0, .int .i64 y.f5.f6.f1, .int .i64 y.f5.f6.f2, .int .i64 y.f5.f6.f3, .int .i64 y.f5.f6.f4.f0, .int .i64 y.f5.f6.f4.f1, .int .i64 y.f5.f6.f4.f2, .int .i64 y.f5.f6.f5.f0, .int .i64 y.f5.f6.f5.f1, .int .i64 y.f5.f6.f5.f2, .int .i64 y.f5.f6.f6.f0, .int .i64 y.f5.f6.f6.f1, .int .i64 y.f5.f6.f7, .slice B7 y.f5.f7.length B7c, .slice B8 y.f5.f8.length B8c] _ (k34_mk _ x.f5 L7.out (Kd.C_below G7.out HB.out) L8.out (Kd.C_below G8.out HB.out)) (k34_mk _ y.f5 P7.out (Kd.C_below Q7.out HB.out) P8.out (Kd.C_below Q8.out HB.out))).mono ?_); rintro e wv5_ ⟨rfl, hb⟩; refine ⟨_, rfl, ?_⟩; have n0_ := Aside0.mk (below_step HB.out hb); have n1_ := Aside0.mk (blk_below BK1.out hb); have n2_ := Aside0.mk (blk_below BK2.out hb); clear HB BK1 BK2; have HB := n0_; have BK1 := n1_; have BK2 := n2_; clear n0_ n1_ n2_; clear hb))
    go_ret
    exact ⟨by rw [hsm]; rfl, HB.out⟩
end Go.Proofs.Ytkfbkjcdngipcaa.PTreeEquals
