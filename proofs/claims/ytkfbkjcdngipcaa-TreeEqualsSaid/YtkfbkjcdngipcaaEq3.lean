import Derived.Test.YtkfbkjcdngipcaaKinC
import Derived.Test.YtkfbkjcdngipcaaEq2
namespace Go.Proofs.Ytkfbkjcdngipcaa.PTreeEquals
open Go.RowKit Go.Proofs.YtkfbkjcdngipcaaW.PrintWords Go.Proofs.YtkfbkjcdngipcaaW.PrintLast Go.Proofs.YtkfbkjcdngipcaaW.PrintMore
attribute [local go_sem 5000] eqlD eqlR neqD neqR
attribute [local go_sem] max2_int min2_int max_two min_two max_three min_three max_four min_four
set_option linter.unusedVariables false
set_option linter.unusedSimpArgs false
set_option maxHeartbeats 16000000 in
set_option maxRecDepth 100000 in
theorem equalCon.of (x y : S34) (hkl : EqLOK k34 37 26 x.f8 y.f8) : EqOK k34 26 x y := by
  intro cs ds w hK1 hK2
  obtain ⟨A7, A7c, A8, A8c, rfl, l7, g7, l8, g8⟩ := k34_open hK1
  obtain ⟨B7, B7c, B8, B8c, rfl, p7, q7, p8, q8⟩ := k34_open hK2
  have hu34 := Try.underlying34
  have hu23 := Try.underlying23
  have hu30 := Try.underlying30
  have hu28 := Try.underlying28
  have L7 := Aside0.mk l7
  clear l7
  have G7 := Aside0.mk g7
  clear g7
  have L8 := Aside0.mk l8
  clear l8
  have G8 := Aside0.mk g8
  clear g8
  have P7 := Aside0.mk p7
  clear p7
  have Q7 := Aside0.mk q7
  clear q7
  have P8 := Aside0.mk p8
  clear p8
  have Q8 := Aside0.mk q8
  clear q8
  have HKL := Aside0.mk hkl
  clear hkl
  clear hK1 hK2
  have HB := Aside0.mk (Below.refl w.heap.size w)
  refine (Classical.em (x.f0 = y.f0)).elim (fun h0 => ?_) (fun h0 => ?_)
  rotate_left
  have ct0 : (x.f0 == y.f0) = false := beq_eq_false_iff_ne.mpr h0
  have cn0 : (x.f0 != y.f0) = true := bne_iff_ne.mpr h0
  have hsm : sm x y = false := sm_false (fun e => h0 (by rw [e]))
  clear h0
  rotate_right
  have ct0 : (x.f0 == y.f0) = true := beq_iff_eq.mpr h0
  have cn0 : (x.f0 != y.f0) = false := bne_eq_false_iff_eq.mpr h0
  have H0 := Aside0.mk h0
  clear h0
  refine (Classical.em (x.f1 = y.f1)).elim (fun h1 => ?_) (fun h1 => ?_)
  rotate_left
  have ct1 : (x.f1.toList == y.f1.toList) = false := beq_eq_false_iff_ne.mpr (fun e => h1 ((toList_iff _ _).1 e))
  have cn1 : (x.f1.toList != y.f1.toList) = true := bne_iff_ne.mpr (fun e => h1 ((toList_iff _ _).1 e))
  have hsm : sm x y = false := sm_false (fun e => h1 (by rw [e]))
  clear h1
  rotate_right
  have ct1 : (x.f1.toList == y.f1.toList) = true := beq_iff_eq.mpr (by rw [h1])
  have cn1 : (x.f1.toList != y.f1.toList) = false := bne_eq_false_iff_eq.mpr (by rw [h1])
  have H1 := Aside0.mk h1
  clear h1
  refine (Classical.em (x.f2 = y.f2)).elim (fun h2 => ?_) (fun h2 => ?_)
  rotate_left
  have ct2 : (x.f2.toList == y.f2.toList) = false := beq_eq_false_iff_ne.mpr (fun e => h2 ((toList_iff _ _).1 e))
  have cn2 : (x.f2.toList != y.f2.toList) = true := bne_iff_ne.mpr (fun e => h2 ((toList_iff _ _).1 e))
  have hsm : sm x y = false := sm_false (fun e => h2 (by rw [e]))
  clear h2
  rotate_right
  have ct2 : (x.f2.toList == y.f2.toList) = true := beq_iff_eq.mpr (by rw [h2])
  have cn2 : (x.f2.toList != y.f2.toList) = false := bne_eq_false_iff_eq.mpr (by rw [h2])
  have H2 := Aside0.mk h2
  clear h2
  refine (Classical.em (x.f3 = y.f3)).elim (fun h3 => ?_) (fun h3 => ?_)
  rotate_left
  have ct3 : (x.f3.toList == y.f3.toList) = false := beq_eq_false_iff_ne.mpr (fun e => h3 ((toList_iff _ _).1 e))
  have cn3 : (x.f3.toList != y.f3.toList) = true := bne_iff_ne.mpr (fun e => h3 ((toList_iff _ _).1 e))
  have hsm : sm x y = false := sm_false (fun e => h3 (by rw [e]))
  clear h3
  rotate_right
  have ct3 : (x.f3.toList == y.f3.toList) = true := beq_iff_eq.mpr (by rw [h3])
  have cn3 : (x.f3.toList != y.f3.toList) = false := bne_eq_false_iff_eq.mpr (by rw [h3])
  have H3 := Aside0.mk h3
  clear h3
  refine (Classical.em (x.f4 = y.f4)).elim (fun h4 => ?_) (fun h4 => ?_)
  rotate_left
  have ct4 : (x.f4 == y.f4) = false := beq_eq_false_iff_ne.mpr h4
  have cn4 : (x.f4 != y.f4) = true := bne_iff_ne.mpr h4
  have hsm : sm x y = false := sm_false (fun e => h4 (by rw [e]))
  clear h4
  rotate_right
  have ct4 : (x.f4 == y.f4) = true := beq_iff_eq.mpr h4
  have cn4 : (x.f4 != y.f4) = false := bne_eq_false_iff_eq.mpr h4
  have H4 := Aside0.mk h4
  clear h4
  refine (Classical.em (x.f5 = y.f5)).elim (fun h5 => ?_) (fun h5 => ?_)
  rotate_left
  have ct5 : sm x.f5 y.f5 = false := sm_false h5
  have hsm : sm x y = false := sm_false (fun e => h5 (by rw [e]))
  clear h5
  rotate_right
  have ct5 : sm x.f5 y.f5 = true := sm_true h5
  have H5 := Aside0.mk h5
  clear h5
  refine (Classical.em (x.f6 = y.f6)).elim (fun h6 => ?_) (fun h6 => ?_)
  rotate_left
  have ct6 : sm x.f6 y.f6 = false := sm_false h6
  have hsm : sm x y = false := sm_false (fun e => h6 (by rw [e]))
  clear h6
  rotate_right
  have ct6 : sm x.f6 y.f6 = true := sm_true h6
  have H6 := Aside0.mk h6
  clear h6
  refine (Classical.em (x.f7 = y.f7)).elim (fun h7 => ?_) (fun h7 => ?_)
  rotate_left
  have ct7 : sm x.f7 y.f7 = false := sm_false h7
  have hsm : sm x y = false := sm_false (fun e => h7 (by rw [e]))
  clear h7
  rotate_right
  have ct7 : sm x.f7 y.f7 = true := sm_true h7
  have H7 := Aside0.mk h7
  clear h7
  refine (Classical.em (x.f8 = y.f8)).elim (fun h8 => ?_) (fun h8 => ?_)
  rotate_left
  have ct8 : sm x.f8 y.f8 = false := sm_false h8
  have hsm : sm x y = false := sm_false (fun e => h8 (by rw [e]))
  clear h8
  rotate_right
  have ct8 : sm x.f8 y.f8 = true := sm_true h8
  have H8 := Aside0.mk h8
  clear h8
  have hsm : sm x y = true := sm_true (S34_ext H0.out H1.out H2.out H3.out H4.out H5.out H6.out H7.out H8.out)
  all_goals
    go_enter Try.func26, Try.ntmps26
    go_wp2_with (first | ((with_reducible refine gate_dst (N := 2) rfl ?_); (try (refine gate_guard (by rfl) ?_; dsimp only)); refine box_event ?hg (N := 2) ?hd (cs := #[.int .i64 x.f0, .string x.f1, .string x.f2, .string x.f3, .int .i64 x.f4, .int .i64 x.f5.f0, .int .i64 x.f5.f1, .int .i64 x.f5.f2, .int .i64 x.f6.f0, .int .i64 x.f6.f1, .int .i64 x.f6.f2, .int .i64 x.f6.f3, .int .i64 x.f6.f4.f0, .int .i64 x.f6.f4.f1, .int .i64 x.f6.f4.f2, .int .i64 x.f6.f5.f0, .int .i64 x.f6.f5.f1, .int .i64 x.f6.f5.f2, .int .i64 x.f6.f6.f0, .int .i64 x.f6.f6.f1, .int .i64 x.f6.f7, .slice A7 x.f7.length A7c, .slice A8 x.f8.length A8c]) (t := 34) ?hr ?_; (case hd => rfl); (case hg => rfl); (case hr => first | (go_simp; done) | (go_simp; rfl)); intro g1 hg wv1_ hbox hb; have n0_ := Aside0.mk (below_step HB.out hb); have n1_ := Aside0.mk (hbox); have n2_ := Aside0.mk ((show w.heap.size ≤ g1 by rw [hg]; exact below_size HB.out)); clear HB; have HB := n0_; have BK1 := n1_; have ORD := n2_; clear n0_ n1_ n2_; clear hb hbox hg) | ((with_reducible refine gate_dst (N := 3) rfl ?_); (try (refine gate_guard (by rfl) ?_; dsimp only)); refine box_event ?hg (N := 3) ?hd (cs := #[.int .i64 y.f0, .string y.f1, .string y.f2, .string y.f3, .int .i64 y.f4, .int .i64 y.f5.f0, .int .i64 y.f5.f1, .int .i64 y.f5.f2, .int .i64 y.f6.f0, .int .i64 y.f6.f1, .int .i64 y.f6.f2, .int .i64 y.f6.f3, .int .i64 y.f6.f4.f0, .int .i64 y.f6.f4.f1, .int .i64 y.f6.f4.f2, .int .i64 y.f6.f5.f0, .int .i64 y.f6.f5.f1, .int .i64 y.f6.f5.f2, .int .i64 y.f6.f6.f0, .int .i64 y.f6.f6.f1, .int .i64 y.f6.f7, .slice B7 y.f7.length B7c, .slice B8 y.f8.length B8c]) (t := 34) ?hr ?_; (case hd => rfl); (case hg => rfl); (case hr => first | (go_simp; done) | (go_simp; rfl)); intro g2 hg wv2_ hbox hb; have n0_ := Aside0.mk (below_step HB.out hb); have n1_ := Aside0.mk (blk_below BK1.out hb); have n2_ := Aside0.mk (hbox); have n3_ := Aside0.mk (And.intro ORD.out (show g1 < g2 by rw [hg]; exact blk_lt BK1.out)); clear HB BK1 ORD; have HB := n0_; have BK1 := n1_; have BK2 := n2_; have ORD := n3_; clear n0_ n1_ n2_ n3_; clear hb hbox hg) | ((with_reducible refine gate_dst (N := 7) rfl ?_); (try (refine gate_guard (by rfl) ?_; dsimp only)); refine ld_event rfl rfl (by first | rfl | (go_simp; done) | (go_simp; rfl)) Try.underlying3 trivial (.int .i64 x.f0) ((blk_cell BK1.out 0).trans rfl) ?_) | ((with_reducible refine gate_dst (N := 9) rfl ?_); (try (refine gate_guard (by rfl) ?_; dsimp only)); refine ld_event rfl rfl (by first | rfl | (go_simp; done) | (go_simp; rfl)) Try.underlying3 trivial (.int .i64 y.f0) ((blk_cell BK2.out 0).trans rfl) ?_) | ((with_reducible refine gate_dst (N := 13) rfl ?_); (try (refine gate_guard (by rfl) ?_; dsimp only)); refine ld_event rfl rfl (by first | rfl | (go_simp; done) | (go_simp; rfl)) Try.underlying9 trivial (.string x.f1) ((blk_cell BK1.out 1).trans rfl) ?_) | ((with_reducible refine gate_dst (N := 15) rfl ?_); (try (refine gate_guard (by rfl) ?_; dsimp only)); refine ld_event rfl rfl (by first | rfl | (go_simp; done) | (go_simp; rfl)) Try.underlying9 trivial (.string y.f1) ((blk_cell BK2.out 1).trans rfl) ?_) | ((with_reducible refine gate_dst (N := 20) rfl ?_); (try (refine gate_guard (by rfl) ?_; dsimp only)); refine ld_event rfl rfl (by first | rfl | (go_simp; done) | (go_simp; rfl)) Try.underlying9 trivial (.string x.f2) ((blk_cell BK1.out 2).trans rfl) ?_) | ((with_reducible refine gate_dst (N := 22) rfl ?_); (try (refine gate_guard (by rfl) ?_; dsimp only)); refine ld_event rfl rfl (by first | rfl | (go_simp; done) | (go_simp; rfl)) Try.underlying9 trivial (.string y.f2) ((blk_cell BK2.out 2).trans rfl) ?_) | ((with_reducible refine gate_dst (N := 27) rfl ?_); (try (refine gate_guard (by rfl) ?_; dsimp only)); refine ld_event rfl rfl (by first | rfl | (go_simp; done) | (go_simp; rfl)) Try.underlying9 trivial (.string x.f3) ((blk_cell BK1.out 3).trans rfl) ?_) | ((with_reducible refine gate_dst (N := 29) rfl ?_); (try (refine gate_guard (by rfl) ?_; dsimp only)); refine ld_event rfl rfl (by first | rfl | (go_simp; done) | (go_simp; rfl)) Try.underlying9 trivial (.string y.f3) ((blk_cell BK2.out 3).trans rfl) ?_) | ((with_reducible refine gate_dst (N := 34) rfl ?_); (try (refine gate_guard (by rfl) ?_; dsimp only)); refine ld_event rfl rfl (by first | rfl | (go_simp; done) | (go_simp; rfl)) Try.underlying3 trivial (.int .i64 x.f4) ((blk_cell BK1.out 4).trans rfl) ?_) | ((with_reducible refine gate_dst (N := 36) rfl ?_); (try (refine gate_guard (by rfl) ?_; dsimp only)); refine ld_event rfl rfl (by first | rfl | (go_simp; done) | (go_simp; rfl)) Try.underlying3 trivial (.int .i64 y.f4) ((blk_cell BK2.out 4).trans rfl) ?_) | ((with_reducible refine gate_dst (N := 56) rfl ?_); (try (refine gate_guard (by rfl) ?_; dsimp only)); refine ld_event rfl rfl (by first | rfl | (go_simp; done) | (go_simp; rfl)) Try.underlying31 trivial (.slice A7 x.f7.length A7c) ((blk_cell BK1.out 21).trans rfl) ?_) | ((with_reducible refine gate_dst (N := 58) rfl ?_); (try (refine gate_guard (by rfl) ?_; dsimp only)); refine ld_event rfl rfl (by first | rfl | (go_simp; done) | (go_simp; rfl)) Try.underlying31 trivial (.slice B7 y.f7.length B7c) ((blk_cell BK2.out 21).trans rfl) ?_) | ((with_reducible refine gate_dst (N := 63) rfl ?_); (try (refine gate_guard (by rfl) ?_; dsimp only)); refine ld_event rfl rfl (by first | rfl | (go_simp; done) | (go_simp; rfl)) Try.underlying32 trivial (.slice A8 x.f8.length A8c) ((blk_cell BK1.out 22).trans rfl) ?_) | ((with_reducible refine gate_dst (N := 65) rfl ?_); (try (refine gate_guard (by rfl) ?_; dsimp only)); refine ld_event rfl rfl (by first | rfl | (go_simp; done) | (go_simp; rfl)) Try.underlying32 trivial (.slice B8 y.f8.length B8c) ((blk_cell BK2.out 22).trans rfl) ?_) | ((with_reducible refine gate_dst (N := 41) rfl ?_); (try (refine gate_guard (by rfl) ?_; dsimp only)); refine ldb_event rfl rfl (by first | rfl | (go_simp; done) | (go_simp; rfl)) Try.underlying23 ⟨_, rfl⟩ BK1.out 3 size23 [.int .i64 x.f5.f0, .int .i64 x.f5.f1, .int .i64 x.f5.f2] rfl rfl ?_) | ((with_reducible refine gate_dst (N := 43) rfl ?_); (try (refine gate_guard (by rfl) ?_; dsimp only)); refine ldb_event rfl rfl (by first | rfl | (go_simp; done) | (go_simp; rfl)) Try.underlying23 ⟨_, rfl⟩ BK2.out 3 size23 [.int .i64 y.f5.f0, .int .i64 y.f5.f1, .int .i64 y.f5.f2] rfl rfl ?_) | ((with_reducible refine gate_dst (N := 48) rfl ?_); (try (refine gate_guard (by rfl) ?_; dsimp only)); refine ldb_event rfl rfl (by first | rfl | (go_simp; done) | (go_simp; rfl)) Try.underlying30 ⟨_, rfl⟩ BK1.out 13 size30 [.int .i64 x.f6.f0, .int .i64 x.f6.f1, .int .i64 x.f6.f2, .int .i64 x.f6.f3, .int .i64 x.f6.f4.f0, .int .i64 x.f6.f4.f1, .int .i64 x.f6.f4.f2, .int .i64 x.f6.f5.f0, .int .i64 x.f6.f5.f1, .int .i64 x.f6.f5.f2, .int .i64 x.f6.f6.f0, .int .i64 x.f6.f6.f1, .int .i64 x.f6.f7] rfl rfl ?_) | ((with_reducible refine gate_dst (N := 50) rfl ?_); (try (refine gate_guard (by rfl) ?_; dsimp only)); refine ldb_event rfl rfl (by first | rfl | (go_simp; done) | (go_simp; rfl)) Try.underlying30 ⟨_, rfl⟩ BK2.out 13 size30 [.int .i64 y.f6.f0, .int .i64 y.f6.f1, .int .i64 y.f6.f2, .int .i64 y.f6.f3, .int .i64 y.f6.f4.f0, .int .i64 y.f6.f4.f1, .int .i64 y.f6.f4.f2, .int .i64 y.f6.f5.f0, .int .i64 y.f6.f5.f1, .int .i64 y.f6.f5.f2, .int .i64 y.f6.f6.f0, .int .i64 y.f6.f6.f1, .int .i64 y.f6.f7] rfl rfl ?_) | ((with_reducible refine gate_callee (f := 36) rfl ?_); (try (refine gate_guard (by rfl) ?_; dsimp only)); refine goesL_ (some 59) rfl rfl Try.func36 (by kernel_rfl) rfl #[.slice A7 x.f7.length A7c, .slice B7 y.f7.length B7c, .func (.func 35) #[] #[]] rfl (by (try simp only [List.map_toArray, List.map_cons, List.map_nil]); first | done | rfl) ?_; (with_reducible refine (EqLOK.calls (equalExprs.all x.f7 y.f7) A7 A7c B7 B7c _ (Kd.C_below G7.out HB.out) (Kd.C_below Q7.out HB.out)).mono ?_); rintro e wv3_ ⟨rfl, hb⟩; refine ⟨_, rfl, ?_⟩; have n0_ := Aside0.mk (below_step HB.out hb); have n1_ := Aside0.mk (blk_below BK1.out hb); have n2_ := Aside0.mk (blk_below BK2.out hb); clear HB BK1 BK2; have HB := n0_; have BK1 := n1_; have BK2 := n2_; clear n0_ n1_ n2_; clear hb) | ((with_reducible refine gate_callee (f := 37) rfl ?_); (try (refine gate_guard (by rfl) ?_; dsimp only)); refine goesL_ (some 66) rfl rfl Try.func37 (by kernel_rfl) rfl #[.slice A8 x.f8.length A8c, .slice B8 y.f8.length B8c, .func (.func 26) #[] #[]] rfl (by (try simp only [List.map_toArray, List.map_cons, List.map_nil]); first | done | rfl) ?_; (with_reducible refine (EqLOK.calls HKL.out A8 A8c B8 B8c _ (Kd.C_below G8.out HB.out) (Kd.C_below Q8.out HB.out)).mono ?_); rintro e wv4_ ⟨rfl, hb⟩; refine ⟨_, rfl, ?_⟩; have n0_ := Aside0.mk (below_step HB.out hb); have n1_ := Aside0.mk (blk_below BK1.out hb); have n2_ := Aside0.mk (blk_below BK2.out hb); clear HB BK1 BK2; have HB := n0_; have BK1 := n1_; have BK2 := n2_; clear n0_ n1_ n2_; clear hb))
    go_ret
    exact ⟨by rw [hsm]; rfl, HB.out⟩
theorem equalCons.lt : ∀ (n : Nat) (l m : List S34), S34.wts l < n → EqLOK k34 37 26 l m := by
  intro n
  induction n with
  | zero => intro l m h; omega
  | succ n ih =>
    intro l m h
    refine eqFunc37.of l m (fun x hx y hy => equalCon.of x y (ih x.f8 y.f8 ?_))
    have h1 := S34.wt_le hx
    have h2 := S34.wt_eq x
    omega
theorem equalCons.all (l m : List S34) : EqLOK k34 37 26 l m := equalCons.lt _ l m (Nat.lt_succ_self _)
theorem equalCon.all (x y : S34) : EqOK k34 26 x y := equalCon.of x y (equalCons.all _ _)
end Go.Proofs.Ytkfbkjcdngipcaa.PTreeEquals
