import Derived.Test.YtkfbkjcdngipcaaKinC
import Derived.Test.YtkfbkjcdngipcaaSamE
namespace Go.Proofs.Ytkfbkjcdngipcaa.PTreeEquals
open Go.RowKit Go.Proofs.YtkfbkjcdngipcaaW.PrintWords Go.Proofs.YtkfbkjcdngipcaaW.PrintLast Go.Proofs.YtkfbkjcdngipcaaW.PrintMore
attribute [local go_sem 5000] eqlD eqlR neqD neqR
attribute [local go_sem] max2_int min2_int max_two min_two max_three min_three max_four min_four
set_option linter.unusedVariables false
set_option linter.unusedSimpArgs false
set_option maxHeartbeats 32000000 in
set_option maxRecDepth 100000 in
theorem sameCon.of (x y : S34) (he : ∀ a ∈ x.f7, a.wf) (hs : ∀ a ∈ x.f8, ∀ b ∈ y.f8, EqOK k34 13 a b) : EqOK k34 13 x y := by
  intro cs ds w hK1 hK2
  obtain ⟨A7, A7c, A8, A8c, rfl, l7, g7, l8, g8⟩ := k34_open hK1
  obtain ⟨B7, B7c, B8, B8c, rfl, p7, q7, p8, q8⟩ := k34_open hK2
  have hu34 := Try.underlying34
  have hu23 := Try.underlying23
  have hu30 := Try.underlying30
  have hu28 := Try.underlying28
  have hu54 := Try.underlying54
  have HE := Aside0.mk he
  have HS := Aside0.mk hs
  have hm7 := Kd.C_max g7
  have hm8 := Kd.C_max g8
  have L7 := Aside0.mk l7
  clear l7
  have G7 := Aside0.mk g7
  clear g7
  have L8 := Aside0.mk l8
  clear l8
  have G8 := Aside0.mk g8
  clear g8
  have P7 := Aside0.mk p7
  clear p7
  have Q7 := Aside0.mk q7
  clear q7
  have P8 := Aside0.mk p8
  clear p8
  have Q8 := Aside0.mk q8
  clear q8
  clear hK1 hK2 he hs
  have HB := Aside0.mk (Below.refl w.heap.size w)
  refine (Classical.em (x.f0 = y.f0)).elim (fun h0 => ?_) (fun h0 => ?_)
  rotate_left
  have ct0 : (x.f0 == y.f0) = false := beq_eq_false_iff_ne.mpr h0
  have cn0 : (x.f0 != y.f0) = true := bne_iff_ne.mpr h0
  have hsm : sm x y = false := sm_false (fun e => h0 (by rw [e]))
  clear h0
  rotate_right
  have ct0 : (x.f0 == y.f0) = true := beq_iff_eq.mpr h0
  have cn0 : (x.f0 != y.f0) = false := bne_eq_false_iff_eq.mpr h0
  have H0 := Aside0.mk h0
  clear h0
  refine (Classical.em (x.f1 = y.f1)).elim (fun h1 => ?_) (fun h1 => ?_)
  rotate_left
  have ct1 : (x.f1.toList == y.f1.toList) = false := beq_eq_false_iff_ne.mpr (fun e => h1 ((toList_iff _ _).1 e))
  have cn1 : (x.f1.toList != y.f1.toList) = true := bne_iff_ne.mpr (fun e => h1 ((toList_iff _ _).1 e))
  have hsm : sm x y = false := sm_false (fun e => h1 (by rw [e]))
  clear h1
  rotate_right
  have ct1 : (x.f1.toList == y.f1.toList) = true := beq_iff_eq.mpr (by rw [h1])
  have cn1 : (x.f1.toList != y.f1.toList) = false := bne_eq_false_iff_eq.mpr (by rw [h1])
  have H1 := Aside0.mk h1
  clear h1
  refine (Classical.em (x.f2 = y.f2)).elim (fun h2 => ?_) (fun h2 => ?_)
  rotate_left
  have ct2 : (x.f2.toList == y.f2.toList) = false := beq_eq_false_iff_ne.mpr (fun e => h2 ((toList_iff _ _).1 e))
  have cn2 : (x.f2.toList != y.f2.toList) = true := bne_iff_ne.mpr (fun e => h2 ((toList_iff _ _).1 e))
  have hsm : sm x y = false := sm_false (fun e => h2 (by rw [e]))
  clear h2
  rotate_right
  have ct2 : (x.f2.toList == y.f2.toList) = true := beq_iff_eq.mpr (by rw [h2])
  have cn2 : (x.f2.toList != y.f2.toList) = false := bne_eq_false_iff_eq.mpr (by rw [h2])
  have H2 := Aside0.mk h2
  clear h2
  refine (Classical.em (x.f3 = y.f3)).elim (fun h3 => ?_) (fun h3 => ?_)
  rotate_left
  have ct3 : (x.f3.toList == y.f3.toList) = false := beq_eq_false_iff_ne.mpr (fun e => h3 ((toList_iff _ _).1 e))
  have cn3 : (x.f3.toList != y.f3.toList) = true := bne_iff_ne.mpr (fun e => h3 ((toList_iff _ _).1 e))
  have hsm : sm x y = false := sm_false (fun e => h3 (by rw [e]))
  clear h3
  rotate_right
  have ct3 : (x.f3.toList == y.f3.toList) = true := beq_iff_eq.mpr (by rw [h3])
  have cn3 : (x.f3.toList != y.f3.toList) = false := bne_eq_false_iff_eq.mpr (by rw [h3])
  have H3 := Aside0.mk h3
  clear h3
  refine (Classical.em (x.f4 = y.f4)).elim (fun h4 => ?_) (fun h4 => ?_)
  rotate_left
  have ct4 : (x.f4 == y.f4) = false := beq_eq_false_iff_ne.mpr h4
  have cn4 : (x.f4 != y.f4) = true := bne_iff_ne.mpr h4
  have hsm : sm x y = false := sm_false (fun e => h4 (by rw [e]))
  clear h4
  rotate_right
  have ct4 : (x.f4 == y.f4) = true := beq_iff_eq.mpr h4
  have cn4 : (x.f4 != y.f4) = false := bne_eq_false_iff_eq.mpr h4
  have H4 := Aside0.mk h4
  clear h4
  refine (Classical.em (x.f5 = y.f5)).elim (fun h5 => ?_) (fun h5 => ?_)
  rotate_left
  have ct5 : sm x.f5 y.f5 = false := sm_false h5
  have hsm : sm x y = false := sm_false (fun e => h5 (by rw [e]))
  clear h5
  rotate_right
  have ct5 : sm x.f5 y.f5 = true := sm_true h5
  have H5 := Aside0.mk h5
  clear h5
  refine (Classical.em (x.f6 = y.f6)).elim (fun h6 => ?_) (fun h6 => ?_)
  rotate_left
  have ct6 : sm x.f6 y.f6 = false := sm_false h6
  have hsm : sm x y = false := sm_false (fun e => h6 (by rw [e]))
  clear h6
  rotate_right
  have ct6 : sm x.f6 y.f6 = true := sm_true h6
  have H6 := Aside0.mk h6
  clear h6
  refine (Classical.em (x.f7.length = y.f7.length)).elim (fun hl7 => ?_) (fun hl7 => ?_)
  rotate_left
  have ct7 : ((x.f7.length : Int) != (y.f7.length : Int)) = true := bne_iff_ne.mpr (by omega)
  have hsm : sm x y = false := sm_false (fun e => hl7 (by rw [e]))
  clear hl7
  rotate_right
  have ct7 : ((x.f7.length : Int) != (y.f7.length : Int)) = false := bne_eq_false_iff_eq.mpr (by omega)
  have HL7 := Aside0.mk hl7
  clear hl7
  refine (Classical.em (x.f8.length = y.f8.length)).elim (fun hl8 => ?_) (fun hl8 => ?_)
  rotate_left
  have ct8 : ((x.f8.length : Int) != (y.f8.length : Int)) = true := bne_iff_ne.mpr (by omega)
  have hsm : sm x y = false := sm_false (fun e => hl8 (by rw [e]))
  clear hl8
  rotate_right
  have ct8 : ((x.f8.length : Int) != (y.f8.length : Int)) = false := bne_eq_false_iff_eq.mpr (by omega)
  have HL8 := Aside0.mk hl8
  clear hl8
  · go_enter Try.func13, Try.ntmps13
    go_wp2_with (first | ((with_reducible refine gate_dst (N := 2) rfl ?_); (try (refine gate_guard (by rfl) ?_; dsimp only)); refine box_event ?hg (N := 2) ?hd (cs := #[.int .i64 x.f0, .string x.f1, .string x.f2, .string x.f3, .int .i64 x.f4, .int .i64 x.f5.f0, .int .i64 x.f5.f1, .int .i64 x.f5.f2, .int .i64 x.f6.f0, .int .i64 x.f6.f1, .int .i64 x.f6.f2, .int .i64 x.f6.f3, .int .i64 x.f6.f4.f0, .int .i64 x.f6.f4.f1, .int .i64 x.f6.f4.f2, .int .i64 x.f6.f5.f0, .int .i64 x.f6.f5.f1, .int .i64 x.f6.f5.f2, .int .i64 x.f6.f6.f0, .int .i64 x.f6.f6.f1, .int .i64 x.f6.f7, .slice A7 x.f7.length A7c, .slice A8 x.f8.length A8c]) (t := 34) ?hr ?_; (case hd => rfl); (case hg => rfl); (case hr => first | (go_simp; done) | (go_simp; rfl)); intro g1 hg wv1_ hbox hb; have n0_ := Aside0.mk (below_step HB.out hb); have n1_ := Aside0.mk (hbox); have n2_ := Aside0.mk ((show w.heap.size ≤ g1 by rw [hg]; exact below_size HB.out)); clear HB; have HB := n0_; have BK1 := n1_; have ORD := n2_; clear n0_ n1_ n2_; clear hb hbox hg) | ((with_reducible refine gate_dst (N := 3) rfl ?_); (try (refine gate_guard (by rfl) ?_; dsimp only)); refine box_event ?hg (N := 3) ?hd (cs := #[.int .i64 y.f0, .string y.f1, .string y.f2, .string y.f3, .int .i64 y.f4, .int .i64 y.f5.f0, .int .i64 y.f5.f1, .int .i64 y.f5.f2, .int .i64 y.f6.f0, .int .i64 y.f6.f1, .int .i64 y.f6.f2, .int .i64 y.f6.f3, .int .i64 y.f6.f4.f0, .int .i64 y.f6.f4.f1, .int .i64 y.f6.f4.f2, .int .i64 y.f6.f5.f0, .int .i64 y.f6.f5.f1, .int .i64 y.f6.f5.f2, .int .i64 y.f6.f6.f0, .int .i64 y.f6.f6.f1, .int .i64 y.f6.f7, .slice B7 y.f7.length B7c, .slice B8 y.f8.length B8c]) (t := 34) ?hr ?_; (case hd => rfl); (case hg => rfl); (case hr => first | (go_simp; done) | (go_simp; rfl)); intro g2 hg wv2_ hbox hb; have n0_ := Aside0.mk (below_step HB.out hb); have n1_ := Aside0.mk (blk_below BK1.out hb); have n2_ := Aside0.mk (hbox); have n3_ := Aside0.mk (And.intro ORD.out (show g1 < g2 by rw [hg]; exact blk_lt BK1.out)); clear HB BK1 ORD; have HB := n0_; have BK1 := n1_; have BK2 := n2_; have ORD := n3_; clear n0_ n1_ n2_ n3_; clear hb hbox hg) | ((with_reducible refine gate_dst (N := 10) rfl ?_); (try (refine gate_guard (by rfl) ?_; dsimp only)); refine ld_event rfl rfl (by first | rfl | (go_simp; done) | (go_simp; rfl)) Try.underlying3 trivial (.int .i64 x.f0) ((blk_cell BK1.out 0).trans rfl) ?_) | ((with_reducible refine gate_dst (N := 12) rfl ?_); (try (refine gate_guard (by rfl) ?_; dsimp only)); refine ld_event rfl rfl (by first | rfl | (go_simp; done) | (go_simp; rfl)) Try.underlying3 trivial (.int .i64 y.f0) ((blk_cell BK2.out 0).trans rfl) ?_) | ((with_reducible refine gate_dst (N := 16) rfl ?_); (try (refine gate_guard (by rfl) ?_; dsimp only)); refine ld_event rfl rfl (by first | rfl | (go_simp; done) | (go_simp; rfl)) Try.underlying9 trivial (.string x.f1) ((blk_cell BK1.out 1).trans rfl) ?_) | ((with_reducible refine gate_dst (N := 18) rfl ?_); (try (refine gate_guard (by rfl) ?_; dsimp only)); refine ld_event rfl rfl (by first | rfl | (go_simp; done) | (go_simp; rfl)) Try.underlying9 trivial (.string y.f1) ((blk_cell BK2.out 1).trans rfl) ?_) | ((with_reducible refine gate_dst (N := 23) rfl ?_); (try (refine gate_guard (by rfl) ?_; dsimp only)); refine ld_event rfl rfl (by first | rfl | (go_simp; done) | (go_simp; rfl)) Try.underlying9 trivial (.string x.f2) ((blk_cell BK1.out 2).trans rfl) ?_) | ((with_reducible refine gate_dst (N := 25) rfl ?_); (try (refine gate_guard (by rfl) ?_; dsimp only)); refine ld_event rfl rfl (by first | rfl | (go_simp; done) | (go_simp; rfl)) Try.underlying9 trivial (.string y.f2) ((blk_cell BK2.out 2).trans rfl) ?_) | ((with_reducible refine gate_dst (N := 30) rfl ?_); (try (refine gate_guard (by rfl) ?_; dsimp only)); refine ld_event rfl rfl (by first | rfl | (go_simp; done) | (go_simp; rfl)) Try.underlying9 trivial (.string x.f3) ((blk_cell BK1.out 3).trans rfl) ?_) | ((with_reducible refine gate_dst (N := 32) rfl ?_); (try (refine gate_guard (by rfl) ?_; dsimp only)); refine ld_event rfl rfl (by first | rfl | (go_simp; done) | (go_simp; rfl)) Try.underlying9 trivial (.string y.f3) ((blk_cell BK2.out 3).trans rfl) ?_) | ((with_reducible refine gate_dst (N := 37) rfl ?_); (try (refine gate_guard (by rfl) ?_; dsimp only)); refine ld_event rfl rfl (by first | rfl | (go_simp; done) | (go_simp; rfl)) Try.underlying3 trivial (.int .i64 x.f4) ((blk_cell BK1.out 4).trans rfl) ?_) | ((with_reducible refine gate_dst (N := 39) rfl ?_); (try (refine gate_guard (by rfl) ?_; dsimp only)); refine ld_event rfl rfl (by first | rfl | (go_simp; done) | (go_simp; rfl)) Try.underlying3 trivial (.int .i64 y.f4) ((blk_cell BK2.out 4).trans rfl) ?_) | ((with_reducible refine gate_dst (N := 44) rfl ?_); (try (refine gate_guard (by rfl) ?_; dsimp only)); refine ldb_event rfl rfl (by first | rfl | (go_simp; done) | (go_simp; rfl)) Try.underlying23 ⟨_, rfl⟩ BK1.out 3 size23 [.int .i64 x.f5.f0, .int .i64 x.f5.f1, .int .i64 x.f5.f2] rfl rfl ?_) | ((with_reducible refine gate_dst (N := 46) rfl ?_); (try (refine gate_guard (by rfl) ?_; dsimp only)); refine ldb_event rfl rfl (by first | rfl | (go_simp; done) | (go_simp; rfl)) Try.underlying23 ⟨_, rfl⟩ BK2.out 3 size23 [.int .i64 y.f5.f0, .int .i64 y.f5.f1, .int .i64 y.f5.f2] rfl rfl ?_) | ((with_reducible refine gate_dst (N := 51) rfl ?_); (try (refine gate_guard (by rfl) ?_; dsimp only)); refine ldb_event rfl rfl (by first | rfl | (go_simp; done) | (go_simp; rfl)) Try.underlying30 ⟨_, rfl⟩ BK1.out 13 size30 [.int .i64 x.f6.f0, .int .i64 x.f6.f1, .int .i64 x.f6.f2, .int .i64 x.f6.f3, .int .i64 x.f6.f4.f0, .int .i64 x.f6.f4.f1, .int .i64 x.f6.f4.f2, .int .i64 x.f6.f5.f0, .int .i64 x.f6.f5.f1, .int .i64 x.f6.f5.f2, .int .i64 x.f6.f6.f0, .int .i64 x.f6.f6.f1, .int .i64 x.f6.f7] rfl rfl ?_) | ((with_reducible refine gate_dst (N := 53) rfl ?_); (try (refine gate_guard (by rfl) ?_; dsimp only)); refine ldb_event rfl rfl (by first | rfl | (go_simp; done) | (go_simp; rfl)) Try.underlying30 ⟨_, rfl⟩ BK2.out 13 size30 [.int .i64 y.f6.f0, .int .i64 y.f6.f1, .int .i64 y.f6.f2, .int .i64 y.f6.f3, .int .i64 y.f6.f4.f0, .int .i64 y.f6.f4.f1, .int .i64 y.f6.f4.f2, .int .i64 y.f6.f5.f0, .int .i64 y.f6.f5.f1, .int .i64 y.f6.f5.f2, .int .i64 y.f6.f6.f0, .int .i64 y.f6.f6.f1, .int .i64 y.f6.f7] rfl rfl ?_) | ((with_reducible refine gate_dst (N := 57) rfl ?_); (try (refine gate_guard (by rfl) ?_; dsimp only)); refine ld_event rfl rfl (by first | rfl | (go_simp; done) | (go_simp; rfl)) Try.underlying31 trivial (.slice A7 x.f7.length A7c) ((blk_cell BK1.out 21).trans rfl) ?_) | ((with_reducible refine gate_dst (N := 60) rfl ?_); (try (refine gate_guard (by rfl) ?_; dsimp only)); refine ld_event rfl rfl (by first | rfl | (go_simp; done) | (go_simp; rfl)) Try.underlying31 trivial (.slice B7 y.f7.length B7c) ((blk_cell BK2.out 21).trans rfl) ?_) | ((with_reducible refine gate_dst (N := 65) rfl ?_); (try (refine gate_guard (by rfl) ?_; dsimp only)); refine ld_event rfl rfl (by first | rfl | (go_simp; done) | (go_simp; rfl)) Try.underlying32 trivial (.slice A8 x.f8.length A8c) ((blk_cell BK1.out 22).trans rfl) ?_) | ((with_reducible refine gate_dst (N := 68) rfl ?_); (try (refine gate_guard (by rfl) ?_; dsimp only)); refine ld_event rfl rfl (by first | rfl | (go_simp; done) | (go_simp; rfl)) Try.underlying32 trivial (.slice B8 y.f8.length B8c) ((blk_cell BK2.out 22).trans rfl) ?_))
    clear ct0 cn0 ct1 cn1 ct2 cn2 ct3 cn3 ct4 cn4 ct5 ct6 ct7 ct8
    go_loopg [5] x.f7.length (fun kq v5 w' => ∃ (i_ : Int), v5 = .int .i64 i_ ∧ Aside0 (0 ≤ i_ ∧ i_ + (kq : Int) = (x.f7.length : Int)) ∧ Aside0 (sm (x.f7.drop i_.toNat) (y.f7.drop i_.toNat) = sm x.f7 y.f7) ∧ Aside0 (w'.heap[g1]? = some (.cells #[.int .i64 x.f0, .string x.f1, .string x.f2, .string x.f3, .int .i64 x.f4, .int .i64 x.f5.f0, .int .i64 x.f5.f1, .int .i64 x.f5.f2, .int .i64 x.f6.f0, .int .i64 x.f6.f1, .int .i64 x.f6.f2, .int .i64 x.f6.f3, .int .i64 x.f6.f4.f0, .int .i64 x.f6.f4.f1, .int .i64 x.f6.f4.f2, .int .i64 x.f6.f5.f0, .int .i64 x.f6.f5.f1, .int .i64 x.f6.f5.f2, .int .i64 x.f6.f6.f0, .int .i64 x.f6.f6.f1, .int .i64 x.f6.f7, .slice A7 x.f7.length A7c, .slice A8 x.f8.length A8c] 34 (0, 0))) ∧ Aside0 (w'.heap[g2]? = some (.cells #[.int .i64 y.f0, .string y.f1, .string y.f2, .string y.f3, .int .i64 y.f4, .int .i64 y.f5.f0, .int .i64 y.f5.f1, .int .i64 y.f5.f2, .int .i64 y.f6.f0, .int .i64 y.f6.f1, .int .i64 y.f6.f2, .int .i64 y.f6.f3, .int .i64 y.f6.f4.f0, .int .i64 y.f6.f4.f1, .int .i64 y.f6.f4.f2, .int .i64 y.f6.f5.f0, .int .i64 y.f6.f5.f1, .int .i64 y.f6.f5.f2, .int .i64 y.f6.f6.f0, .int .i64 y.f6.f6.f1, .int .i64 y.f6.f7, .slice B7 y.f7.length B7c, .slice B8 y.f8.length B8c] 34 (0, 0))) ∧ Aside0 (Below w.heap.size w w'))
    case atStart => exact ⟨0, rfl, ⟨by omega, by omega⟩, ⟨rfl⟩, BK1, BK2, HB⟩
    case round =>
      clear HB BK1 BK2
      obtain ⟨i_, rfl, HQ, HX, BK1, BK2, HB⟩ := hrel
      by_cases c_ : i_ < (x.f7.length : Int)
      · have cb : decide (i_ < (x.f7.length : Int)) = true := decide_eq_true c_
        have p_ : 0 ≤ i_ := HQ.out.1
        have c2_ : i_ < (y.f7.length : Int) := by have := HL7.out; omega
        obtain ⟨ad, cv1_, e_, _, hK1, hc1_⟩ := Kd.C_get G7.out z54 i_ p_ c_
        obtain rfl := e_
        obtain ⟨bd, cv2_, e_, _, hK2, hc2_⟩ := Kd.C_get Q7.out z54 i_ p_ c2_
        obtain rfl := e_
        have HCS1 := Aside0.mk (show CSat wr (ad.add (i_.toNat * 5)) cv1_ from CSat.below (fun j v hj => by rw [World_add_add]; exact hc1_ j v hj) HB.out)
        have HCS2 := Aside0.mk (show CSat wr (bd.add (i_.toNat * 5)) cv2_ from CSat.below (fun j v hj => by rw [World_add_add]; exact hc2_ j v hj) HB.out)
        have SZ1 := Aside0.mk (show (Try.prog.info? 54).map (fun i => i.size) = some cv1_.length by rw [Kd.K_len _ hK1]; exact size54)
        have SZ2 := Aside0.mk (show (Try.prog.info? 54).map (fun i => i.size) = some cv2_.length by rw [Kd.K_len _ hK2]; exact size54)
        have hM1 := mem_getD z54 p_ c_
        have hM2 := mem_getD z54 p_ c2_
        have hN := sm_next z54 p_ c_ c2_
        obtain ⟨x_, hx_⟩ : ∃ q, q = x.f7.getD i_.toNat z54 := ⟨_, rfl⟩
        obtain ⟨y_, hy_⟩ : ∃ q, q = y.f7.getD i_.toNat z54 := ⟨_, rfl⟩
        rw [← hx_] at hK1 hM1 hN
        rw [← hy_] at hK2 hM2 hN
        clear hx_ hy_
        have HK1 := Aside0.mk hK1
        have HK2 := Aside0.mk hK2
        have HM1 := Aside0.mk hM1
        have HM2 := Aside0.mk hM2
        have HN := Aside0.mk hN
        clear hK1 hK2 hc1_ hc2_ hM1 hM2 hN
        have HC_ := Aside0.mk c_
        replace p_ := eq_true p_
        replace c_ := eq_true c_
        replace c2_ := eq_true c2_
        go_upto_region 8 with (first | ((with_reducible refine gate_dst (N := 74) rfl ?_); (try (refine gate_guard (by rfl) ?_; dsimp only)); refine ld_event rfl rfl (by first | rfl | (go_simp; done) | (go_simp; rfl)) Try.underlying31 trivial (.slice (some ad) x.f7.length A7c) ((blk_cell BK1.out 21).trans rfl) ?_))
        refine start_ (n := 12) (S := fun w' => w'.heap[g1]? = some (.cells #[.int .i64 x.f0, .string x.f1, .string x.f2, .string x.f3, .int .i64 x.f4, .int .i64 x.f5.f0, .int .i64 x.f5.f1, .int .i64 x.f5.f2, .int .i64 x.f6.f0, .int .i64 x.f6.f1, .int .i64 x.f6.f2, .int .i64 x.f6.f3, .int .i64 x.f6.f4.f0, .int .i64 x.f6.f4.f1, .int .i64 x.f6.f4.f2, .int .i64 x.f6.f5.f0, .int .i64 x.f6.f5.f1, .int .i64 x.f6.f5.f2, .int .i64 x.f6.f6.f0, .int .i64 x.f6.f6.f1, .int .i64 x.f6.f7, .slice (some ad) x.f7.length A7c, .slice A8 x.f8.length A8c] 34 (0, 0)) ∧ w'.heap[g2]? = some (.cells #[.int .i64 y.f0, .string y.f1, .string y.f2, .string y.f3, .int .i64 y.f4, .int .i64 y.f5.f0, .int .i64 y.f5.f1, .int .i64 y.f5.f2, .int .i64 y.f6.f0, .int .i64 y.f6.f1, .int .i64 y.f6.f2, .int .i64 y.f6.f3, .int .i64 y.f6.f4.f0, .int .i64 y.f6.f4.f1, .int .i64 y.f6.f4.f2, .int .i64 y.f6.f5.f0, .int .i64 y.f6.f5.f1, .int .i64 y.f6.f5.f2, .int .i64 y.f6.f6.f0, .int .i64 y.f6.f6.f1, .int .i64 y.f6.f7, .slice (some bd) y.f7.length B7c, .slice B8 y.f8.length B8c] 34 (0, 0)) ∧ CSat w' (ad.add (i_.toNat * 5)) cv1_ ∧ CSat w' (bd.add (i_.toNat * 5)) cv2_) (ds := [10]) #[false, false, false, false, false, false, false, false, false, false, false, false] (by kernel_rfl) rfl rfl ⟨blk_below BK1.out (below_drew1 (Below.refl _ _)), blk_below BK2.out (below_drew1 (Below.refl _ _)), CSat.below HCS1.out (below_drew1 (Below.refl _ _)), CSat.below HCS2.out (below_drew1 (Below.refl _ _))⟩ (fun hHeld => ?_)
        have n0_ := Aside0.mk (below_drew1 HB.out)
        have n1_ := Aside0.mk (blk_drew BK1.out)
        have n2_ := Aside0.mk (blk_drew BK2.out)
        have n3_ := Aside0.mk (CSat.below HCS1.out (below_drew1 (Below.refl _ _)))
        have n4_ := Aside0.mk (CSat.below HCS2.out (below_drew1 (Below.refl _ _)))
        clear HB BK1 BK2 HCS1 HCS2
        have HB := n0_
        have BK1 := n1_
        have BK2 := n2_
        have HCS1 := n3_
        have HCS2 := n4_
        clear n0_ n1_ n2_ n3_ n4_
        generalize wr.drew = wv3_ at HB BK1 BK2 HCS1 HCS2 hHeld ⊢
        refine pure_ (i := 0) (N := some 79) (v := ?_) (a' := ?_) #[true, false, false, false, false, false, false, false, false, false, false, false] rfl rfl (by kernel_rfl) (fun _ _ _ h => h) (Or.inl ⟨by rfl, ?_⟩) ?_ ?_
        rotate_left
        · intro w'
          go_simp
          with_reducible rfl
        rotate_left
        · simp only [Act.put, List.setIfInBounds_toArray, List.set_cons_zero, List.set_cons_succ, i64_w, i32_w]
          rfl
        refine pure_ (i := 2) (N := some 81) (v := ?_) (a' := ?_) #[true, false, true, false, false, false, false, false, false, false, false, false] rfl rfl (by kernel_rfl) (fun _ _ _ h => h) (Or.inl ⟨by rfl, ?_⟩) ?_ ?_
        rotate_left
        · intro w'
          go_simp
          with_reducible rfl
        rotate_left
        · simp only [Act.put, List.setIfInBounds_toArray, List.set_cons_zero, List.set_cons_succ, i64_w, i32_w]
          rfl
        refine pure_ (i := 5) (N := some 84) (v := ?_) (a' := ?_) #[true, false, true, false, false, true, false, false, false, false, false, false] rfl rfl (by kernel_rfl) (fun _ _ _ h => h) (Or.inl ⟨by rfl, ?_⟩) ?_ ?_
        rotate_left
        · intro w'
          go_simp
          with_reducible rfl
        rotate_left
        · simp only [Act.put, List.setIfInBounds_toArray, List.set_cons_zero, List.set_cons_succ, i64_w, i32_w]
          rfl
        refine pure_ (i := 7) (N := some 86) (v := ?_) (a' := ?_) #[true, false, true, false, false, true, false, true, false, false, false, false] rfl rfl (by kernel_rfl) (fun _ _ _ h => h) (Or.inl ⟨by rfl, ?_⟩) ?_ ?_
        rotate_left
        · intro w'
          go_simp
          with_reducible rfl
        rotate_left
        · simp only [Act.put, List.setIfInBounds_toArray, List.set_cons_zero, List.set_cons_succ, i64_w, i32_w]
          rfl
        refine take_ (i := 1) (N := some 80) (v := ?_) (a' := ?_) #[true, true, true, false, false, true, false, true, false, false, false, false] rfl rfl (by kernel_rfl) (fun _ _ _ h => h) (Or.inl ⟨by rfl, ?_⟩) hHeld ?_ ?_
        rotate_left
        · rintro w' ⟨s1, s2, x0, x1⟩
          refine Eq.trans (ld_run rfl (by first | rfl | (go_simp; done) | (go_simp; rfl)) Try.underlying31 trivial (.slice (some ad) x.f7.length A7c) ((blk_cell s1 21).trans rfl)) ?_
          with_reducible rfl
        rotate_left
        · simp only [Act.put, List.setIfInBounds_toArray, List.set_cons_zero, List.set_cons_succ, i64_w, i32_w]
          rfl
        refine take_ (i := 6) (N := some 85) (v := ?_) (a' := ?_) #[true, true, true, false, false, true, true, true, false, false, false, false] rfl rfl (by kernel_rfl) (fun _ _ _ h => h) (Or.inl ⟨by rfl, ?_⟩) hHeld ?_ ?_
        rotate_left
        · rintro w' ⟨s1, s2, x0, x1⟩
          refine Eq.trans (ld_run rfl (by first | rfl | (go_simp; done) | (go_simp; rfl)) Try.underlying31 trivial (.slice (some bd) y.f7.length B7c) ((blk_cell s2 21).trans rfl)) ?_
          with_reducible rfl
        rotate_left
        · simp only [Act.put, List.setIfInBounds_toArray, List.set_cons_zero, List.set_cons_succ, i64_w, i32_w]
          rfl
        refine pure_ (i := 3) (N := some 82) (v := ?_) (a' := ?_) #[true, true, true, true, false, true, true, true, false, false, false, false] rfl rfl (by kernel_rfl) (fun _ _ _ h => h) (Or.inl ⟨by rfl, ?_⟩) ?_ ?_
        rotate_left
        · intro w'
          go_simp
          with_reducible rfl
        rotate_left
        · simp only [Act.put, List.setIfInBounds_toArray, List.set_cons_zero, List.set_cons_succ, i64_w, i32_w]
          rfl
        refine pure_ (i := 8) (N := some 87) (v := ?_) (a' := ?_) #[true, true, true, true, false, true, true, true, true, false, false, false] rfl rfl (by kernel_rfl) (fun _ _ _ h => h) (Or.inl ⟨by rfl, ?_⟩) ?_ ?_
        rotate_left
        · intro w'
          go_simp
          with_reducible rfl
        rotate_left
        · simp only [Act.put, List.setIfInBounds_toArray, List.set_cons_zero, List.set_cons_succ, i64_w, i32_w]
          rfl
        refine take_ (i := 4) (N := some 83) (v := ?_) (a' := ?_) #[true, true, true, true, true, true, true, true, true, false, false, false] rfl rfl (by kernel_rfl) (fun _ _ _ h => h) (Or.inl ⟨by rfl, ?_⟩) hHeld ?_ ?_
        rotate_left
        · rintro w' ⟨s1, s2, x0, x1⟩
          refine Eq.trans (lds_run rfl (by first | rfl | (go_simp; done) | (go_simp; rfl)) Try.underlying54 ⟨_, rfl⟩ cv1_ SZ1.out x0) ?_
          with_reducible rfl
        rotate_left
        · simp only [Act.put, List.setIfInBounds_toArray, List.set_cons_zero, List.set_cons_succ, i64_w, i32_w]
          rfl
        refine take_ (i := 9) (N := some 88) (v := ?_) (a' := ?_) #[true, true, true, true, true, true, true, true, true, true, false, false] rfl rfl (by kernel_rfl) (fun _ _ _ h => h) (Or.inl ⟨by rfl, ?_⟩) hHeld ?_ ?_
        rotate_left
        · rintro w' ⟨s1, s2, x0, x1⟩
          refine Eq.trans (lds_run rfl (by first | rfl | (go_simp; done) | (go_simp; rfl)) Try.underlying54 ⟨_, rfl⟩ cv2_ SZ2.out x1) ?_
          with_reducible rfl
        rotate_left
        · simp only [Act.put, List.setIfInBounds_toArray, List.set_cons_zero, List.set_cons_succ, i64_w, i32_w]
          rfl
        refine last_ (i := 10) (N := some 89) #[true, true, true, true, true, true, true, true, true, true, true, false] rfl rfl (by kernel_rfl) (by decide) (fun K hK => ?_)
        refine goes_ Try.func29 (by kernel_rfl) rfl #[.agg cv1_.toArray, .agg cv2_.toArray] (by rfl) rfl rfl (by (try simp only [List.map_toArray, List.map_cons, List.map_nil]); first | done | rfl) ?_
        with_reducible refine (EqOK.calls (sameExpr.all _ _ (HE.out _ HM1.out)) cv1_ cv2_ _ (Kd.K_below _ HB.out HK1.out) (Kd.K_below _ HB.out HK2.out)).mono ?_
        rintro e wv4_ ⟨rfl, hb⟩
        refine ⟨_, rfl, ?_⟩
        have n0_ := Aside0.mk (below_step HB.out hb)
        have n1_ := Aside0.mk (blk_below BK1.out hb)
        have n2_ := Aside0.mk (blk_below BK2.out hb)
        have n3_ := Aside0.mk (CSat.below HCS1.out hb)
        have n4_ := Aside0.mk (CSat.below HCS2.out hb)
        clear HB BK1 BK2 HCS1 HCS2
        have HB := n0_
        have BK1 := n1_
        have BK2 := n2_
        have HCS1 := n3_
        have HCS2 := n4_
        clear n0_ n1_ n2_ n3_ n4_
        clear hb
        refine hK.out _ _ ?_
        clear hK K
        refine norm_ (a' := ?_) ?_ ?_
        rotate_left
        · show Act.put _ (some 89) _ = _
          simp only [Act.put, List.setIfInBounds_toArray, List.set_cons_zero, List.set_cons_succ, i64_w, i32_w]
          rfl
        refine pure_ (i := 11) (N := some 6) (v := ?_) (a' := ?_) #[true, true, true, true, true, true, true, true, true, true, true, true] rfl rfl (by kernel_rfl) (fun _ _ _ h => h) (Or.inl ⟨by rfl, ?_⟩) ?_ ?_
        rotate_left
        · intro w'
          go_simp
          with_reducible rfl
        rotate_left
        · simp only [Act.put, List.setIfInBounds_toArray, List.set_cons_zero, List.set_cons_succ, i64_w, i32_w]
          rfl
        refine done_ (by kernel_rfl) ?_
        cases hbe : sm x_ y_ with
        | true =>
          rw [hbe] at HN
          go_wp2
          go_roundg (gk - 1)
          case measure => have := HQ.out; have := HC_.out; omega
          case rel => exact ⟨i_ + 1, by rw [show wrap64 (i_ + 1) = i_ + 1 from by have := HQ.out; have := HC_.out; have := Kd.C_max G7.out; unfold wrap64; omega], ⟨by have := HQ.out; have := HC_.out; omega⟩, ⟨by rw [← HX.out, HN.out, Bool.true_and]⟩, BK1, BK2, HB⟩
        | false =>
          rw [hbe] at HN
          go_wp2
          go_ret
          have hsm : sm x y = false := sm_false (fun e => by have h7 : sm x.f7 y.f7 = false := (by rw [← HX.out, HN.out, Bool.false_and]); rw [e, sm_self] at h7; cases h7)
          exact ⟨by rw [hsm]; rfl, HB.out⟩
      · have cb : decide (i_ < (x.f7.length : Int)) = false := decide_eq_false c_
        have hsm7 : sm x.f7 y.f7 = true := by rw [← HX.out]; exact sm_end _ _ _ (by omega) (by have := HL7.out; omega)
        have HSM7 := Aside0.mk hsm7
        clear c_ HQ HX hsm7
        go_wp2_with (first | ((with_reducible refine gate_dst (N := 74) rfl ?_); (try (refine gate_guard (by rfl) ?_; dsimp only)); refine ld_event rfl rfl (by first | rfl | (go_simp; done) | (go_simp; rfl)) Try.underlying31 trivial (.slice A7 x.f7.length A7c) ((blk_cell BK1.out 21).trans rfl) ?_))
        go_loopg [7] x.f8.length (fun kq v7 w' => ∃ (i_ : Int), v7 = .int .i64 i_ ∧ Aside0 (0 ≤ i_ ∧ i_ + (kq : Int) = (x.f8.length : Int)) ∧ Aside0 (sm (x.f8.drop i_.toNat) (y.f8.drop i_.toNat) = sm x.f8 y.f8) ∧ Aside0 (w'.heap[g1]? = some (.cells #[.int .i64 x.f0, .string x.f1, .string x.f2, .string x.f3, .int .i64 x.f4, .int .i64 x.f5.f0, .int .i64 x.f5.f1, .int .i64 x.f5.f2, .int .i64 x.f6.f0, .int .i64 x.f6.f1, .int .i64 x.f6.f2, .int .i64 x.f6.f3, .int .i64 x.f6.f4.f0, .int .i64 x.f6.f4.f1, .int .i64 x.f6.f4.f2, .int .i64 x.f6.f5.f0, .int .i64 x.f6.f5.f1, .int .i64 x.f6.f5.f2, .int .i64 x.f6.f6.f0, .int .i64 x.f6.f6.f1, .int .i64 x.f6.f7, .slice A7 x.f7.length A7c, .slice A8 x.f8.length A8c] 34 (0, 0))) ∧ Aside0 (w'.heap[g2]? = some (.cells #[.int .i64 y.f0, .string y.f1, .string y.f2, .string y.f3, .int .i64 y.f4, .int .i64 y.f5.f0, .int .i64 y.f5.f1, .int .i64 y.f5.f2, .int .i64 y.f6.f0, .int .i64 y.f6.f1, .int .i64 y.f6.f2, .int .i64 y.f6.f3, .int .i64 y.f6.f4.f0, .int .i64 y.f6.f4.f1, .int .i64 y.f6.f4.f2, .int .i64 y.f6.f5.f0, .int .i64 y.f6.f5.f1, .int .i64 y.f6.f5.f2, .int .i64 y.f6.f6.f0, .int .i64 y.f6.f6.f1, .int .i64 y.f6.f7, .slice B7 y.f7.length B7c, .slice B8 y.f8.length B8c] 34 (0, 0))) ∧ Aside0 (Below w.heap.size w w'))
        case atStart => exact ⟨0, rfl, ⟨by omega, by omega⟩, ⟨rfl⟩, BK1, BK2, HB⟩
        case round =>
          clear HB BK1 BK2
          obtain ⟨i_, rfl, HQ, HX, BK1, BK2, HB⟩ := hrel
          by_cases c_ : i_ < (x.f8.length : Int)
          · have cb : decide (i_ < (x.f8.length : Int)) = true := decide_eq_true c_
            have p_ : 0 ≤ i_ := HQ.out.1
            have c2_ : i_ < (y.f8.length : Int) := by have := HL8.out; omega
            obtain ⟨ad, cv1_, e_, _, hK1, hc1_⟩ := Kd.C_get G8.out z34 i_ p_ c_
            obtain rfl := e_
            obtain ⟨bd, cv2_, e_, _, hK2, hc2_⟩ := Kd.C_get Q8.out z34 i_ p_ c2_
            obtain rfl := e_
            have HCS1 := Aside0.mk (show CSat wr (ad.add (i_.toNat * 23)) cv1_ from CSat.below (fun j v hj => by rw [World_add_add]; exact hc1_ j v hj) HB.out)
            have HCS2 := Aside0.mk (show CSat wr (bd.add (i_.toNat * 23)) cv2_ from CSat.below (fun j v hj => by rw [World_add_add]; exact hc2_ j v hj) HB.out)
            have SZ1 := Aside0.mk (show (Try.prog.info? 34).map (fun i => i.size) = some cv1_.length by rw [Kd.K_len _ hK1]; exact size34)
            have SZ2 := Aside0.mk (show (Try.prog.info? 34).map (fun i => i.size) = some cv2_.length by rw [Kd.K_len _ hK2]; exact size34)
            have hM1 := mem_getD z34 p_ c_
            have hM2 := mem_getD z34 p_ c2_
            have hN := sm_next z34 p_ c_ c2_
            obtain ⟨x_, hx_⟩ : ∃ q, q = x.f8.getD i_.toNat z34 := ⟨_, rfl⟩
            obtain ⟨y_, hy_⟩ : ∃ q, q = y.f8.getD i_.toNat z34 := ⟨_, rfl⟩
            rw [← hx_] at hK1 hM1 hN
            rw [← hy_] at hK2 hM2 hN
            clear hx_ hy_
            have HK1 := Aside0.mk hK1
            have HK2 := Aside0.mk hK2
            have HM1 := Aside0.mk hM1
            have HM2 := Aside0.mk hM2
            have HN := Aside0.mk hN
            clear hK1 hK2 hc1_ hc2_ hM1 hM2 hN
            have HC_ := Aside0.mk c_
            replace p_ := eq_true p_
            replace c_ := eq_true c_
            replace c2_ := eq_true c2_
            go_upto_region 14 with (first | ((with_reducible refine gate_dst (N := 94) rfl ?_); (try (refine gate_guard (by rfl) ?_; dsimp only)); refine ld_event rfl rfl (by first | rfl | (go_simp; done) | (go_simp; rfl)) Try.underlying32 trivial (.slice (some ad) x.f8.length A8c) ((blk_cell BK1.out 22).trans rfl) ?_))
            refine start_ (n := 12) (S := fun w' => w'.heap[g1]? = some (.cells #[.int .i64 x.f0, .string x.f1, .string x.f2, .string x.f3, .int .i64 x.f4, .int .i64 x.f5.f0, .int .i64 x.f5.f1, .int .i64 x.f5.f2, .int .i64 x.f6.f0, .int .i64 x.f6.f1, .int .i64 x.f6.f2, .int .i64 x.f6.f3, .int .i64 x.f6.f4.f0, .int .i64 x.f6.f4.f1, .int .i64 x.f6.f4.f2, .int .i64 x.f6.f5.f0, .int .i64 x.f6.f5.f1, .int .i64 x.f6.f5.f2, .int .i64 x.f6.f6.f0, .int .i64 x.f6.f6.f1, .int .i64 x.f6.f7, .slice A7 x.f7.length A7c, .slice (some ad) x.f8.length A8c] 34 (0, 0)) ∧ w'.heap[g2]? = some (.cells #[.int .i64 y.f0, .string y.f1, .string y.f2, .string y.f3, .int .i64 y.f4, .int .i64 y.f5.f0, .int .i64 y.f5.f1, .int .i64 y.f5.f2, .int .i64 y.f6.f0, .int .i64 y.f6.f1, .int .i64 y.f6.f2, .int .i64 y.f6.f3, .int .i64 y.f6.f4.f0, .int .i64 y.f6.f4.f1, .int .i64 y.f6.f4.f2, .int .i64 y.f6.f5.f0, .int .i64 y.f6.f5.f1, .int .i64 y.f6.f5.f2, .int .i64 y.f6.f6.f0, .int .i64 y.f6.f6.f1, .int .i64 y.f6.f7, .slice B7 y.f7.length B7c, .slice (some bd) y.f8.length B8c] 34 (0, 0)) ∧ CSat w' (ad.add (i_.toNat * 23)) cv1_ ∧ CSat w' (bd.add (i_.toNat * 23)) cv2_) (ds := [10]) #[false, false, false, false, false, false, false, false, false, false, false, false] (by kernel_rfl) rfl rfl ⟨blk_below BK1.out (below_drew1 (Below.refl _ _)), blk_below BK2.out (below_drew1 (Below.refl _ _)), CSat.below HCS1.out (below_drew1 (Below.refl _ _)), CSat.below HCS2.out (below_drew1 (Below.refl _ _))⟩ (fun hHeld => ?_)
            have n0_ := Aside0.mk (below_drew1 HB.out)
            have n1_ := Aside0.mk (blk_drew BK1.out)
            have n2_ := Aside0.mk (blk_drew BK2.out)
            have n3_ := Aside0.mk (CSat.below HCS1.out (below_drew1 (Below.refl _ _)))
            have n4_ := Aside0.mk (CSat.below HCS2.out (below_drew1 (Below.refl _ _)))
            clear HB BK1 BK2 HCS1 HCS2
            have HB := n0_
            have BK1 := n1_
            have BK2 := n2_
            have HCS1 := n3_
            have HCS2 := n4_
            clear n0_ n1_ n2_ n3_ n4_
            generalize wr.drew = wv3_ at HB BK1 BK2 HCS1 HCS2 hHeld ⊢
            refine pure_ (i := 0) (N := some 99) (v := ?_) (a' := ?_) #[true, false, false, false, false, false, false, false, false, false, false, false] rfl rfl (by kernel_rfl) (fun _ _ _ h => h) (Or.inl ⟨by rfl, ?_⟩) ?_ ?_
            rotate_left
            · intro w'
              go_simp
              with_reducible rfl
            rotate_left
            · simp only [Act.put, List.setIfInBounds_toArray, List.set_cons_zero, List.set_cons_succ, i64_w, i32_w]
              rfl
            refine pure_ (i := 2) (N := some 101) (v := ?_) (a' := ?_) #[true, false, true, false, false, false, false, false, false, false, false, false] rfl rfl (by kernel_rfl) (fun _ _ _ h => h) (Or.inl ⟨by rfl, ?_⟩) ?_ ?_
            rotate_left
            · intro w'
              go_simp
              with_reducible rfl
            rotate_left
            · simp only [Act.put, List.setIfInBounds_toArray, List.set_cons_zero, List.set_cons_succ, i64_w, i32_w]
              rfl
            refine pure_ (i := 5) (N := some 104) (v := ?_) (a' := ?_) #[true, false, true, false, false, true, false, false, false, false, false, false] rfl rfl (by kernel_rfl) (fun _ _ _ h => h) (Or.inl ⟨by rfl, ?_⟩) ?_ ?_
            rotate_left
            · intro w'
              go_simp
              with_reducible rfl
            rotate_left
            · simp only [Act.put, List.setIfInBounds_toArray, List.set_cons_zero, List.set_cons_succ, i64_w, i32_w]
              rfl
            refine pure_ (i := 7) (N := some 106) (v := ?_) (a' := ?_) #[true, false, true, false, false, true, false, true, false, false, false, false] rfl rfl (by kernel_rfl) (fun _ _ _ h => h) (Or.inl ⟨by rfl, ?_⟩) ?_ ?_
            rotate_left
            · intro w'
              go_simp
              with_reducible rfl
            rotate_left
            · simp only [Act.put, List.setIfInBounds_toArray, List.set_cons_zero, List.set_cons_succ, i64_w, i32_w]
              rfl
            refine take_ (i := 1) (N := some 100) (v := ?_) (a' := ?_) #[true, true, true, false, false, true, false, true, false, false, false, false] rfl rfl (by kernel_rfl) (fun _ _ _ h => h) (Or.inl ⟨by rfl, ?_⟩) hHeld ?_ ?_
            rotate_left
            · rintro w' ⟨s1, s2, x0, x1⟩
              refine Eq.trans (ld_run rfl (by first | rfl | (go_simp; done) | (go_simp; rfl)) Try.underlying32 trivial (.slice (some ad) x.f8.length A8c) ((blk_cell s1 22).trans rfl)) ?_
              with_reducible rfl
            rotate_left
            · simp only [Act.put, List.setIfInBounds_toArray, List.set_cons_zero, List.set_cons_succ, i64_w, i32_w]
              rfl
            refine take_ (i := 6) (N := some 105) (v := ?_) (a' := ?_) #[true, true, true, false, false, true, true, true, false, false, false, false] rfl rfl (by kernel_rfl) (fun _ _ _ h => h) (Or.inl ⟨by rfl, ?_⟩) hHeld ?_ ?_
            rotate_left
            · rintro w' ⟨s1, s2, x0, x1⟩
              refine Eq.trans (ld_run rfl (by first | rfl | (go_simp; done) | (go_simp; rfl)) Try.underlying32 trivial (.slice (some bd) y.f8.length B8c) ((blk_cell s2 22).trans rfl)) ?_
              with_reducible rfl
            rotate_left
            · simp only [Act.put, List.setIfInBounds_toArray, List.set_cons_zero, List.set_cons_succ, i64_w, i32_w]
              rfl
            refine pure_ (i := 3) (N := some 102) (v := ?_) (a' := ?_) #[true, true, true, true, false, true, true, true, false, false, false, false] rfl rfl (by kernel_rfl) (fun _ _ _ h => h) (Or.inl ⟨by rfl, ?_⟩) ?_ ?_
            rotate_left
            · intro w'
              go_simp
              with_reducible rfl
            rotate_left
            · simp only [Act.put, List.setIfInBounds_toArray, List.set_cons_zero, List.set_cons_succ, i64_w, i32_w]
              rfl
            refine pure_ (i := 8) (N := some 107) (v := ?_) (a' := ?_) #[true, true, true, true, false, true, true, true, true, false, false, false] rfl rfl (by kernel_rfl) (fun _ _ _ h => h) (Or.inl ⟨by rfl, ?_⟩) ?_ ?_
            rotate_left
            · intro w'
              go_simp
              with_reducible rfl
            rotate_left
            · simp only [Act.put, List.setIfInBounds_toArray, List.set_cons_zero, List.set_cons_succ, i64_w, i32_w]
              rfl
            refine take_ (i := 4) (N := some 103) (v := ?_) (a' := ?_) #[true, true, true, true, true, true, true, true, true, false, false, false] rfl rfl (by kernel_rfl) (fun _ _ _ h => h) (Or.inl ⟨by rfl, ?_⟩) hHeld ?_ ?_
            rotate_left
            · rintro w' ⟨s1, s2, x0, x1⟩
              refine Eq.trans (lds_run rfl (by first | rfl | (go_simp; done) | (go_simp; rfl)) Try.underlying34 ⟨_, rfl⟩ cv1_ SZ1.out x0) ?_
              with_reducible rfl
            rotate_left
            · simp only [Act.put, List.setIfInBounds_toArray, List.set_cons_zero, List.set_cons_succ, i64_w, i32_w]
              rfl
            refine take_ (i := 9) (N := some 108) (v := ?_) (a' := ?_) #[true, true, true, true, true, true, true, true, true, true, false, false] rfl rfl (by kernel_rfl) (fun _ _ _ h => h) (Or.inl ⟨by rfl, ?_⟩) hHeld ?_ ?_
            rotate_left
            · rintro w' ⟨s1, s2, x0, x1⟩
              refine Eq.trans (lds_run rfl (by first | rfl | (go_simp; done) | (go_simp; rfl)) Try.underlying34 ⟨_, rfl⟩ cv2_ SZ2.out x1) ?_
              with_reducible rfl
            rotate_left
            · simp only [Act.put, List.setIfInBounds_toArray, List.set_cons_zero, List.set_cons_succ, i64_w, i32_w]
              rfl
            refine last_ (i := 10) (N := some 109) #[true, true, true, true, true, true, true, true, true, true, true, false] rfl rfl (by kernel_rfl) (by decide) (fun K hK => ?_)
            refine goes_ Try.func13 (by kernel_rfl) rfl #[.agg cv1_.toArray, .agg cv2_.toArray] (by rfl) rfl rfl (by (try simp only [List.map_toArray, List.map_cons, List.map_nil]); first | done | rfl) ?_
            with_reducible refine (EqOK.calls (HS.out _ HM1.out _ HM2.out) cv1_ cv2_ _ (Kd.K_below _ HB.out HK1.out) (Kd.K_below _ HB.out HK2.out)).mono ?_
            rintro e wv4_ ⟨rfl, hb⟩
            refine ⟨_, rfl, ?_⟩
            have n0_ := Aside0.mk (below_step HB.out hb)
            have n1_ := Aside0.mk (blk_below BK1.out hb)
            have n2_ := Aside0.mk (blk_below BK2.out hb)
            have n3_ := Aside0.mk (CSat.below HCS1.out hb)
            have n4_ := Aside0.mk (CSat.below HCS2.out hb)
            clear HB BK1 BK2 HCS1 HCS2
            have HB := n0_
            have BK1 := n1_
            have BK2 := n2_
            have HCS1 := n3_
            have HCS2 := n4_
            clear n0_ n1_ n2_ n3_ n4_
            clear hb
            refine hK.out _ _ ?_
            clear hK K
            refine norm_ (a' := ?_) ?_ ?_
            rotate_left
            · show Act.put _ (some 109) _ = _
              simp only [Act.put, List.setIfInBounds_toArray, List.set_cons_zero, List.set_cons_succ, i64_w, i32_w]
              rfl
            refine pure_ (i := 11) (N := some 8) (v := ?_) (a' := ?_) #[true, true, true, true, true, true, true, true, true, true, true, true] rfl rfl (by kernel_rfl) (fun _ _ _ h => h) (Or.inl ⟨by rfl, ?_⟩) ?_ ?_
            rotate_left
            · intro w'
              go_simp
              with_reducible rfl
            rotate_left
            · simp only [Act.put, List.setIfInBounds_toArray, List.set_cons_zero, List.set_cons_succ, i64_w, i32_w]
              rfl
            refine done_ (by kernel_rfl) ?_
            cases hbe : sm x_ y_ with
            | true =>
              rw [hbe] at HN
              go_wp2
              go_roundg (gk - 1)
              case measure => have := HQ.out; have := HC_.out; omega
              case rel => exact ⟨i_ + 1, by rw [show wrap64 (i_ + 1) = i_ + 1 from by have := HQ.out; have := HC_.out; have := Kd.C_max G8.out; unfold wrap64; omega], ⟨by have := HQ.out; have := HC_.out; omega⟩, ⟨by rw [← HX.out, HN.out, Bool.true_and]⟩, BK1, BK2, HB⟩
            | false =>
              rw [hbe] at HN
              go_wp2
              go_ret
              have hsm : sm x y = false := sm_false (fun e => by have h8 : sm x.f8 y.f8 = false := (by rw [← HX.out, HN.out, Bool.false_and]); rw [e, sm_self] at h8; cases h8)
              exact ⟨by rw [hsm]; rfl, HB.out⟩
          · have cb : decide (i_ < (x.f8.length : Int)) = false := decide_eq_false c_
            have hsm8 : sm x.f8 y.f8 = true := by rw [← HX.out]; exact sm_end _ _ _ (by omega) (by have := HL8.out; omega)
            have HSM8 := Aside0.mk hsm8
            clear c_ HQ HX hsm8
            go_wp2_with (first | ((with_reducible refine gate_dst (N := 94) rfl ?_); (try (refine gate_guard (by rfl) ?_; dsimp only)); refine ld_event rfl rfl (by first | rfl | (go_simp; done) | (go_simp; rfl)) Try.underlying32 trivial (.slice A8 x.f8.length A8c) ((blk_cell BK1.out 22).trans rfl) ?_))
            have hsm : sm x y = true := sm_true (S34_ext H0.out H1.out H2.out H3.out H4.out H5.out H6.out (sm_iff.1 HSM7.out) (sm_iff.1 HSM8.out))
            go_ret
            exact ⟨by rw [hsm]; rfl, HB.out⟩
  all_goals
    go_enter Try.func13, Try.ntmps13
    go_wp2_with (first | ((with_reducible refine gate_dst (N := 2) rfl ?_); (try (refine gate_guard (by rfl) ?_; dsimp only)); refine box_event ?hg (N := 2) ?hd (cs := #[.int .i64 x.f0, .string x.f1, .string x.f2, .string x.f3, .int .i64 x.f4, .int .i64 x.f5.f0, .int .i64 x.f5.f1, .int .i64 x.f5.f2, .int .i64 x.f6.f0, .int .i64 x.f6.f1, .int .i64 x.f6.f2, .int .i64 x.f6.f3, .int .i64 x.f6.f4.f0, .int .i64 x.f6.f4.f1, .int .i64 x.f6.f4.f2, .int .i64 x.f6.f5.f0, .int .i64 x.f6.f5.f1, .int .i64 x.f6.f5.f2, .int .i64 x.f6.f6.f0, .int .i64 x.f6.f6.f1, .int .i64 x.f6.f7, .slice A7 x.f7.length A7c, .slice A8 x.f8.length A8c]) (t := 34) ?hr ?_; (case hd => rfl); (case hg => rfl); (case hr => first | (go_simp; done) | (go_simp; rfl)); intro g1 hg wv1_ hbox hb; have n0_ := Aside0.mk (below_step HB.out hb); have n1_ := Aside0.mk (hbox); have n2_ := Aside0.mk ((show w.heap.size ≤ g1 by rw [hg]; exact below_size HB.out)); clear HB; have HB := n0_; have BK1 := n1_; have ORD := n2_; clear n0_ n1_ n2_; clear hb hbox hg) | ((with_reducible refine gate_dst (N := 3) rfl ?_); (try (refine gate_guard (by rfl) ?_; dsimp only)); refine box_event ?hg (N := 3) ?hd (cs := #[.int .i64 y.f0, .string y.f1, .string y.f2, .string y.f3, .int .i64 y.f4, .int .i64 y.f5.f0, .int .i64 y.f5.f1, .int .i64 y.f5.f2, .int .i64 y.f6.f0, .int .i64 y.f6.f1, .int .i64 y.f6.f2, .int .i64 y.f6.f3, .int .i64 y.f6.f4.f0, .int .i64 y.f6.f4.f1, .int .i64 y.f6.f4.f2, .int .i64 y.f6.f5.f0, .int .i64 y.f6.f5.f1, .int .i64 y.f6.f5.f2, .int .i64 y.f6.f6.f0, .int .i64 y.f6.f6.f1, .int .i64 y.f6.f7, .slice B7 y.f7.length B7c, .slice B8 y.f8.length B8c]) (t := 34) ?hr ?_; (case hd => rfl); (case hg => rfl); (case hr => first | (go_simp; done) | (go_simp; rfl)); intro g2 hg wv2_ hbox hb; have n0_ := Aside0.mk (below_step HB.out hb); have n1_ := Aside0.mk (blk_below BK1.out hb); have n2_ := Aside0.mk (hbox); have n3_ := Aside0.mk (And.intro ORD.out (show g1 < g2 by rw [hg]; exact blk_lt BK1.out)); clear HB BK1 ORD; have HB := n0_; have BK1 := n1_; have BK2 := n2_; have ORD := n3_; clear n0_ n1_ n2_ n3_; clear hb hbox hg) | ((with_reducible refine gate_dst (N := 10) rfl ?_); (try (refine gate_guard (by rfl) ?_; dsimp only)); refine ld_event rfl rfl (by first | rfl | (go_simp; done) | (go_simp; rfl)) Try.underlying3 trivial (.int .i64 x.f0) ((blk_cell BK1.out 0).trans rfl) ?_) | ((with_reducible refine gate_dst (N := 12) rfl ?_); (try (refine gate_guard (by rfl) ?_; dsimp only)); refine ld_event rfl rfl (by first | rfl | (go_simp; done) | (go_simp; rfl)) Try.underlying3 trivial (.int .i64 y.f0) ((blk_cell BK2.out 0).trans rfl) ?_) | ((with_reducible refine gate_dst (N := 16) rfl ?_); (try (refine gate_guard (by rfl) ?_; dsimp only)); refine ld_event rfl rfl (by first | rfl | (go_simp; done) | (go_simp; rfl)) Try.underlying9 trivial (.string x.f1) ((blk_cell BK1.out 1).trans rfl) ?_) | ((with_reducible refine gate_dst (N := 18) rfl ?_); (try (refine gate_guard (by rfl) ?_; dsimp only)); refine ld_event rfl rfl (by first | rfl | (go_simp; done) | (go_simp; rfl)) Try.underlying9 trivial (.string y.f1) ((blk_cell BK2.out 1).trans rfl) ?_) | ((with_reducible refine gate_dst (N := 23) rfl ?_); (try (refine gate_guard (by rfl) ?_; dsimp only)); refine ld_event rfl rfl (by first | rfl | (go_simp; done) | (go_simp; rfl)) Try.underlying9 trivial (.string x.f2) ((blk_cell BK1.out 2).trans rfl) ?_) | ((with_reducible refine gate_dst (N := 25) rfl ?_); (try (refine gate_guard (by rfl) ?_; dsimp only)); refine ld_event rfl rfl (by first | rfl | (go_simp; done) | (go_simp; rfl)) Try.underlying9 trivial (.string y.f2) ((blk_cell BK2.out 2).trans rfl) ?_) | ((with_reducible refine gate_dst (N := 30) rfl ?_); (try (refine gate_guard (by rfl) ?_; dsimp only)); refine ld_event rfl rfl (by first | rfl | (go_simp; done) | (go_simp; rfl)) Try.underlying9 trivial (.string x.f3) ((blk_cell BK1.out 3).trans rfl) ?_) | ((with_reducible refine gate_dst (N := 32) rfl ?_); (try (refine gate_guard (by rfl) ?_; dsimp only)); refine ld_event rfl rfl (by first | rfl | (go_simp; done) | (go_simp; rfl)) Try.underlying9 trivial (.string y.f3) ((blk_cell BK2.out 3).trans rfl) ?_) | ((with_reducible refine gate_dst (N := 37) rfl ?_); (try (refine gate_guard (by rfl) ?_; dsimp only)); refine ld_event rfl rfl (by first | rfl | (go_simp; done) | (go_simp; rfl)) Try.underlying3 trivial (.int .i64 x.f4) ((blk_cell BK1.out 4).trans rfl) ?_) | ((with_reducible refine gate_dst (N := 39) rfl ?_); (try (refine gate_guard (by rfl) ?_; dsimp only)); refine ld_event rfl rfl (by first | rfl | (go_simp; done) | (go_simp; rfl)) Try.underlying3 trivial (.int .i64 y.f4) ((blk_cell BK2.out 4).trans rfl) ?_) | ((with_reducible refine gate_dst (N := 44) rfl ?_); (try (refine gate_guard (by rfl) ?_; dsimp only)); refine ldb_event rfl rfl (by first | rfl | (go_simp; done) | (go_simp; rfl)) Try.underlying23 ⟨_, rfl⟩ BK1.out 3 size23 [.int .i64 x.f5.f0, .int .i64 x.f5.f1, .int .i64 x.f5.f2] rfl rfl ?_) | ((with_reducible refine gate_dst (N := 46) rfl ?_); (try (refine gate_guard (by rfl) ?_; dsimp only)); refine ldb_event rfl rfl (by first | rfl | (go_simp; done) | (go_simp; rfl)) Try.underlying23 ⟨_, rfl⟩ BK2.out 3 size23 [.int .i64 y.f5.f0, .int .i64 y.f5.f1, .int .i64 y.f5.f2] rfl rfl ?_) | ((with_reducible refine gate_dst (N := 51) rfl ?_); (try (refine gate_guard (by rfl) ?_; dsimp only)); refine ldb_event rfl rfl (by first | rfl | (go_simp; done) | (go_simp; rfl)) Try.underlying30 ⟨_, rfl⟩ BK1.out 13 size30 [.int .i64 x.f6.f0, .int .i64 x.f6.f1, .int .i64 x.f6.f2, .int .i64 x.f6.f3, .int .i64 x.f6.f4.f0, .int .i64 x.f6.f4.f1, .int .i64 x.f6.f4.f2, .int .i64 x.f6.f5.f0, .int .i64 x.f6.f5.f1, .int .i64 x.f6.f5.f2, .int .i64 x.f6.f6.f0, .int .i64 x.f6.f6.f1, .int .i64 x.f6.f7] rfl rfl ?_) | ((with_reducible refine gate_dst (N := 53) rfl ?_); (try (refine gate_guard (by rfl) ?_; dsimp only)); refine ldb_event rfl rfl (by first | rfl | (go_simp; done) | (go_simp; rfl)) Try.underlying30 ⟨_, rfl⟩ BK2.out 13 size30 [.int .i64 y.f6.f0, .int .i64 y.f6.f1, .int .i64 y.f6.f2, .int .i64 y.f6.f3, .int .i64 y.f6.f4.f0, .int .i64 y.f6.f4.f1, .int .i64 y.f6.f4.f2, .int .i64 y.f6.f5.f0, .int .i64 y.f6.f5.f1, .int .i64 y.f6.f5.f2, .int .i64 y.f6.f6.f0, .int .i64 y.f6.f6.f1, .int .i64 y.f6.f7] rfl rfl ?_) | ((with_reducible refine gate_dst (N := 57) rfl ?_); (try (refine gate_guard (by rfl) ?_; dsimp only)); refine ld_event rfl rfl (by first | rfl | (go_simp; done) | (go_simp; rfl)) Try.underlying31 trivial (.slice A7 x.f7.length A7c) ((blk_cell BK1.out 21).trans rfl) ?_) | ((with_reducible refine gate_dst (N := 60) rfl ?_); (try (refine gate_guard (by rfl) ?_; dsimp only)); refine ld_event rfl rfl (by first | rfl | (go_simp; done) | (go_simp; rfl)) Try.underlying31 trivial (.slice B7 y.f7.length B7c) ((blk_cell BK2.out 21).trans rfl) ?_) | ((with_reducible refine gate_dst (N := 65) rfl ?_); (try (refine gate_guard (by rfl) ?_; dsimp only)); refine ld_event rfl rfl (by first | rfl | (go_simp; done) | (go_simp; rfl)) Try.underlying32 trivial (.slice A8 x.f8.length A8c) ((blk_cell BK1.out 22).trans rfl) ?_) | ((with_reducible refine gate_dst (N := 68) rfl ?_); (try (refine gate_guard (by rfl) ?_; dsimp only)); refine ld_event rfl rfl (by first | rfl | (go_simp; done) | (go_simp; rfl)) Try.underlying32 trivial (.slice B8 y.f8.length B8c) ((blk_cell BK2.out 22).trans rfl) ?_))
    go_ret
    exact ⟨by rw [hsm]; rfl, HB.out⟩
end Go.Proofs.Ytkfbkjcdngipcaa.PTreeEquals
