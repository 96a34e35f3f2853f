import Derived.Test.YtkfbkjcdngipcaaCpy3
namespace Go.Proofs.Ytkfbkjcdngipcaa.PTreeEquals
open Go.RowKit Go.Proofs.YtkfbkjcdngipcaaW.PrintWords Go.Proofs.YtkfbkjcdngipcaaW.PrintLast Go.Proofs.YtkfbkjcdngipcaaW.PrintMore
attribute [local go_sem] nil24 nil25 nil26 nil31 nil32 nnil24 nnil25 nnil26 nnil31 nnil32 max2_int min2_int max_two min_two max_three min_three max_four min_four
set_option linter.unusedVariables false
set_option linter.unusedSimpArgs false
theorem info56 : (Try.prog.info? 56).map (fun i => (i.zero, i.size, i.bytes)) = some (some (.agg #[.string ⟨#[]⟩, .slice none 0 0, .int .i64 0, .int .i64 0, .string ⟨#[]⟩, .slice none 0 0, .slice none 0 0]), 7, 120) := by kernel_rfl
theorem size25 : (Try.prog.info? 25).map (fun i => i.size) = some 1 := by kernel_rfl
theorem size26 : (Try.prog.info? 26).map (fun i => i.size) = some 1 := by kernel_rfl
theorem size36 : (Try.prog.info? 36).map (fun i => i.size) = some 30 := by kernel_rfl
theorem take_next56 {l : List S56} {i : Int} (h0 : 0 ≤ i) (h1 : i < l.length) : l.take i.toNat ++ [rd_T56 l i] = l.take (i + 1).toNat := by
  have h : (i + 1).toNat = i.toNat + 1 := by omega
  have hl : i.toNat < l.length := by omega
  rw [h, List.take_add_one, List.getElem?_eq_getElem hl]
  simp [rd_T56, hl]
theorem rd_mem56 {l : List S56} {i : Int} (h0 : 0 ≤ i) (h1 : i < l.length) : rd_T56 l i ∈ l := by
  unfold rd_T56
  rw [List.getD_eq_getElem?_getD, List.getElem?_eq_getElem (show i.toNat < l.length by omega)]
  exact List.getElem_mem _
set_option maxHeartbeats 16000000 in
set_option maxRecDepth 100000 in
theorem deal.calls (d0 : ByteArray) (d1 d2 d3 : Int) (a0 : Int) (a1 a2 a3 : ByteArray) (a4 a5 a6 a7 a8 a9 a10 a11 a12 a13 a14 a15 a16 a17 a18 a19 a20 : Int) (l4 : List S23) (l5 : List ByteArray) (l6 : List S56) (l7 : List S54) (l8 : List S34) (A4 : Option Addr) (c4 : Nat) (A5 : Option Addr) (c5 : Nat) (A6 : Option Addr) (c6 : Nat) (A7 : Option Addr) (c7 : Nat) (A8 : Option Addr) (c8 : Nat) (w : World) (hr4 : Kd.C k23 w A4 l4.length l4) (hc4 : l4.length ≤ c4) (hl4 : l4.length * 24 ≤ 140737488351232) (hr5 : Kd.C Kd.string w A5 l5.length l5) (hc5 : l5.length ≤ c5) (hl5 : l5.length * 16 ≤ 140737488351232) (hr6 : Kd.C k56 w A6 l6.length l6) (hc6 : l6.length ≤ c6) (hl6 : l6.length * 120 ≤ 140737488351232) (hs : ∀ x ∈ l6, x.f1.length * 16 ≤ 140737488351232 ∧ ExprsOK x.f2.f4 ∧ x.f2.f3.length * 24 ≤ 140737488351232) (hk : ConOK l7 l8) (hr7 : Kd.C k54 w A7 l7.length l7) (hc7 : l7.length ≤ c7) (hr8 : Kd.C k34 w A8 l8.length l8) (hc8 : l8.length ≤ c8) :
    Calls Try.prog 6 #[.agg #[.string d0, .int .i64 d1, .int .i64 d2, .int .i64 d3, .slice A4 l4.length c4, .slice A5 l5.length c5, .slice A6 l6.length c6, .int .i64 a0, .string a1, .string a2, .string a3, .int .i64 a4, .int .i64 a5, .int .i64 a6, .int .i64 a7, .int .i64 a8, .int .i64 a9, .int .i64 a10, .int .i64 a11, .int .i64 a12, .int .i64 a13, .int .i64 a14, .int .i64 a15, .int .i64 a16, .int .i64 a17, .int .i64 a18, .int .i64 a19, .int .i64 a20, .slice A7 l7.length c7, .slice A8 l8.length c8]] w fun e w' => ∃ v4 v5 v6 v7 v8, e = .returned (.agg #[.string d0, .int .i64 d1, .int .i64 d2, .int .i64 d3, v4, v5, v6, .int .i64 a0, .string a1, .string a2, .string a3, .int .i64 a4, .int .i64 a5, .int .i64 a6, .int .i64 a7, .int .i64 a8, .int .i64 a9, .int .i64 a10, .int .i64 a11, .int .i64 a12, .int .i64 a13, .int .i64 a14, .int .i64 a15, .int .i64 a16, .int .i64 a17, .int .i64 a18, .int .i64 a19, .int .i64 a20, v7, v8]) ∧ Kd.Fr (Kd.sliceB 23 k23 b23) w.heap.size w' l4 [v4] ∧ Kd.Fr (Kd.sliceB 9 Kd.string b9) w.heap.size w' l5 [v5] ∧ Kd.Fr (Kd.sliceB 56 k56B b56) w.heap.size w' l6 [v6] ∧ Kd.Fr (Kd.sliceB 54 k54B b54) w.heap.size w' l7 [v7] ∧ Kd.Fr (Kd.sliceB 34 k34B b34) w.heap.size w' l8 [v8] ∧ Below w.heap.size w w' := by
  have hu54 := Try.underlying54
  have hu34 := Try.underlying34
  have hu56 := Try.underlying56
  have hu36 := Try.underlying36
  have hu26 := Try.underlying26
  have HR4 := Aside0.mk hr4; have HC4 := Aside0.mk hc4; have HL4 := Aside0.mk hl4
  have HR5 := Aside0.mk hr5; have HC5 := Aside0.mk hc5; have HL5 := Aside0.mk hl5
  have HR6 := Aside0.mk hr6; have HL6 := Aside0.mk hl6; have HS := Aside0.mk hs
  have HR7 := Aside0.mk hr7; have HC7 := Aside0.mk hc7
  have HR8 := Aside0.mk hr8; have HC8 := Aside0.mk hc8
  have hn : l6.length < 4611686018427387904 := by omega
  have HB := Aside0.mk (Below.refl w.heap.size w)
  cases A6 with
  | none =>
    have h0 : l6 = [] := by
      rcases Nat.eq_zero_or_pos l6.length with h | h
      · exact List.eq_nil_of_length_eq_zero h
      · obtain ⟨ad, he, _⟩ := hr6.2.2 h
        cases he
    clear hr4 hc4 hl4 hr5 hc5 hl5 hr6 hc6 hl6 hs hr7 hc7 hr8 hc8
    subst h0
    go_enter Try.func6, Try.ntmps6
    go_upto_region 2 with (first | ((with_reducible refine gate_dst (N := 1) rfl ?_); (try (refine gate_guard (by rfl) ?_; dsimp only)); refine box_event ?hg (N := 1) ?hd (cs := #[.string d0, .int .i64 d1, .int .i64 d2, .int .i64 d3, .slice A4 l4.length c4, .slice A5 l5.length c5, .slice none ([] : List S56).length c6, .int .i64 a0, .string a1, .string a2, .string a3, .int .i64 a4, .int .i64 a5, .int .i64 a6, .int .i64 a7, .int .i64 a8, .int .i64 a9, .int .i64 a10, .int .i64 a11, .int .i64 a12, .int .i64 a13, .int .i64 a14, .int .i64 a15, .int .i64 a16, .int .i64 a17, .int .i64 a18, .int .i64 a19, .int .i64 a20, .slice A7 l7.length c7, .slice A8 l8.length c8]) (t := 36) ?hr ?_; (case hd => rfl); (case hg => rfl); (case hr => first | (go_simp; done) | (go_simp; rfl)); intro g1 hg wv1_ hbox hb; have n0_ := Aside0.mk (below_step HB.out hb); have n1_ := Aside0.mk (hbox); have n2_ := Aside0.mk ((show w.heap.size ≤ g1 by rw [hg]; exact below_size HB.out)); clear HB; have HB := n0_; have BK1 := n1_; have ORD := n2_; clear n0_ n1_ n2_; clear hb hbox hg) | ((with_reducible refine gate_dst (N := 2) rfl ?_); (try (refine gate_guard (by rfl) ?_; dsimp only)); refine box_event ?hg (N := 2) ?hd (cs := #[.string ⟨#[]⟩, .int .i64 0, .int .i64 0, .int .i64 0, .slice none 0 0, .slice none 0 0, .slice none 0 0, .int .i64 0, .string ⟨#[]⟩, .string ⟨#[]⟩, .string ⟨#[]⟩, .int .i64 0, .int .i64 0, .int .i64 0, .int .i64 0, .int .i64 0, .int .i64 0, .int .i64 0, .int .i64 0, .int .i64 0, .int .i64 0, .int .i64 0, .int .i64 0, .int .i64 0, .int .i64 0, .int .i64 0, .int .i64 0, .int .i64 0, .slice none 0 0, .slice none 0 0]) (t := 36) ?hr ?_; (case hd => rfl); (case hg => rfl); (case hr => first | (go_simp; done) | (go_simp; rfl)); intro g2 hg wv2_ hbox hb; have n0_ := Aside0.mk (below_step HB.out hb); have n1_ := Aside0.mk (blk_below BK1.out hb); have n2_ := Aside0.mk (hbox); have n3_ := Aside0.mk (And.intro ORD.out (show g1 < g2 by rw [hg]; exact blk_lt BK1.out)); clear HB BK1 ORD; have HB := n0_; have BK1 := n1_; have BK2 := n2_; have ORD := n3_; clear n0_ n1_ n2_ n3_; clear hb hbox hg) | ((with_reducible refine gate_dst (N := 5) rfl ?_); (try (refine gate_guard (by rfl) ?_; dsimp only)); refine ldb_event rfl rfl (by first | rfl | (go_simp; done) | (go_simp; rfl)) Try.underlying36 ⟨_, rfl⟩ BK1.out 30 size36 [.string d0, .int .i64 d1, .int .i64 d2, .int .i64 d3, .slice A4 l4.length c4, .slice A5 l5.length c5, .slice none ([] : List S56).length c6, .int .i64 a0, .string a1, .string a2, .string a3, .int .i64 a4, .int .i64 a5, .int .i64 a6, .int .i64 a7, .int .i64 a8, .int .i64 a9, .int .i64 a10, .int .i64 a11, .int .i64 a12, .int .i64 a13, .int .i64 a14, .int .i64 a15, .int .i64 a16, .int .i64 a17, .int .i64 a18, .int .i64 a19, .int .i64 a20, .slice A7 l7.length c7, .slice A8 l8.length c8] rfl rfl ?_) | ((with_reducible refine gate_dst (N := 3) rfl ?_); (try (refine gate_guard (by rfl) ?_; dsimp only)); refine box_event ?hg (N := 3) ?hd (cs := #[.string ⟨#[]⟩, .int .i64 0, .int .i64 0, .int .i64 0, .slice none 0 0, .slice none 0 0, .slice none 0 0, .int .i64 0, .string ⟨#[]⟩, .string ⟨#[]⟩, .string ⟨#[]⟩, .int .i64 0, .int .i64 0, .int .i64 0, .int .i64 0, .int .i64 0, .int .i64 0, .int .i64 0, .int .i64 0, .int .i64 0, .int .i64 0, .int .i64 0, .int .i64 0, .int .i64 0, .int .i64 0, .int .i64 0, .int .i64 0, .int .i64 0, .slice none 0 0, .slice none 0 0]) (t := 36) ?hr ?_; (case hd => rfl); (case hg => rfl); (case hr => first | (go_simp; done) | (go_simp; rfl)); intro g3 hg wv3_ hbox hb; have n0_ := Aside0.mk (below_step HB.out hb); have n1_ := Aside0.mk (blk_below BK1.out hb); have n2_ := Aside0.mk (blk_below BK2.out hb); have n3_ := Aside0.mk (hbox); have n4_ := Aside0.mk (And.intro ORD.out (show g2 < g3 by rw [hg]; exact blk_lt BK2.out)); clear HB BK1 BK2 ORD; have HB := n0_; have BK1 := n1_; have BK2 := n2_; have BK3 := n3_; have ORD := n4_; clear n0_ n1_ n2_ n3_ n4_; clear hb hbox hg) | ((with_reducible refine gate_store (t := 36) (p := 3) rfl ?_); refine st_event rfl rfl rfl (g := g3) (j := 0) (by first | rfl | (go_simp; done) | (go_simp; rfl)) (u := .agg #[.string d0, .int .i64 d1, .int .i64 d2, .int .i64 d3, .slice A4 l4.length c4, .slice A5 l5.length c5, .slice none ([] : List S56).length c6, .int .i64 a0, .string a1, .string a2, .string a3, .int .i64 a4, .int .i64 a5, .int .i64 a6, .int .i64 a7, .int .i64 a8, .int .i64 a9, .int .i64 a10, .int .i64 a11, .int .i64 a12, .int .i64 a13, .int .i64 a14, .int .i64 a15, .int .i64 a16, .int .i64 a17, .int .i64 a18, .int .i64 a19, .int .i64 a20, .slice A7 l7.length c7, .slice A8 l8.length c8]) (by first | rfl | (go_simp; done) | (go_simp; rfl)) BK3.out 30 size36 rfl (by simp) (by intro x hx; simp [Value.cells] at hx; rcases hx with rfl | rfl | rfl | rfl | rfl | rfl | rfl | rfl | rfl | rfl | rfl | rfl | rfl | rfl | rfl | rfl | rfl | rfl | rfl | rfl | rfl | rfl | rfl | rfl | rfl | rfl | rfl | rfl | rfl | rfl <;> rfl) #[.string d0, .int .i64 d1, .int .i64 d2, .int .i64 d3, .slice A4 l4.length c4, .slice A5 l5.length c5, .slice none ([] : List S56).length c6, .int .i64 a0, .string a1, .string a2, .string a3, .int .i64 a4, .int .i64 a5, .int .i64 a6, .int .i64 a7, .int .i64 a8, .int .i64 a9, .int .i64 a10, .int .i64 a11, .int .i64 a12, .int .i64 a13, .int .i64 a14, .int .i64 a15, .int .i64 a16, .int .i64 a17, .int .i64 a18, .int .i64 a19, .int .i64 a20, .slice A7 l7.length c7, .slice A8 l8.length c8] rfl ?_; intro wv4_ hbk ho; have n0_ := Aside0.mk (Other.below ho HB.out (by have := ORD.out; omega)); have n1_ := Aside0.mk (Other.blk ho BK1.out (by have := ORD.out; omega)); have n2_ := Aside0.mk (Other.blk ho BK2.out (by have := ORD.out; omega)); have n3_ := Aside0.mk (hbk); clear HB BK1 BK2 BK3; have HB := n0_; have BK1 := n1_; have BK2 := n2_; have BK3 := n3_; clear n0_ n1_ n2_ n3_; clear hbk ho))
    go_upto_region 3 with (first | ((with_reducible refine gate_dst (N := 7) rfl ?_); (try (refine gate_guard (by rfl) ?_; dsimp only)); refine ld_event rfl rfl (by first | rfl | (go_simp; done) | (go_simp; rfl)) Try.underlying24 trivial (.slice A4 l4.length c4) ((blk_cell BK1.out 4).trans rfl) ?_) | ((with_reducible refine gate_callee (f := 18) rfl ?_); (try (refine gate_guard (by rfl) ?_; dsimp only)); refine goesL_ (some 8) rfl rfl Try.func18 (by kernel_rfl) rfl #[.slice A4 l4.length c4] rfl (by (try simp only [List.map_toArray, List.map_cons, List.map_nil]); first | done | rfl) ?_; (with_reducible refine (dates.calls A4 c4 l4 _ (Kd.C_below HR4.out HB.out) HC4.out HL4.out).mono ?_); rintro e wv5_ ⟨v4, rfl, hF, hb⟩; obtain ⟨B4, e4, rfl, _, _, _⟩ := Kd.sB_read (Kd.Fr.K hF); refine ⟨_, rfl, ?_⟩; have n0_ := Aside0.mk (below_step HB.out hb); have n1_ := Aside0.mk (blk_below BK1.out hb); have n2_ := Aside0.mk (blk_below BK2.out hb); have n3_ := Aside0.mk (blk_below BK3.out hb); have n4_ := Aside0.mk (Kd.Fr.lower (b' := g3 + 1) hF (blk_lt BK3.out)); clear HB BK1 BK2 BK3; have HB := n0_; have BK1 := n1_; have BK2 := n2_; have BK3 := n3_; have FR4 := n4_; clear n0_ n1_ n2_ n3_ n4_; clear hb hF) | ((with_reducible refine gate_store (t := 24) (p := 9) rfl ?_); refine st_event rfl rfl rfl (g := g3) (j := 4) (by first | rfl | (go_simp; done) | (go_simp; rfl)) (u := .slice B4 l4.length e4) (by first | rfl | (go_simp; done) | (go_simp; rfl)) BK3.out 1 size24 rfl (by simp) (by intro x hx; simp [Value.cells] at hx; rcases hx with rfl <;> rfl) #[.string d0, .int .i64 d1, .int .i64 d2, .int .i64 d3, .slice B4 l4.length e4, .slice A5 l5.length c5, .slice none ([] : List S56).length c6, .int .i64 a0, .string a1, .string a2, .string a3, .int .i64 a4, .int .i64 a5, .int .i64 a6, .int .i64 a7, .int .i64 a8, .int .i64 a9, .int .i64 a10, .int .i64 a11, .int .i64 a12, .int .i64 a13, .int .i64 a14, .int .i64 a15, .int .i64 a16, .int .i64 a17, .int .i64 a18, .int .i64 a19, .int .i64 a20, .slice A7 l7.length c7, .slice A8 l8.length c8] rfl ?_; intro wv6_ hbk ho; have n0_ := Aside0.mk (Other.below ho HB.out (by have := ORD.out; omega)); have n1_ := Aside0.mk (Other.blk ho BK1.out (by have := ORD.out; omega)); have n2_ := Aside0.mk (Other.blk ho BK2.out (by have := ORD.out; omega)); have n3_ := Aside0.mk (hbk); have n4_ := Aside0.mk (Kd.Fr.other FR4.out ho (by have := ORD.out; omega)); clear HB BK1 BK2 BK3 FR4; have HB := n0_; have BK1 := n1_; have BK2 := n2_; have BK3 := n3_; have FR4 := n4_; clear n0_ n1_ n2_ n3_ n4_; clear hbk ho))
    go_upto_region 4 with (first | ((with_reducible refine gate_dst (N := 11) rfl ?_); (try (refine gate_guard (by rfl) ?_; dsimp only)); refine ld_event rfl rfl (by first | rfl | (go_simp; done) | (go_simp; rfl)) Try.underlying25 trivial (.slice A5 l5.length c5) ((blk_cell BK1.out 5).trans rfl) ?_) | ((with_reducible refine gate_callee (f := 19) rfl ?_); (try (refine gate_guard (by rfl) ?_; dsimp only)); refine goesL_ (some 12) rfl rfl Try.func19 (by kernel_rfl) rfl #[.slice A5 l5.length c5] rfl (by (try simp only [List.map_toArray, List.map_cons, List.map_nil]); first | done | rfl) ?_; (with_reducible refine (names.calls A5 c5 l5 _ (Kd.C_below HR5.out HB.out) HC5.out HL5.out).mono ?_); rintro e wv7_ ⟨v5, rfl, hF, hb⟩; obtain ⟨B5, e5, rfl, _, _, _⟩ := Kd.sB_read (Kd.Fr.K hF); refine ⟨_, rfl, ?_⟩; have n0_ := Aside0.mk (below_step HB.out hb); have n1_ := Aside0.mk (blk_below BK1.out hb); have n2_ := Aside0.mk (blk_below BK2.out hb); have n3_ := Aside0.mk (blk_below BK3.out hb); have n4_ := Aside0.mk (Kd.Fr.below FR4.out hb); have n5_ := Aside0.mk (Kd.Fr.lower (b' := g3 + 1) hF (blk_lt BK3.out)); clear HB BK1 BK2 BK3 FR4; have HB := n0_; have BK1 := n1_; have BK2 := n2_; have BK3 := n3_; have FR4 := n4_; have FR5 := n5_; clear n0_ n1_ n2_ n3_ n4_ n5_; clear hb hF) | ((with_reducible refine gate_store (t := 25) (p := 13) rfl ?_); refine st_event rfl rfl rfl (g := g3) (j := 5) (by first | rfl | (go_simp; done) | (go_simp; rfl)) (u := .slice B5 l5.length e5) (by first | rfl | (go_simp; done) | (go_simp; rfl)) BK3.out 1 size25 rfl (by simp) (by intro x hx; simp [Value.cells] at hx; rcases hx with rfl <;> rfl) #[.string d0, .int .i64 d1, .int .i64 d2, .int .i64 d3, .slice B4 l4.length e4, .slice B5 l5.length e5, .slice none ([] : List S56).length c6, .int .i64 a0, .string a1, .string a2, .string a3, .int .i64 a4, .int .i64 a5, .int .i64 a6, .int .i64 a7, .int .i64 a8, .int .i64 a9, .int .i64 a10, .int .i64 a11, .int .i64 a12, .int .i64 a13, .int .i64 a14, .int .i64 a15, .int .i64 a16, .int .i64 a17, .int .i64 a18, .int .i64 a19, .int .i64 a20, .slice A7 l7.length c7, .slice A8 l8.length c8] rfl ?_; intro wv8_ hbk ho; have n0_ := Aside0.mk (Other.below ho HB.out (by have := ORD.out; omega)); have n1_ := Aside0.mk (Other.blk ho BK1.out (by have := ORD.out; omega)); have n2_ := Aside0.mk (Other.blk ho BK2.out (by have := ORD.out; omega)); have n3_ := Aside0.mk (hbk); have n4_ := Aside0.mk (Kd.Fr.other FR4.out ho (by have := ORD.out; omega)); have n5_ := Aside0.mk (Kd.Fr.other FR5.out ho (by have := ORD.out; omega)); clear HB BK1 BK2 BK3 FR4 FR5; have HB := n0_; have BK1 := n1_; have BK2 := n2_; have BK3 := n3_; have FR4 := n4_; have FR5 := n5_; clear n0_ n1_ n2_ n3_ n4_ n5_; clear hbk ho))
    go_upto_region 5 with (first | ((with_reducible refine gate_dst (N := 15) rfl ?_); (try (refine gate_guard (by rfl) ?_; dsimp only)); refine ldb_event rfl rfl (by first | rfl | (go_simp; done) | (go_simp; rfl)) Try.underlying34 ⟨_, rfl⟩ BK1.out 23 size34 [.int .i64 a0, .string a1, .string a2, .string a3, .int .i64 a4, .int .i64 a5, .int .i64 a6, .int .i64 a7, .int .i64 a8, .int .i64 a9, .int .i64 a10, .int .i64 a11, .int .i64 a12, .int .i64 a13, .int .i64 a14, .int .i64 a15, .int .i64 a16, .int .i64 a17, .int .i64 a18, .int .i64 a19, .int .i64 a20, .slice A7 l7.length c7, .slice A8 l8.length c8] rfl rfl ?_) | ((with_reducible refine gate_callee (f := 20) rfl ?_); (try (refine gate_guard (by rfl) ?_; dsimp only)); refine goesL_ (some 16) rfl rfl Try.func20 (by kernel_rfl) rfl #[.agg #[.int .i64 a0, .string a1, .string a2, .string a3, .int .i64 a4, .int .i64 a5, .int .i64 a6, .int .i64 a7, .int .i64 a8, .int .i64 a9, .int .i64 a10, .int .i64 a11, .int .i64 a12, .int .i64 a13, .int .i64 a14, .int .i64 a15, .int .i64 a16, .int .i64 a17, .int .i64 a18, .int .i64 a19, .int .i64 a20, .slice A7 l7.length c7, .slice A8 l8.length c8]] rfl (by (try simp only [List.map_toArray, List.map_cons, List.map_nil]); first | done | rfl) ?_; (with_reducible refine (ConOK.calls hk _ _ _ _ _ _ _ _ _ _ _ _ _ _ _ _ _ _ _ _ _ A7 c7 A8 c8 _ (Kd.C_below HR7.out HB.out) HC7.out (Kd.C_below HR8.out HB.out) HC8.out).mono ?_); rintro e wv9_ ⟨v7, v8, rfl, hF, hF2, hb⟩; obtain ⟨B7, e7, rfl, _, _, _⟩ := Kd.sB_read (Kd.Fr.K hF); obtain ⟨B8, e8, rfl, _, _, _⟩ := Kd.sB_read (Kd.Fr.K hF2); refine ⟨_, rfl, ?_⟩; have n0_ := Aside0.mk (below_step HB.out hb); have n1_ := Aside0.mk (blk_below BK1.out hb); have n2_ := Aside0.mk (blk_below BK2.out hb); have n3_ := Aside0.mk (blk_below BK3.out hb); have n4_ := Aside0.mk (Kd.Fr.below FR4.out hb); have n5_ := Aside0.mk (Kd.Fr.below FR5.out hb); have n6_ := Aside0.mk (Kd.Fr.lower (b' := g3 + 1) hF (blk_lt BK3.out)); have n7_ := Aside0.mk (Kd.Fr.lower (b' := g3 + 1) hF2 (blk_lt BK3.out)); clear HB BK1 BK2 BK3 FR4 FR5; have HB := n0_; have BK1 := n1_; have BK2 := n2_; have BK3 := n3_; have FR4 := n4_; have FR5 := n5_; have FR7 := n6_; have FR8 := n7_; clear n0_ n1_ n2_ n3_ n4_ n5_ n6_ n7_; clear hb hF hF2) | ((with_reducible refine gate_store (t := 34) (p := 17) rfl ?_); refine st_event rfl rfl rfl (g := g3) (j := 7) (by first | rfl | (go_simp; done) | (go_simp; rfl)) (u := .agg #[.int .i64 a0, .string a1, .string a2, .string a3, .int .i64 a4, .int .i64 a5, .int .i64 a6, .int .i64 a7, .int .i64 a8, .int .i64 a9, .int .i64 a10, .int .i64 a11, .int .i64 a12, .int .i64 a13, .int .i64 a14, .int .i64 a15, .int .i64 a16, .int .i64 a17, .int .i64 a18, .int .i64 a19, .int .i64 a20, .slice B7 l7.length e7, .slice B8 l8.length e8]) (by first | rfl | (go_simp; done) | (go_simp; rfl)) BK3.out 23 size34 rfl (by simp) (by intro x hx; simp [Value.cells] at hx; rcases hx with rfl | rfl | rfl | rfl | rfl | rfl | rfl | rfl | rfl | rfl | rfl | rfl | rfl | rfl | rfl | rfl | rfl | rfl | rfl | rfl | rfl | rfl | rfl <;> rfl) #[.string d0, .int .i64 d1, .int .i64 d2, .int .i64 d3, .slice B4 l4.length e4, .slice B5 l5.length e5, .slice none ([] : List S56).length c6, .int .i64 a0, .string a1, .string a2, .string a3, .int .i64 a4, .int .i64 a5, .int .i64 a6, .int .i64 a7, .int .i64 a8, .int .i64 a9, .int .i64 a10, .int .i64 a11, .int .i64 a12, .int .i64 a13, .int .i64 a14, .int .i64 a15, .int .i64 a16, .int .i64 a17, .int .i64 a18, .int .i64 a19, .int .i64 a20, .slice B7 l7.length e7, .slice B8 l8.length e8] rfl ?_; intro wv10_ hbk ho; have n0_ := Aside0.mk (Other.below ho HB.out (by have := ORD.out; omega)); have n1_ := Aside0.mk (Other.blk ho BK1.out (by have := ORD.out; omega)); have n2_ := Aside0.mk (Other.blk ho BK2.out (by have := ORD.out; omega)); have n3_ := Aside0.mk (hbk); have n4_ := Aside0.mk (Kd.Fr.other FR4.out ho (by have := ORD.out; omega)); have n5_ := Aside0.mk (Kd.Fr.other FR5.out ho (by have := ORD.out; omega)); have n6_ := Aside0.mk (Kd.Fr.other FR7.out ho (by have := ORD.out; omega)); have n7_ := Aside0.mk (Kd.Fr.other FR8.out ho (by have := ORD.out; omega)); clear HB BK1 BK2 BK3 FR4 FR5 FR7 FR8; have HB := n0_; have BK1 := n1_; have BK2 := n2_; have BK3 := n3_; have FR4 := n4_; have FR5 := n5_; have FR7 := n6_; have FR8 := n7_; clear n0_ n1_ n2_ n3_ n4_ n5_ n6_ n7_; clear hbk ho))
    go_upto_region 6 with (first | ((with_reducible refine gate_store (t := 26) (p := 18) rfl ?_); refine st_event rfl rfl rfl (g := g3) (j := 6) (by first | rfl | (go_simp; done) | (go_simp; rfl)) (u := .slice none 0 0) (by first | rfl | (go_simp; done) | (go_simp; rfl)) BK3.out 1 size26 rfl (by simp) (by intro x hx; simp [Value.cells] at hx; rcases hx with rfl <;> rfl) #[.string d0, .int .i64 d1, .int .i64 d2, .int .i64 d3, .slice B4 l4.length e4, .slice B5 l5.length e5, .slice none 0 0, .int .i64 a0, .string a1, .string a2, .string a3, .int .i64 a4, .int .i64 a5, .int .i64 a6, .int .i64 a7, .int .i64 a8, .int .i64 a9, .int .i64 a10, .int .i64 a11, .int .i64 a12, .int .i64 a13, .int .i64 a14, .int .i64 a15, .int .i64 a16, .int .i64 a17, .int .i64 a18, .int .i64 a19, .int .i64 a20, .slice B7 l7.length e7, .slice B8 l8.length e8] rfl ?_; intro wv11_ hbk ho; have n0_ := Aside0.mk (Other.below ho HB.out (by have := ORD.out; omega)); have n1_ := Aside0.mk (Other.blk ho BK1.out (by have := ORD.out; omega)); have n2_ := Aside0.mk (Other.blk ho BK2.out (by have := ORD.out; omega)); have n3_ := Aside0.mk (hbk); have n4_ := Aside0.mk (Kd.Fr.other FR4.out ho (by have := ORD.out; omega)); have n5_ := Aside0.mk (Kd.Fr.other FR5.out ho (by have := ORD.out; omega)); have n6_ := Aside0.mk (Kd.Fr.other FR7.out ho (by have := ORD.out; omega)); have n7_ := Aside0.mk (Kd.Fr.other FR8.out ho (by have := ORD.out; omega)); clear HB BK1 BK2 BK3 FR4 FR5 FR7 FR8; have HB := n0_; have BK1 := n1_; have BK2 := n2_; have BK3 := n3_; have FR4 := n4_; have FR5 := n5_; have FR7 := n6_; have FR8 := n7_; clear n0_ n1_ n2_ n3_ n4_ n5_ n6_ n7_; clear hbk ho))
    go_wp2_with (first | ((with_reducible refine gate_dst (N := 20) rfl ?_); (try (refine gate_guard (by rfl) ?_; dsimp only)); refine ld_event rfl rfl (by first | rfl | (go_simp; done) | (go_simp; rfl)) Try.underlying26 trivial (.slice none ([] : List S56).length c6) ((blk_cell BK1.out 6).trans rfl) ?_) | ((with_reducible refine gate_dst (N := 74) rfl ?_); (try (refine gate_guard (by rfl) ?_; dsimp only)); refine ldb_event rfl rfl (by first | rfl | (go_simp; done) | (go_simp; rfl)) Try.underlying36 ⟨_, rfl⟩ BK3.out 30 size36 [.string d0, .int .i64 d1, .int .i64 d2, .int .i64 d3, .slice B4 l4.length e4, .slice B5 l5.length e5, .slice none 0 0, .int .i64 a0, .string a1, .string a2, .string a3, .int .i64 a4, .int .i64 a5, .int .i64 a6, .int .i64 a7, .int .i64 a8, .int .i64 a9, .int .i64 a10, .int .i64 a11, .int .i64 a12, .int .i64 a13, .int .i64 a14, .int .i64 a15, .int .i64 a16, .int .i64 a17, .int .i64 a18, .int .i64 a19, .int .i64 a20, .slice B7 l7.length e7, .slice B8 l8.length e8] rfl rfl ?_) | ((with_reducible refine gate_store (t := 36) (p := 2) rfl ?_); refine st_event rfl rfl rfl (g := g2) (j := 0) (by first | rfl | (go_simp; done) | (go_simp; rfl)) (u := .agg #[.string d0, .int .i64 d1, .int .i64 d2, .int .i64 d3, .slice B4 l4.length e4, .slice B5 l5.length e5, .slice none 0 0, .int .i64 a0, .string a1, .string a2, .string a3, .int .i64 a4, .int .i64 a5, .int .i64 a6, .int .i64 a7, .int .i64 a8, .int .i64 a9, .int .i64 a10, .int .i64 a11, .int .i64 a12, .int .i64 a13, .int .i64 a14, .int .i64 a15, .int .i64 a16, .int .i64 a17, .int .i64 a18, .int .i64 a19, .int .i64 a20, .slice B7 l7.length e7, .slice B8 l8.length e8]) (by first | rfl | (go_simp; done) | (go_simp; rfl)) BK2.out 30 size36 rfl (by simp) (by intro x hx; simp [Value.cells] at hx; rcases hx with rfl | rfl | rfl | rfl | rfl | rfl | rfl | rfl | rfl | rfl | rfl | rfl | rfl | rfl | rfl | rfl | rfl | rfl | rfl | rfl | rfl | rfl | rfl | rfl | rfl | rfl | rfl | rfl | rfl | rfl <;> rfl) #[.string d0, .int .i64 d1, .int .i64 d2, .int .i64 d3, .slice B4 l4.length e4, .slice B5 l5.length e5, .slice none 0 0, .int .i64 a0, .string a1, .string a2, .string a3, .int .i64 a4, .int .i64 a5, .int .i64 a6, .int .i64 a7, .int .i64 a8, .int .i64 a9, .int .i64 a10, .int .i64 a11, .int .i64 a12, .int .i64 a13, .int .i64 a14, .int .i64 a15, .int .i64 a16, .int .i64 a17, .int .i64 a18, .int .i64 a19, .int .i64 a20, .slice B7 l7.length e7, .slice B8 l8.length e8] rfl ?_; intro wv12_ hbk ho; have n0_ := Aside0.mk (Other.below ho HB.out (by have := ORD.out; omega)); have n1_ := Aside0.mk (Other.blk ho BK1.out (by have := ORD.out; omega)); have n2_ := Aside0.mk (hbk); have n3_ := Aside0.mk (Other.blk ho BK3.out (by have := ORD.out; omega)); have n4_ := Aside0.mk (Kd.Fr.other FR4.out ho (by have := ORD.out; omega)); have n5_ := Aside0.mk (Kd.Fr.other FR5.out ho (by have := ORD.out; omega)); have n6_ := Aside0.mk (Kd.Fr.other FR7.out ho (by have := ORD.out; omega)); have n7_ := Aside0.mk (Kd.Fr.other FR8.out ho (by have := ORD.out; omega)); clear HB BK1 BK2 BK3 FR4 FR5 FR7 FR8; have HB := n0_; have BK1 := n1_; have BK2 := n2_; have BK3 := n3_; have FR4 := n4_; have FR5 := n5_; have FR7 := n6_; have FR8 := n7_; clear n0_ n1_ n2_ n3_ n4_ n5_ n6_ n7_; clear hbk ho))
    (try simp only [Exit.inBlock, Exit.then])
    refine bodyPost_ret (results_cell_row rfl _ _ g2 36 #[.string d0, .int .i64 d1, .int .i64 d2, .int .i64 d3, .slice B4 l4.length e4, .slice B5 l5.length e5, .slice none 0 0, .int .i64 a0, .string a1, .string a2, .string a3, .int .i64 a4, .int .i64 a5, .int .i64 a6, .int .i64 a7, .int .i64 a8, .int .i64 a9, .int .i64 a10, .int .i64 a11, .int .i64 a12, .int .i64 a13, .int .i64 a14, .int .i64 a15, .int .i64 a16, .int .i64 a17, .int .i64 a18, .int .i64 a19, .int .i64 a20, .slice B7 l7.length e7, .slice B8 l8.length e8] (0, 0) _ rfl BK2.out Try.underlying36 rfl size36) rfl ?_
    exact ⟨_, _, _, _, _, rfl, Kd.Fr.lower FR4.out (by have := ORD.out; omega), Kd.Fr.lower FR5.out (by have := ORD.out; omega), Kd.Fr.of (ok := fun _ => True) (.inl ⟨rfl, rfl⟩), Kd.Fr.lower FR7.out (by have := ORD.out; omega), Kd.Fr.lower FR8.out (by have := ORD.out; omega), HB.out⟩
  | some ad =>
  clear hr4 hc4 hl4 hr5 hc5 hl5 hr6 hc6 hl6 hs hr7 hc7 hr8 hc8
  go_enter Try.func6, Try.ntmps6
  go_upto_region 2 with (first | ((with_reducible refine gate_dst (N := 1) rfl ?_); (try (refine gate_guard (by rfl) ?_; dsimp only)); refine box_event ?hg (N := 1) ?hd (cs := #[.string d0, .int .i64 d1, .int .i64 d2, .int .i64 d3, .slice A4 l4.length c4, .slice A5 l5.length c5, .slice (some ad) l6.length c6, .int .i64 a0, .string a1, .string a2, .string a3, .int .i64 a4, .int .i64 a5, .int .i64 a6, .int .i64 a7, .int .i64 a8, .int .i64 a9, .int .i64 a10, .int .i64 a11, .int .i64 a12, .int .i64 a13, .int .i64 a14, .int .i64 a15, .int .i64 a16, .int .i64 a17, .int .i64 a18, .int .i64 a19, .int .i64 a20, .slice A7 l7.length c7, .slice A8 l8.length c8]) (t := 36) ?hr ?_; (case hd => rfl); (case hg => rfl); (case hr => first | (go_simp; done) | (go_simp; rfl)); intro g1 hg wv1_ hbox hb; have n0_ := Aside0.mk (below_step HB.out hb); have n1_ := Aside0.mk (hbox); have n2_ := Aside0.mk ((show w.heap.size ≤ g1 by rw [hg]; exact below_size HB.out)); clear HB; have HB := n0_; have BK1 := n1_; have ORD := n2_; clear n0_ n1_ n2_; clear hb hbox hg) | ((with_reducible refine gate_dst (N := 2) rfl ?_); (try (refine gate_guard (by rfl) ?_; dsimp only)); refine box_event ?hg (N := 2) ?hd (cs := #[.string ⟨#[]⟩, .int .i64 0, .int .i64 0, .int .i64 0, .slice none 0 0, .slice none 0 0, .slice none 0 0, .int .i64 0, .string ⟨#[]⟩, .string ⟨#[]⟩, .string ⟨#[]⟩, .int .i64 0, .int .i64 0, .int .i64 0, .int .i64 0, .int .i64 0, .int .i64 0, .int .i64 0, .int .i64 0, .int .i64 0, .int .i64 0, .int .i64 0, .int .i64 0, .int .i64 0, .int .i64 0, .int .i64 0, .int .i64 0, .int .i64 0, .slice none 0 0, .slice none 0 0]) (t := 36) ?hr ?_; (case hd => rfl); (case hg => rfl); (case hr => first | (go_simp; done) | (go_simp; rfl)); intro g2 hg wv2_ hbox hb; have n0_ := Aside0.mk (below_step HB.out hb); have n1_ := Aside0.mk (blk_below BK1.out hb); have n2_ := Aside0.mk (hbox); have n3_ := Aside0.mk (And.intro ORD.out (show g1 < g2 by rw [hg]; exact blk_lt BK1.out)); clear HB BK1 ORD; have HB := n0_; have BK1 := n1_; have BK2 := n2_; have ORD := n3_; clear n0_ n1_ n2_ n3_; clear hb hbox hg) | ((with_reducible refine gate_dst (N := 5) rfl ?_); (try (refine gate_guard (by rfl) ?_; dsimp only)); refine ldb_event rfl rfl (by first | rfl | (go_simp; done) | (go_simp; rfl)) Try.underlying36 ⟨_, rfl⟩ BK1.out 30 size36 [.string d0, .int .i64 d1, .int .i64 d2, .int .i64 d3, .slice A4 l4.length c4, .slice A5 l5.length c5, .slice (some ad) l6.length c6, .int .i64 a0, .string a1, .string a2, .string a3, .int .i64 a4, .int .i64 a5, .int .i64 a6, .int .i64 a7, .int .i64 a8, .int .i64 a9, .int .i64 a10, .int .i64 a11, .int .i64 a12, .int .i64 a13, .int .i64 a14, .int .i64 a15, .int .i64 a16, .int .i64 a17, .int .i64 a18, .int .i64 a19, .int .i64 a20, .slice A7 l7.length c7, .slice A8 l8.length c8] rfl rfl ?_) | ((with_reducible refine gate_dst (N := 3) rfl ?_); (try (refine gate_guard (by rfl) ?_; dsimp only)); refine box_event ?hg (N := 3) ?hd (cs := #[.string ⟨#[]⟩, .int .i64 0, .int .i64 0, .int .i64 0, .slice none 0 0, .slice none 0 0, .slice none 0 0, .int .i64 0, .string ⟨#[]⟩, .string ⟨#[]⟩, .string ⟨#[]⟩, .int .i64 0, .int .i64 0, .int .i64 0, .int .i64 0, .int .i64 0, .int .i64 0, .int .i64 0, .int .i64 0, .int .i64 0, .int .i64 0, .int .i64 0, .int .i64 0, .int .i64 0, .int .i64 0, .int .i64 0, .int .i64 0, .int .i64 0, .slice none 0 0, .slice none 0 0]) (t := 36) ?hr ?_; (case hd => rfl); (case hg => rfl); (case hr => first | (go_simp; done) | (go_simp; rfl)); intro g3 hg wv3_ hbox hb; have n0_ := Aside0.mk (below_step HB.out hb); have n1_ := Aside0.mk (blk_below BK1.out hb); have n2_ := Aside0.mk (blk_below BK2.out hb); have n3_ := Aside0.mk (hbox); have n4_ := Aside0.mk (And.intro ORD.out (show g2 < g3 by rw [hg]; exact blk_lt BK2.out)); clear HB BK1 BK2 ORD; have HB := n0_; have BK1 := n1_; have BK2 := n2_; have BK3 := n3_; have ORD := n4_; clear n0_ n1_ n2_ n3_ n4_; clear hb hbox hg) | ((with_reducible refine gate_store (t := 36) (p := 3) rfl ?_); refine st_event rfl rfl rfl (g := g3) (j := 0) (by first | rfl | (go_simp; done) | (go_simp; rfl)) (u := .agg #[.string d0, .int .i64 d1, .int .i64 d2, .int .i64 d3, .slice A4 l4.length c4, .slice A5 l5.length c5, .slice (some ad) l6.length c6, .int .i64 a0, .string a1, .string a2, .string a3, .int .i64 a4, .int .i64 a5, .int .i64 a6, .int .i64 a7, .int .i64 a8, .int .i64 a9, .int .i64 a10, .int .i64 a11, .int .i64 a12, .int .i64 a13, .int .i64 a14, .int .i64 a15, .int .i64 a16, .int .i64 a17, .int .i64 a18, .int .i64 a19, .int .i64 a20, .slice A7 l7.length c7, .slice A8 l8.length c8]) (by first | rfl | (go_simp; done) | (go_simp; rfl)) BK3.out 30 size36 rfl (by simp) (by intro x hx; simp [Value.cells] at hx; rcases hx with rfl | rfl | rfl | rfl | rfl | rfl | rfl | rfl | rfl | rfl | rfl | rfl | rfl | rfl | rfl | rfl | rfl | rfl | rfl | rfl | rfl | rfl | rfl | rfl | rfl | rfl | rfl | rfl | rfl | rfl <;> rfl) #[.string d0, .int .i64 d1, .int .i64 d2, .int .i64 d3, .slice A4 l4.length c4, .slice A5 l5.length c5, .slice (some ad) l6.length c6, .int .i64 a0, .string a1, .string a2, .string a3, .int .i64 a4, .int .i64 a5, .int .i64 a6, .int .i64 a7, .int .i64 a8, .int .i64 a9, .int .i64 a10, .int .i64 a11, .int .i64 a12, .int .i64 a13, .int .i64 a14, .int .i64 a15, .int .i64 a16, .int .i64 a17, .int .i64 a18, .int .i64 a19, .int .i64 a20, .slice A7 l7.length c7, .slice A8 l8.length c8] rfl ?_; intro wv4_ hbk ho; have n0_ := Aside0.mk (Other.below ho HB.out (by have := ORD.out; omega)); have n1_ := Aside0.mk (Other.blk ho BK1.out (by have := ORD.out; omega)); have n2_ := Aside0.mk (Other.blk ho BK2.out (by have := ORD.out; omega)); have n3_ := Aside0.mk (hbk); clear HB BK1 BK2 BK3; have HB := n0_; have BK1 := n1_; have BK2 := n2_; have BK3 := n3_; clear n0_ n1_ n2_ n3_; clear hbk ho))
  go_upto_region 3 with (first | ((with_reducible refine gate_dst (N := 7) rfl ?_); (try (refine gate_guard (by rfl) ?_; dsimp only)); refine ld_event rfl rfl (by first | rfl | (go_simp; done) | (go_simp; rfl)) Try.underlying24 trivial (.slice A4 l4.length c4) ((blk_cell BK1.out 4).trans rfl) ?_) | ((with_reducible refine gate_callee (f := 18) rfl ?_); (try (refine gate_guard (by rfl) ?_; dsimp only)); refine goesL_ (some 8) rfl rfl Try.func18 (by kernel_rfl) rfl #[.slice A4 l4.length c4] rfl (by (try simp only [List.map_toArray, List.map_cons, List.map_nil]); first | done | rfl) ?_; (with_reducible refine (dates.calls A4 c4 l4 _ (Kd.C_below HR4.out HB.out) HC4.out HL4.out).mono ?_); rintro e wv5_ ⟨v4, rfl, hF, hb⟩; obtain ⟨B4, e4, rfl, _, _, _⟩ := Kd.sB_read (Kd.Fr.K hF); refine ⟨_, rfl, ?_⟩; have n0_ := Aside0.mk (below_step HB.out hb); have n1_ := Aside0.mk (blk_below BK1.out hb); have n2_ := Aside0.mk (blk_below BK2.out hb); have n3_ := Aside0.mk (blk_below BK3.out hb); have n4_ := Aside0.mk (Kd.Fr.lower (b' := g3 + 1) hF (blk_lt BK3.out)); clear HB BK1 BK2 BK3; have HB := n0_; have BK1 := n1_; have BK2 := n2_; have BK3 := n3_; have FR4 := n4_; clear n0_ n1_ n2_ n3_ n4_; clear hb hF) | ((with_reducible refine gate_store (t := 24) (p := 9) rfl ?_); refine st_event rfl rfl rfl (g := g3) (j := 4) (by first | rfl | (go_simp; done) | (go_simp; rfl)) (u := .slice B4 l4.length e4) (by first | rfl | (go_simp; done) | (go_simp; rfl)) BK3.out 1 size24 rfl (by simp) (by intro x hx; simp [Value.cells] at hx; rcases hx with rfl <;> rfl) #[.string d0, .int .i64 d1, .int .i64 d2, .int .i64 d3, .slice B4 l4.length e4, .slice A5 l5.length c5, .slice (some ad) l6.length c6, .int .i64 a0, .string a1, .string a2, .string a3, .int .i64 a4, .int .i64 a5, .int .i64 a6, .int .i64 a7, .int .i64 a8, .int .i64 a9, .int .i64 a10, .int .i64 a11, .int .i64 a12, .int .i64 a13, .int .i64 a14, .int .i64 a15, .int .i64 a16, .int .i64 a17, .int .i64 a18, .int .i64 a19, .int .i64 a20, .slice A7 l7.length c7, .slice A8 l8.length c8] rfl ?_; intro wv6_ hbk ho; have n0_ := Aside0.mk (Other.below ho HB.out (by have := ORD.out; omega)); have n1_ := Aside0.mk (Other.blk ho BK1.out (by have := ORD.out; omega)); have n2_ := Aside0.mk (Other.blk ho BK2.out (by have := ORD.out; omega)); have n3_ := Aside0.mk (hbk); have n4_ := Aside0.mk (Kd.Fr.other FR4.out ho (by have := ORD.out; omega)); clear HB BK1 BK2 BK3 FR4; have HB := n0_; have BK1 := n1_; have BK2 := n2_; have BK3 := n3_; have FR4 := n4_; clear n0_ n1_ n2_ n3_ n4_; clear hbk ho))
  go_upto_region 4 with (first | ((with_reducible refine gate_dst (N := 11) rfl ?_); (try (refine gate_guard (by rfl) ?_; dsimp only)); refine ld_event rfl rfl (by first | rfl | (go_simp; done) | (go_simp; rfl)) Try.underlying25 trivial (.slice A5 l5.length c5) ((blk_cell BK1.out 5).trans rfl) ?_) | ((with_reducible refine gate_callee (f := 19) rfl ?_); (try (refine gate_guard (by rfl) ?_; dsimp only)); refine goesL_ (some 12) rfl rfl Try.func19 (by kernel_rfl) rfl #[.slice A5 l5.length c5] rfl (by (try simp only [List.map_toArray, List.map_cons, List.map_nil]); first | done | rfl) ?_; (with_reducible refine (names.calls A5 c5 l5 _ (Kd.C_below HR5.out HB.out) HC5.out HL5.out).mono ?_); rintro e wv7_ ⟨v5, rfl, hF, hb⟩; obtain ⟨B5, e5, rfl, _, _, _⟩ := Kd.sB_read (Kd.Fr.K hF); refine ⟨_, rfl, ?_⟩; have n0_ := Aside0.mk (below_step HB.out hb); have n1_ := Aside0.mk (blk_below BK1.out hb); have n2_ := Aside0.mk (blk_below BK2.out hb); have n3_ := Aside0.mk (blk_below BK3.out hb); have n4_ := Aside0.mk (Kd.Fr.below FR4.out hb); have n5_ := Aside0.mk (Kd.Fr.lower (b' := g3 + 1) hF (blk_lt BK3.out)); clear HB BK1 BK2 BK3 FR4; have HB := n0_; have BK1 := n1_; have BK2 := n2_; have BK3 := n3_; have FR4 := n4_; have FR5 := n5_; clear n0_ n1_ n2_ n3_ n4_ n5_; clear hb hF) | ((with_reducible refine gate_store (t := 25) (p := 13) rfl ?_); refine st_event rfl rfl rfl (g := g3) (j := 5) (by first | rfl | (go_simp; done) | (go_simp; rfl)) (u := .slice B5 l5.length e5) (by first | rfl | (go_simp; done) | (go_simp; rfl)) BK3.out 1 size25 rfl (by simp) (by intro x hx; simp [Value.cells] at hx; rcases hx with rfl <;> rfl) #[.string d0, .int .i64 d1, .int .i64 d2, .int .i64 d3, .slice B4 l4.length e4, .slice B5 l5.length e5, .slice (some ad) l6.length c6, .int .i64 a0, .string a1, .string a2, .string a3, .int .i64 a4, .int .i64 a5, .int .i64 a6, .int .i64 a7, .int .i64 a8, .int .i64 a9, .int .i64 a10, .int .i64 a11, .int .i64 a12, .int .i64 a13, .int .i64 a14, .int .i64 a15, .int .i64 a16, .int .i64 a17, .int .i64 a18, .int .i64 a19, .int .i64 a20, .slice A7 l7.length c7, .slice A8 l8.length c8] rfl ?_; intro wv8_ hbk ho; have n0_ := Aside0.mk (Other.below ho HB.out (by have := ORD.out; omega)); have n1_ := Aside0.mk (Other.blk ho BK1.out (by have := ORD.out; omega)); have n2_ := Aside0.mk (Other.blk ho BK2.out (by have := ORD.out; omega)); have n3_ := Aside0.mk (hbk); have n4_ := Aside0.mk (Kd.Fr.other FR4.out ho (by have := ORD.out; omega)); have n5_ := Aside0.mk (Kd.Fr.other FR5.out ho (by have := ORD.out; omega)); clear HB BK1 BK2 BK3 FR4 FR5; have HB := n0_; have BK1 := n1_; have BK2 := n2_; have BK3 := n3_; have FR4 := n4_; have FR5 := n5_; clear n0_ n1_ n2_ n3_ n4_ n5_; clear hbk ho))
  go_upto_region 5 with (first | ((with_reducible refine gate_dst (N := 15) rfl ?_); (try (refine gate_guard (by rfl) ?_; dsimp only)); refine ldb_event rfl rfl (by first | rfl | (go_simp; done) | (go_simp; rfl)) Try.underlying34 ⟨_, rfl⟩ BK1.out 23 size34 [.int .i64 a0, .string a1, .string a2, .string a3, .int .i64 a4, .int .i64 a5, .int .i64 a6, .int .i64 a7, .int .i64 a8, .int .i64 a9, .int .i64 a10, .int .i64 a11, .int .i64 a12, .int .i64 a13, .int .i64 a14, .int .i64 a15, .int .i64 a16, .int .i64 a17, .int .i64 a18, .int .i64 a19, .int .i64 a20, .slice A7 l7.length c7, .slice A8 l8.length c8] rfl rfl ?_) | ((with_reducible refine gate_callee (f := 20) rfl ?_); (try (refine gate_guard (by rfl) ?_; dsimp only)); refine goesL_ (some 16) rfl rfl Try.func20 (by kernel_rfl) rfl #[.agg #[.int .i64 a0, .string a1, .string a2, .string a3, .int .i64 a4, .int .i64 a5, .int .i64 a6, .int .i64 a7, .int .i64 a8, .int .i64 a9, .int .i64 a10, .int .i64 a11, .int .i64 a12, .int .i64 a13, .int .i64 a14, .int .i64 a15, .int .i64 a16, .int .i64 a17, .int .i64 a18, .int .i64 a19, .int .i64 a20, .slice A7 l7.length c7, .slice A8 l8.length c8]] rfl (by (try simp only [List.map_toArray, List.map_cons, List.map_nil]); first | done | rfl) ?_; (with_reducible refine (ConOK.calls hk _ _ _ _ _ _ _ _ _ _ _ _ _ _ _ _ _ _ _ _ _ A7 c7 A8 c8 _ (Kd.C_below HR7.out HB.out) HC7.out (Kd.C_below HR8.out HB.out) HC8.out).mono ?_); rintro e wv9_ ⟨v7, v8, rfl, hF, hF2, hb⟩; obtain ⟨B7, e7, rfl, _, _, _⟩ := Kd.sB_read (Kd.Fr.K hF); obtain ⟨B8, e8, rfl, _, _, _⟩ := Kd.sB_read (Kd.Fr.K hF2); refine ⟨_, rfl, ?_⟩; have n0_ := Aside0.mk (below_step HB.out hb); have n1_ := Aside0.mk (blk_below BK1.out hb); have n2_ := Aside0.mk (blk_below BK2.out hb); have n3_ := Aside0.mk (blk_below BK3.out hb); have n4_ := Aside0.mk (Kd.Fr.below FR4.out hb); have n5_ := Aside0.mk (Kd.Fr.below FR5.out hb); have n6_ := Aside0.mk (Kd.Fr.lower (b' := g3 + 1) hF (blk_lt BK3.out)); have n7_ := Aside0.mk (Kd.Fr.lower (b' := g3 + 1) hF2 (blk_lt BK3.out)); clear HB BK1 BK2 BK3 FR4 FR5; have HB := n0_; have BK1 := n1_; have BK2 := n2_; have BK3 := n3_; have FR4 := n4_; have FR5 := n5_; have FR7 := n6_; have FR8 := n7_; clear n0_ n1_ n2_ n3_ n4_ n5_ n6_ n7_; clear hb hF hF2) | ((with_reducible refine gate_store (t := 34) (p := 17) rfl ?_); refine st_event rfl rfl rfl (g := g3) (j := 7) (by first | rfl | (go_simp; done) | (go_simp; rfl)) (u := .agg #[.int .i64 a0, .string a1, .string a2, .string a3, .int .i64 a4, .int .i64 a5, .int .i64 a6, .int .i64 a7, .int .i64 a8, .int .i64 a9, .int .i64 a10, .int .i64 a11, .int .i64 a12, .int .i64 a13, .int .i64 a14, .int .i64 a15, .int .i64 a16, .int .i64 a17, .int .i64 a18, .int .i64 a19, .int .i64 a20, .slice B7 l7.length e7, .slice B8 l8.length e8]) (by first | rfl | (go_simp; done) | (go_simp; rfl)) BK3.out 23 size34 rfl (by simp) (by intro x hx; simp [Value.cells] at hx; rcases hx with rfl | rfl | rfl | rfl | rfl | rfl | rfl | rfl | rfl | rfl | rfl | rfl | rfl | rfl | rfl | rfl | rfl | rfl | rfl | rfl | rfl | rfl | rfl <;> rfl) #[.string d0, .int .i64 d1, .int .i64 d2, .int .i64 d3, .slice B4 l4.length e4, .slice B5 l5.length e5, .slice (some ad) l6.length c6, .int .i64 a0, .string a1, .string a2, .string a3, .int .i64 a4, .int .i64 a5, .int .i64 a6, .int .i64 a7, .int .i64 a8, .int .i64 a9, .int .i64 a10, .int .i64 a11, .int .i64 a12, .int .i64 a13, .int .i64 a14, .int .i64 a15, .int .i64 a16, .int .i64 a17, .int .i64 a18, .int .i64 a19, .int .i64 a20, .slice B7 l7.length e7, .slice B8 l8.length e8] rfl ?_; intro wv10_ hbk ho; have n0_ := Aside0.mk (Other.below ho HB.out (by have := ORD.out; omega)); have n1_ := Aside0.mk (Other.blk ho BK1.out (by have := ORD.out; omega)); have n2_ := Aside0.mk (Other.blk ho BK2.out (by have := ORD.out; omega)); have n3_ := Aside0.mk (hbk); have n4_ := Aside0.mk (Kd.Fr.other FR4.out ho (by have := ORD.out; omega)); have n5_ := Aside0.mk (Kd.Fr.other FR5.out ho (by have := ORD.out; omega)); have n6_ := Aside0.mk (Kd.Fr.other FR7.out ho (by have := ORD.out; omega)); have n7_ := Aside0.mk (Kd.Fr.other FR8.out ho (by have := ORD.out; omega)); clear HB BK1 BK2 BK3 FR4 FR5 FR7 FR8; have HB := n0_; have BK1 := n1_; have BK2 := n2_; have BK3 := n3_; have FR4 := n4_; have FR5 := n5_; have FR7 := n6_; have FR8 := n7_; clear n0_ n1_ n2_ n3_ n4_ n5_ n6_ n7_; clear hbk ho))
  go_upto_region 6 with (first | ((with_reducible refine gate_store (t := 26) (p := 18) rfl ?_); refine st_event rfl rfl rfl (g := g3) (j := 6) (by first | rfl | (go_simp; done) | (go_simp; rfl)) (u := .slice none 0 0) (by first | rfl | (go_simp; done) | (go_simp; rfl)) BK3.out 1 size26 rfl (by simp) (by intro x hx; simp [Value.cells] at hx; rcases hx with rfl <;> rfl) #[.string d0, .int .i64 d1, .int .i64 d2, .int .i64 d3, .slice B4 l4.length e4, .slice B5 l5.length e5, .slice none 0 0, .int .i64 a0, .string a1, .string a2, .string a3, .int .i64 a4, .int .i64 a5, .int .i64 a6, .int .i64 a7, .int .i64 a8, .int .i64 a9, .int .i64 a10, .int .i64 a11, .int .i64 a12, .int .i64 a13, .int .i64 a14, .int .i64 a15, .int .i64 a16, .int .i64 a17, .int .i64 a18, .int .i64 a19, .int .i64 a20, .slice B7 l7.length e7, .slice B8 l8.length e8] rfl ?_; intro wv11_ hbk ho; have n0_ := Aside0.mk (Other.below ho HB.out (by have := ORD.out; omega)); have n1_ := Aside0.mk (Other.blk ho BK1.out (by have := ORD.out; omega)); have n2_ := Aside0.mk (Other.blk ho BK2.out (by have := ORD.out; omega)); have n3_ := Aside0.mk (hbk); have n4_ := Aside0.mk (Kd.Fr.other FR4.out ho (by have := ORD.out; omega)); have n5_ := Aside0.mk (Kd.Fr.other FR5.out ho (by have := ORD.out; omega)); have n6_ := Aside0.mk (Kd.Fr.other FR7.out ho (by have := ORD.out; omega)); have n7_ := Aside0.mk (Kd.Fr.other FR8.out ho (by have := ORD.out; omega)); clear HB BK1 BK2 BK3 FR4 FR5 FR7 FR8; have HB := n0_; have BK1 := n1_; have BK2 := n2_; have BK3 := n3_; have FR4 := n4_; have FR5 := n5_; have FR7 := n6_; have FR8 := n7_; clear n0_ n1_ n2_ n3_ n4_ n5_ n6_ n7_; clear hbk ho))
  have ASZ := Aside0.mk (show g3 + 1 ≤ _ from blk_lt BK3.out)
  go_upto_region 8 with (first | ((with_reducible refine gate_dst (N := 20) rfl ?_); (try (refine gate_guard (by rfl) ?_; dsimp only)); refine ld_event rfl rfl (by first | rfl | (go_simp; done) | (go_simp; rfl)) Try.underlying26 trivial (.slice (some ad) l6.length c6) ((blk_cell BK1.out 6).trans rfl) ?_) | ((with_reducible refine gate_dst (N := 23) rfl ?_); (try (refine gate_guard (by rfl) ?_; dsimp only)); refine ld_event rfl rfl (by first | rfl | (go_simp; done) | (go_simp; rfl)) Try.underlying26 trivial (.slice (some ad) l6.length c6) ((blk_cell BK1.out 6).trans rfl) ?_) | ((with_reducible refine gate_dst (N := 26) rfl ?_); refine Kd.R_make0 k56B (g3 + 1) 56 rfl (N := 26) rfl 26 (.const (.int .i64 0)) (.tmp 25) rfl (l6.length + 1) rfl (by first | rfl | (go_simp; done) | (go_simp; rfl)) Try.underlying26 (.agg #[.string ⟨#[]⟩, .slice none 0 0, .int .i64 0, .int .i64 0, .string ⟨#[]⟩, .slice none 0 0, .slice none 0 0]) 120 info56 (by decide) (by have := HL6.out; omega) (Below.refl _ _) ASZ.out ?_; intro gr_ wv12_ hg_ hr_ hb hb2; have n0_ := Aside0.mk (below_step HB.out hb2); have n1_ := Aside0.mk (blk_below BK1.out hb2); have n2_ := Aside0.mk (blk_below BK2.out hb2); have n3_ := Aside0.mk (blk_below BK3.out hb2); have n4_ := Aside0.mk (Kd.Fr.below FR4.out hb2); have n5_ := Aside0.mk (Kd.Fr.below FR5.out hb2); have n6_ := Aside0.mk (Kd.Fr.below FR7.out hb2); have n7_ := Aside0.mk (Kd.Fr.below FR8.out hb2); have n8_ := Aside0.mk (Kd.R_mono (Kd.R_bound hr_) (fun k hk => hk.2.1)); clear HB BK1 BK2 BK3 FR4 FR5 FR7 FR8; have HB := n0_; have BK1 := n1_; have BK2 := n2_; have BK3 := n3_; have FR4 := n4_; have FR5 := n5_; have FR7 := n6_; have FR8 := n7_; have RO := n8_; clear n0_ n1_ n2_ n3_ n4_ n5_ n6_ n7_ n8_; clear hg_ hr_ hb hb2) | ((with_reducible refine gate_store (t := 26) (p := 27) rfl ?_); refine st_event rfl rfl rfl (g := g3) (j := 6) (by first | rfl | (go_simp; done) | (go_simp; rfl)) (u := (.slice (some ⟨gr_, 0, none⟩) 0 (l6.length + 1))) (by first | rfl | (go_simp; done) | (go_simp; rfl)) BK3.out 1 size26 rfl (by simp) (by intro x hx; simp [Value.cells] at hx; rcases hx with rfl <;> rfl) #[.string d0, .int .i64 d1, .int .i64 d2, .int .i64 d3, .slice B4 l4.length e4, .slice B5 l5.length e5, (.slice (some ⟨gr_, 0, none⟩) 0 (l6.length + 1)), .int .i64 a0, .string a1, .string a2, .string a3, .int .i64 a4, .int .i64 a5, .int .i64 a6, .int .i64 a7, .int .i64 a8, .int .i64 a9, .int .i64 a10, .int .i64 a11, .int .i64 a12, .int .i64 a13, .int .i64 a14, .int .i64 a15, .int .i64 a16, .int .i64 a17, .int .i64 a18, .int .i64 a19, .int .i64 a20, .slice B7 l7.length e7, .slice B8 l8.length e8] rfl ?_; intro wv13_ hbk ho; have n0_ := Aside0.mk (Other.below ho HB.out (by have := ORD.out; omega)); have n1_ := Aside0.mk (Other.blk ho BK1.out (by have := ORD.out; omega)); have n2_ := Aside0.mk (Other.blk ho BK2.out (by have := ORD.out; omega)); have n3_ := Aside0.mk (hbk); have n4_ := Aside0.mk (Kd.Fr.other FR4.out ho (by have := ORD.out; omega)); have n5_ := Aside0.mk (Kd.Fr.other FR5.out ho (by have := ORD.out; omega)); have n6_ := Aside0.mk (Kd.Fr.other FR7.out ho (by have := ORD.out; omega)); have n7_ := Aside0.mk (Kd.Fr.other FR8.out ho (by have := ORD.out; omega)); have n8_ := Aside0.mk (Kd.R_step RO.out (fun k hk_ _ => ho.block k (by have := ORD.out; omega))); clear HB BK1 BK2 BK3 FR4 FR5 FR7 FR8 RO; have HB := n0_; have BK1 := n1_; have BK2 := n2_; have BK3 := n3_; have FR4 := n4_; have FR5 := n5_; have FR7 := n6_; have FR8 := n7_; have RO := n8_; clear n0_ n1_ n2_ n3_ n4_ n5_ n6_ n7_ n8_; clear hbk ho))
  clear ASZ
  go_wp2
  go_loopg [4] l6.length (fun kq v4 w' => ∃ (i_ : Int) (xs : List S56) (Au_ : Option Addr) (cu_ : Nat), v4 = .int .i64 i_ ∧ Aside0 (0 ≤ i_ ∧ i_ + (kq : Int) = (l6.length : Int)) ∧ Aside0 (xs = l6.take i_.toNat) ∧ Aside0 (Kd.R k56B 56 w' (g3 + 1) (fun k => g3 + 1 ≤ k) (.slice Au_ xs.length cu_) xs) ∧ Aside0 (Kd.Fr (Kd.sliceB 23 k23 b23) (g3 + 1) w' l4 [.slice B4 l4.length e4]) ∧ Aside0 (Kd.Fr (Kd.sliceB 9 Kd.string b9) (g3 + 1) w' l5 [.slice B5 l5.length e5]) ∧ Aside0 (Kd.Fr (Kd.sliceB 54 k54B b54) (g3 + 1) w' l7 [.slice B7 l7.length e7]) ∧ Aside0 (Kd.Fr (Kd.sliceB 34 k34B b34) (g3 + 1) w' l8 [.slice B8 l8.length e8]) ∧ Aside0 (w'.heap[g1]? = some (.cells #[.string d0, .int .i64 d1, .int .i64 d2, .int .i64 d3, .slice A4 l4.length c4, .slice A5 l5.length c5, .slice (some ad) l6.length c6, .int .i64 a0, .string a1, .string a2, .string a3, .int .i64 a4, .int .i64 a5, .int .i64 a6, .int .i64 a7, .int .i64 a8, .int .i64 a9, .int .i64 a10, .int .i64 a11, .int .i64 a12, .int .i64 a13, .int .i64 a14, .int .i64 a15, .int .i64 a16, .int .i64 a17, .int .i64 a18, .int .i64 a19, .int .i64 a20, .slice A7 l7.length c7, .slice A8 l8.length c8] 36 (0, 0))) ∧ Aside0 (w'.heap[g2]? = some (.cells #[.string ⟨#[]⟩, .int .i64 0, .int .i64 0, .int .i64 0, .slice none 0 0, .slice none 0 0, .slice none 0 0, .int .i64 0, .string ⟨#[]⟩, .string ⟨#[]⟩, .string ⟨#[]⟩, .int .i64 0, .int .i64 0, .int .i64 0, .int .i64 0, .int .i64 0, .int .i64 0, .int .i64 0, .int .i64 0, .int .i64 0, .int .i64 0, .int .i64 0, .int .i64 0, .int .i64 0, .int .i64 0, .int .i64 0, .int .i64 0, .int .i64 0, .slice none 0 0, .slice none 0 0] 36 (0, 0))) ∧ Aside0 (w'.heap[g3]? = some (.cells #[.string d0, .int .i64 d1, .int .i64 d2, .int .i64 d3, .slice B4 l4.length e4, .slice B5 l5.length e5, (.slice Au_ xs.length cu_), .int .i64 a0, .string a1, .string a2, .string a3, .int .i64 a4, .int .i64 a5, .int .i64 a6, .int .i64 a7, .int .i64 a8, .int .i64 a9, .int .i64 a10, .int .i64 a11, .int .i64 a12, .int .i64 a13, .int .i64 a14, .int .i64 a15, .int .i64 a16, .int .i64 a17, .int .i64 a18, .int .i64 a19, .int .i64 a20, .slice B7 l7.length e7, .slice B8 l8.length e8] 36 (0, 0))) ∧ Aside0 (Below w.heap.size w w'))
  case atStart => exact ⟨0, [], _, _, rfl, ⟨by omega, by omega⟩, ⟨rfl⟩, RO, FR4, FR5, FR7, FR8, BK1, BK2, BK3, HB⟩
  case round =>
    clear RO FR4 FR5 FR7 FR8 BK1 BK2 BK3 HB
    obtain ⟨i_, xs, Au_, cu_, rfl, HQ, HX, RO, FR4, FR5, FR7, FR8, BK1, BK2, BK3, HB⟩ := hrel
    have HXL := Aside0.mk (show xs.length ≤ l6.length ∧ (xs.length : Int) = i_ by rw [HX.out, List.length_take]; have := HQ.out; omega)
    by_cases c_ : i_ < (l6.length : Int)
    · have cb : decide (i_ < (l6.length : Int)) = true := decide_eq_true c_
      have p_ : 0 ≤ i_ := HQ.out.1
      obtain ⟨ad1, cv_, e_, _, hK_, hc0_⟩ := Kd.C_get HR6.out z56 i_ p_ c_
      cases e_
      obtain ⟨B1e, d1e, B5e, d5e, B6e, d6e, rfl, hl1, hi1, hl5, hi5, hl6, hi6⟩ := k56_open hK_
      replace hc0_ : ∀ j u, ([.string (rd_T56 l6 i_).f0, .slice B1e (rd_T56 l6 i_).f1.length d1e, .int .i64 (rd_T56 l6 i_).f2.f0, .int .i64 (rd_T56 l6 i_).f2.f1, .string (rd_T56 l6 i_).f2.f2, .slice B5e (rd_T56 l6 i_).f2.f3.length d5e, .slice B6e (rd_T56 l6 i_).f2.f4.length d6e] : List Value)[j]? = some u → w.cell? (ad.add (i_.toNat * 7 + j)) = some u := hc0_
      have hc1_ : ∀ j u, ([.string (rd_T56 l6 i_).f0, .slice B1e (rd_T56 l6 i_).f1.length d1e, .int .i64 (rd_T56 l6 i_).f2.f0, .int .i64 (rd_T56 l6 i_).f2.f1, .string (rd_T56 l6 i_).f2.f2, .slice B5e (rd_T56 l6 i_).f2.f3.length d5e, .slice B6e (rd_T56 l6 i_).f2.f4.length d6e] : List Value)[j]? = some u → wr.cell? (ad.add (i_.toNat * 7 + j)) = some u := fun j v hj => by have h1 := hc0_ j v hj; exact (HB.out.cell (World.block_lt_of_cell? w _ h1)).trans h1
      have HX0 := Aside0.mk (show wr.cell? (ad.add (i_.toNat * 7)) = some (.string (rd_T56 l6 i_).f0) from hc1_ 0 _ rfl)
      have HX1 := Aside0.mk (show wr.cell? ⟨(ad.add (i_.toNat * 7)).block, (ad.add (i_.toNat * 7)).off + 1, none⟩ = some (.slice B1e (rd_T56 l6 i_).f1.length d1e) from by rw [← add_field _ _ 1 (by omega)]; exact hc1_ 1 _ rfl)
      have HCS := Aside0.mk (show CSat wr ⟨(ad.add (i_.toNat * 7)).block, (ad.add (i_.toNat * 7)).off + 2, none⟩ [.int .i64 (rd_T56 l6 i_).f2.f0, .int .i64 (rd_T56 l6 i_).f2.f1, .string (rd_T56 l6 i_).f2.f2, .slice B5e (rd_T56 l6 i_).f2.f3.length d5e, .slice B6e (rd_T56 l6 i_).f2.f4.length d6e] from CSat.of_get hc1_ 2 (by decide))
      have HE1 := Aside0.mk (show Kd.C Kd.string w B1e (rd_T56 l6 i_).f1.length (rd_T56 l6 i_).f1 from hi1)
      have HE1c := Aside0.mk (show (rd_T56 l6 i_).f1.length ≤ d1e from hl1)
      have HE5 := Aside0.mk (show Kd.C k23 w B5e (rd_T56 l6 i_).f2.f3.length (rd_T56 l6 i_).f2.f3 from hi5)
      have HE5c := Aside0.mk (show (rd_T56 l6 i_).f2.f3.length ≤ d5e from hl5)
      have HE6 := Aside0.mk (show Kd.C k54 w B6e (rd_T56 l6 i_).f2.f4.length (rd_T56 l6 i_).f2.f4 from hi6)
      have HE6c := Aside0.mk (show (rd_T56 l6 i_).f2.f4.length ≤ d6e from hl6)
      have HM := Aside0.mk (rd_mem56 p_ c_)
      clear hK_ hc0_ hc1_ hi1 hi5 hi6 hl1 hl5 hl6
      have HC_ := Aside0.mk c_
      have HTN := Aside0.mk (take_next56 p_ c_)
      replace p_ := eq_true p_
      replace c_ := eq_true c_
      go_upto_region 11 with (first | ((with_reducible refine gate_dst (N := 30) rfl ?_); (try (refine gate_guard (by rfl) ?_; dsimp only)); refine ld_event rfl rfl (by first | rfl | (go_simp; done) | (go_simp; rfl)) Try.underlying26 trivial (.slice (some ad) l6.length c6) ((blk_cell BK1.out 6).trans rfl) ?_))
      refine start_ (n := 27) (S := fun w' => w'.heap[g1]? = some (.cells #[.string d0, .int .i64 d1, .int .i64 d2, .int .i64 d3, .slice A4 l4.length c4, .slice A5 l5.length c5, .slice (some ad) l6.length c6, .int .i64 a0, .string a1, .string a2, .string a3, .int .i64 a4, .int .i64 a5, .int .i64 a6, .int .i64 a7, .int .i64 a8, .int .i64 a9, .int .i64 a10, .int .i64 a11, .int .i64 a12, .int .i64 a13, .int .i64 a14, .int .i64 a15, .int .i64 a16, .int .i64 a17, .int .i64 a18, .int .i64 a19, .int .i64 a20, .slice A7 l7.length c7, .slice A8 l8.length c8] 36 (0, 0)) ∧ w'.heap[g2]? = some (.cells #[.string ⟨#[]⟩, .int .i64 0, .int .i64 0, .int .i64 0, .slice none 0 0, .slice none 0 0, .slice none 0 0, .int .i64 0, .string ⟨#[]⟩, .string ⟨#[]⟩, .string ⟨#[]⟩, .int .i64 0, .int .i64 0, .int .i64 0, .int .i64 0, .int .i64 0, .int .i64 0, .int .i64 0, .int .i64 0, .int .i64 0, .int .i64 0, .int .i64 0, .int .i64 0, .int .i64 0, .int .i64 0, .int .i64 0, .int .i64 0, .int .i64 0, .slice none 0 0, .slice none 0 0] 36 (0, 0)) ∧ w'.heap[g3]? = some (.cells #[.string d0, .int .i64 d1, .int .i64 d2, .int .i64 d3, .slice B4 l4.length e4, .slice B5 l5.length e5, (.slice Au_ xs.length cu_), .int .i64 a0, .string a1, .string a2, .string a3, .int .i64 a4, .int .i64 a5, .int .i64 a6, .int .i64 a7, .int .i64 a8, .int .i64 a9, .int .i64 a10, .int .i64 a11, .int .i64 a12, .int .i64 a13, .int .i64 a14, .int .i64 a15, .int .i64 a16, .int .i64 a17, .int .i64 a18, .int .i64 a19, .int .i64 a20, .slice B7 l7.length e7, .slice B8 l8.length e8] 36 (0, 0)) ∧ w'.cell? (ad.add (i_.toNat * 7)) = some (.string (rd_T56 l6 i_).f0) ∧ w'.cell? ⟨(ad.add (i_.toNat * 7)).block, (ad.add (i_.toNat * 7)).off + 1, none⟩ = some (.slice B1e (rd_T56 l6 i_).f1.length d1e) ∧ CSat w' ⟨(ad.add (i_.toNat * 7)).block, (ad.add (i_.toNat * 7)).off + 2, none⟩ [.int .i64 (rd_T56 l6 i_).f2.f0, .int .i64 (rd_T56 l6 i_).f2.f1, .string (rd_T56 l6 i_).f2.f2, .slice B5e (rd_T56 l6 i_).f2.f3.length d5e, .slice B6e (rd_T56 l6 i_).f2.f4.length d6e]) (ds := [24, 26]) #[false, false, false, false, false, false, false, false, false, false, false, false, false, false, false, false, false, false, false, false, false, false, false, false, false, false, false] (by kernel_rfl) rfl rfl ⟨blk_below BK1.out (below_drew1 (Below.refl _ _)), blk_below BK2.out (below_drew1 (Below.refl _ _)), blk_below BK3.out (below_drew1 (Below.refl _ _)), (((below_drew1 (Below.refl _ _))).cell (World.block_lt_of_cell? _ _ HX0.out)).trans HX0.out, (((below_drew1 (Below.refl _ _))).cell (World.block_lt_of_cell? _ _ HX1.out)).trans HX1.out, CSat.below HCS.out (below_drew1 (Below.refl _ _))⟩ (fun hHeld => ?_)
      have n0_ := Aside0.mk (below_drew1 HB.out)
      have n1_ := Aside0.mk (blk_drew BK1.out)
      have n2_ := Aside0.mk (blk_drew BK2.out)
      have n3_ := Aside0.mk (blk_drew BK3.out)
      have n4_ := Aside0.mk (Kd.Fr.below FR4.out (below_drew1 (Below.refl _ _)))
      have n5_ := Aside0.mk (Kd.Fr.below FR5.out (below_drew1 (Below.refl _ _)))
      have n6_ := Aside0.mk (Kd.Fr.below FR7.out (below_drew1 (Below.refl _ _)))
      have n7_ := Aside0.mk (Kd.Fr.below FR8.out (below_drew1 (Below.refl _ _)))
      have n8_ := Aside0.mk (Kd.R_drew RO.out)
      have n9_ := Aside0.mk ((((below_drew1 (Below.refl _ _))).cell (World.block_lt_of_cell? _ _ HX0.out)).trans HX0.out)
      have n10_ := Aside0.mk ((((below_drew1 (Below.refl _ _))).cell (World.block_lt_of_cell? _ _ HX1.out)).trans HX1.out)
      have n11_ := Aside0.mk (CSat.below HCS.out (below_drew1 (Below.refl _ _)))
      clear HB BK1 BK2 BK3 FR4 FR5 FR7 FR8 RO HX0 HX1 HCS
      have HB := n0_
      have BK1 := n1_
      have BK2 := n2_
      have BK3 := n3_
      have FR4 := n4_
      have FR5 := n5_
      have FR7 := n6_
      have FR8 := n7_
      have RO := n8_
      have HX0 := n9_
      have HX1 := n10_
      have HCS := n11_
      clear n0_ n1_ n2_ n3_ n4_ n5_ n6_ n7_ n8_ n9_ n10_ n11_
      generalize wr.drew = wv14_ at HB BK1 BK2 BK3 FR4 FR5 FR7 FR8 RO HX0 HX1 HCS hHeld ⊢
      refine pure_ (i := 0) (N := some 35) (v := ?_) (a' := ?_) #[true, false, false, false, false, false, false, false, false, false, false, false, false, false, false, false, false, false, false, false, false, false, false, false, false, false, false] rfl rfl (by kernel_rfl) (fun _ _ _ h => h) (Or.inl ⟨by rfl, ?_⟩) ?_ ?_
      rotate_left
      · intro w'
        go_simp
        with_reducible rfl
      rotate_left
      · simp only [Act.put, List.setIfInBounds_toArray, List.set_cons_zero, List.set_cons_succ, i64_w, i32_w]
        rfl
      refine pure_ (i := 2) (N := some 37) (v := ?_) (a' := ?_) #[true, false, true, false, false, false, false, false, false, false, false, false, false, false, false, false, false, false, false, false, false, false, false, false, false, false, false] rfl rfl (by kernel_rfl) (fun _ _ _ h => h) (Or.inl ⟨by rfl, ?_⟩) ?_ ?_
      rotate_left
      · intro w'
        go_simp
        with_reducible rfl
      rotate_left
      · simp only [Act.put, List.setIfInBounds_toArray, List.set_cons_zero, List.set_cons_succ, i64_w, i32_w]
        rfl
      refine pure_ (i := 4) (N := some 39) (v := ?_) (a' := ?_) #[true, false, true, false, true, false, false, false, false, false, false, false, false, false, false, false, false, false, false, false, false, false, false, false, false, false, false] rfl rfl (by kernel_rfl) (fun _ _ _ h => h) (Or.inl ⟨by rfl, ?_⟩) ?_ ?_
      rotate_left
      · intro w'
        go_simp
        with_reducible rfl
      rotate_left
      · simp only [Act.put, List.setIfInBounds_toArray, List.set_cons_zero, List.set_cons_succ, i64_w, i32_w]
        rfl
      refine pure_ (i := 8) (N := some 43) (v := ?_) (a' := ?_) #[true, false, true, false, true, false, false, false, true, false, false, false, false, false, false, false, false, false, false, false, false, false, false, false, false, false, false] rfl rfl (by kernel_rfl) (fun _ _ _ h => h) (Or.inl ⟨by rfl, ?_⟩) ?_ ?_
      rotate_left
      · intro w'
        go_simp
        with_reducible rfl
      rotate_left
      · simp only [Act.put, List.setIfInBounds_toArray, List.set_cons_zero, List.set_cons_succ, i64_w, i32_w]
        rfl
      refine pure_ (i := 10) (N := some 45) (v := ?_) (a' := ?_) #[true, false, true, false, true, false, false, false, true, false, true, false, false, false, false, false, false, false, false, false, false, false, false, false, false, false, false] rfl rfl (by kernel_rfl) (fun _ _ _ h => h) (Or.inl ⟨by rfl, ?_⟩) ?_ ?_
      rotate_left
      · intro w'
        go_simp
        with_reducible rfl
      rotate_left
      · simp only [Act.put, List.setIfInBounds_toArray, List.set_cons_zero, List.set_cons_succ, i64_w, i32_w]
        rfl
      refine pure_ (i := 15) (N := some 50) (v := ?_) (a' := ?_) #[true, false, true, false, true, false, false, false, true, false, true, false, false, false, false, true, false, false, false, false, false, false, false, false, false, false, false] rfl rfl (by kernel_rfl) (fun _ _ _ h => h) (Or.inl ⟨by rfl, ?_⟩) ?_ ?_
      rotate_left
      · intro w'
        go_simp
        with_reducible rfl
      rotate_left
      · simp only [Act.put, List.setIfInBounds_toArray, List.set_cons_zero, List.set_cons_succ, i64_w, i32_w]
        rfl
      refine pure_ (i := 17) (N := some 52) (v := ?_) (a' := ?_) #[true, false, true, false, true, false, false, false, true, false, true, false, false, false, false, true, false, true, false, false, false, false, false, false, false, false, false] rfl rfl (by kernel_rfl) (fun _ _ _ h => h) (Or.inl ⟨by rfl, ?_⟩) ?_ ?_
      rotate_left
      · intro w'
        go_simp
        with_reducible rfl
      rotate_left
      · simp only [Act.put, List.setIfInBounds_toArray, List.set_cons_zero, List.set_cons_succ, i64_w, i32_w]
        rfl
      refine take_ (i := 1) (N := some 36) (v := ?_) (a' := ?_) #[true, true, true, false, true, false, false, false, true, false, true, false, false, false, false, true, false, true, false, false, false, false, false, false, false, false, false] rfl rfl (by kernel_rfl) (fun _ _ _ h => h) (Or.inl ⟨by rfl, ?_⟩) hHeld ?_ ?_
      rotate_left
      · rintro w' ⟨s1, s2, s3, x0, x1, x2⟩
        refine Eq.trans (ld_run rfl (by first | rfl | (go_simp; done) | (go_simp; rfl)) Try.underlying26 trivial ((.slice Au_ xs.length cu_)) ((blk_cell s3 6).trans rfl)) ?_
        with_reducible rfl
      rotate_left
      · simp only [Act.put, List.setIfInBounds_toArray, List.set_cons_zero, List.set_cons_succ, i64_w, i32_w]
        rfl
      refine take_ (i := 3) (N := some 38) (v := ?_) (a' := ?_) #[true, true, true, true, true, false, false, false, true, false, true, false, false, false, false, true, false, true, false, false, false, false, false, false, false, false, false] rfl rfl (by kernel_rfl) (fun _ _ _ h => h) (Or.inl ⟨by rfl, ?_⟩) hHeld ?_ ?_
      rotate_left
      · rintro w' ⟨s1, s2, s3, x0, x1, x2⟩
        refine Eq.trans (ld_run rfl (by first | rfl | (go_simp; done) | (go_simp; rfl)) Try.underlying26 trivial (.slice (some ad) l6.length c6) ((blk_cell s1 6).trans rfl)) ?_
        with_reducible rfl
      rotate_left
      · simp only [Act.put, List.setIfInBounds_toArray, List.set_cons_zero, List.set_cons_succ, i64_w, i32_w]
        rfl
      refine take_ (i := 9) (N := some 44) (v := ?_) (a' := ?_) #[true, true, true, true, true, false, false, false, true, true, true, false, false, false, false, true, false, true, false, false, false, false, false, false, false, false, false] rfl rfl (by kernel_rfl) (fun _ _ _ h => h) (Or.inl ⟨by rfl, ?_⟩) hHeld ?_ ?_
      rotate_left
      · rintro w' ⟨s1, s2, s3, x0, x1, x2⟩
        refine Eq.trans (ld_run rfl (by first | rfl | (go_simp; done) | (go_simp; rfl)) Try.underlying26 trivial (.slice (some ad) l6.length c6) ((blk_cell s1 6).trans rfl)) ?_
        with_reducible rfl
      rotate_left
      · simp only [Act.put, List.setIfInBounds_toArray, List.set_cons_zero, List.set_cons_succ, i64_w, i32_w]
        rfl
      refine take_ (i := 16) (N := some 51) (v := ?_) (a' := ?_) #[true, true, true, true, true, false, false, false, true, true, true, false, false, false, false, true, true, true, false, false, false, false, false, false, false, false, false] rfl rfl (by kernel_rfl) (fun _ _ _ h => h) (Or.inl ⟨by rfl, ?_⟩) hHeld ?_ ?_
      rotate_left
      · rintro w' ⟨s1, s2, s3, x0, x1, x2⟩
        refine Eq.trans (ld_run rfl (by first | rfl | (go_simp; done) | (go_simp; rfl)) Try.underlying26 trivial (.slice (some ad) l6.length c6) ((blk_cell s1 6).trans rfl)) ?_
        with_reducible rfl
      rotate_left
      · simp only [Act.put, List.setIfInBounds_toArray, List.set_cons_zero, List.set_cons_succ, i64_w, i32_w]
        rfl
      refine pure_ (i := 5) (N := some 40) (v := ?_) (a' := ?_) #[true, true, true, true, true, true, false, false, true, true, true, false, false, false, false, true, true, true, false, false, false, false, false, false, false, false, false] rfl rfl (by kernel_rfl) (fun _ _ _ h => h) (Or.inl ⟨by rfl, ?_⟩) ?_ ?_
      rotate_left
      · intro w'
        go_simp
        with_reducible rfl
      rotate_left
      · simp only [Act.put, List.setIfInBounds_toArray, List.set_cons_zero, List.set_cons_succ, i64_w, i32_w]
        rfl
      refine pure_ (i := 6) (N := some 41) (v := ?_) (a' := ?_) #[true, true, true, true, true, true, true, false, true, true, true, false, false, false, false, true, true, true, false, false, false, false, false, false, false, false, false] rfl rfl (by kernel_rfl) (fun _ _ _ h => h) (Or.inl ⟨by rfl, ?_⟩) ?_ ?_
      rotate_left
      · intro w'
        go_simp
        with_reducible rfl
      rotate_left
      · simp only [Act.put, List.setIfInBounds_toArray, List.set_cons_zero, List.set_cons_succ, i64_w, i32_w]
        rfl
      refine pure_ (i := 11) (N := some 46) (v := ?_) (a' := ?_) #[true, true, true, true, true, true, true, false, true, true, true, true, false, false, false, true, true, true, false, false, false, false, false, false, false, false, false] rfl rfl (by kernel_rfl) (fun _ _ _ h => h) (Or.inl ⟨by rfl, ?_⟩) ?_ ?_
      rotate_left
      · intro w'
        go_simp
        with_reducible rfl
      rotate_left
      · simp only [Act.put, List.setIfInBounds_toArray, List.set_cons_zero, List.set_cons_succ, i64_w, i32_w]
        rfl
      refine pure_ (i := 12) (N := some 47) (v := ?_) (a' := ?_) #[true, true, true, true, true, true, true, false, true, true, true, true, true, false, false, true, true, true, false, false, false, false, false, false, false, false, false] rfl rfl (by kernel_rfl) (fun _ _ _ h => h) (Or.inl ⟨by rfl, ?_⟩) ?_ ?_
      rotate_left
      · intro w'
        go_simp
        with_reducible rfl
      rotate_left
      · simp only [Act.put, List.setIfInBounds_toArray, List.set_cons_zero, List.set_cons_succ, i64_w, i32_w]
        rfl
      refine pure_ (i := 18) (N := some 53) (v := ?_) (a' := ?_) #[true, true, true, true, true, true, true, false, true, true, true, true, true, false, false, true, true, true, true, false, false, false, false, false, false, false, false] rfl rfl (by kernel_rfl) (fun _ _ _ h => h) (Or.inl ⟨by rfl, ?_⟩) ?_ ?_
      rotate_left
      · intro w'
        go_simp
        with_reducible rfl
      rotate_left
      · simp only [Act.put, List.setIfInBounds_toArray, List.set_cons_zero, List.set_cons_succ, i64_w, i32_w]
        rfl
      refine pure_ (i := 19) (N := some 54) (v := ?_) (a' := ?_) #[true, true, true, true, true, true, true, false, true, true, true, true, true, false, false, true, true, true, true, true, false, false, false, false, false, false, false] rfl rfl (by kernel_rfl) (fun _ _ _ h => h) (Or.inl ⟨by rfl, ?_⟩) ?_ ?_
      rotate_left
      · intro w'
        go_simp
        with_reducible rfl
      rotate_left
      · simp only [Act.put, List.setIfInBounds_toArray, List.set_cons_zero, List.set_cons_succ, i64_w, i32_w]
        rfl
      refine take_ (i := 7) (N := some 42) (v := ?_) (a' := ?_) #[true, true, true, true, true, true, true, true, true, true, true, true, true, false, false, true, true, true, true, true, false, false, false, false, false, false, false] rfl rfl (by kernel_rfl) (fun _ _ _ h => h) (Or.inl ⟨by rfl, ?_⟩) hHeld ?_ ?_
      rotate_left
      · rintro w' ⟨s1, s2, s3, x0, x1, x2⟩
        refine Eq.trans (ld_run rfl (by first | rfl | (go_simp; done) | (go_simp; rfl)) Try.underlying9 trivial (.string (rd_T56 l6 i_).f0) x0) ?_
        with_reducible rfl
      rotate_left
      · simp only [Act.put, List.setIfInBounds_toArray, List.set_cons_zero, List.set_cons_succ, i64_w, i32_w]
        rfl
      refine take_ (i := 13) (N := some 48) (v := ?_) (a' := ?_) #[true, true, true, true, true, true, true, true, true, true, true, true, true, true, false, true, true, true, true, true, false, false, false, false, false, false, false] rfl rfl (by kernel_rfl) (fun _ _ _ h => h) (Or.inl ⟨by rfl, ?_⟩) hHeld ?_ ?_
      rotate_left
      · rintro w' ⟨s1, s2, s3, x0, x1, x2⟩
        refine Eq.trans (ld_run rfl (by first | rfl | (go_simp; done) | (go_simp; rfl)) Try.underlying25 trivial (.slice B1e (rd_T56 l6 i_).f1.length d1e) x1) ?_
        with_reducible rfl
      rotate_left
      · simp only [Act.put, List.setIfInBounds_toArray, List.set_cons_zero, List.set_cons_succ, i64_w, i32_w]
        rfl
      refine take_ (i := 20) (N := some 55) (v := ?_) (a' := ?_) #[true, true, true, true, true, true, true, true, true, true, true, true, true, true, false, true, true, true, true, true, true, false, false, false, false, false, false] rfl rfl (by kernel_rfl) (fun _ _ _ h => h) (Or.inl ⟨by rfl, ?_⟩) hHeld ?_ ?_
      rotate_left
      · rintro w' ⟨s1, s2, s3, x0, x1, x2⟩
        refine Eq.trans (lds_run rfl (by first | rfl | (go_simp; done) | (go_simp; rfl)) Try.underlying54 ⟨_, rfl⟩ [.int .i64 (rd_T56 l6 i_).f2.f0, .int .i64 (rd_T56 l6 i_).f2.f1, .string (rd_T56 l6 i_).f2.f2, .slice B5e (rd_T56 l6 i_).f2.f3.length d5e, .slice B6e (rd_T56 l6 i_).f2.f4.length d6e] size54 x2) ?_
        with_reducible rfl
      rotate_left
      · simp only [Act.put, List.setIfInBounds_toArray, List.set_cons_zero, List.set_cons_succ, i64_w, i32_w]
        rfl
      have HLT := Aside0.mk (Kd.R_lt RO.out)
      obtain ⟨bs_, hbs_⟩ : ∃ n, n = wv14_.heap.size := ⟨_, rfl⟩
      have HBS := Aside0.mk hbs_
      clear hbs_
      have HG3 := Aside0.mk (show g3 < bs_ by rw [HBS.out]; exact blk_lt BK3.out)
      refine one_ (i := 14) (N := some 49) #[true, true, true, true, true, true, true, true, true, true, true, true, true, true, true, true, true, true, true, true, true, false, false, false, false, false, false] rfl rfl (by kernel_rfl) (by decide) (fun K hK => ?_)
      refine goes_ Try.func19 (by kernel_rfl) rfl #[.slice B1e (rd_T56 l6 i_).f1.length d1e] (by rfl) rfl rfl (by (try simp only [List.map_toArray, List.map_cons, List.map_nil]); first | done | rfl) ?_
      with_reducible refine (names.calls B1e d1e (rd_T56 l6 i_).f1 _ (Kd.C_below HE1.out HB.out) HE1c.out (HS.out _ HM.out).1).mono ?_
      rintro e wv15_ ⟨u1, rfl, hF1, hb⟩
      obtain ⟨D1, e1, rfl, _, _, _⟩ := Kd.sB_read (Kd.Fr.K hF1)
      rw [← HBS.out] at hF1
      have HBS2 := Aside0.mk (show bs_ ≤ _ from (by rw [HBS.out]; exact hb.size))
      refine ⟨_, rfl, ?_⟩
      have n0_ := Aside0.mk (below_step HB.out hb)
      have n1_ := Aside0.mk (blk_below BK1.out hb)
      have n2_ := Aside0.mk (blk_below BK2.out hb)
      have n3_ := Aside0.mk (blk_below BK3.out hb)
      have n4_ := Aside0.mk (Kd.Fr.below FR4.out hb)
      have n5_ := Aside0.mk (Kd.Fr.below FR5.out hb)
      have n6_ := Aside0.mk (Kd.Fr.below FR7.out hb)
      have n7_ := Aside0.mk (Kd.Fr.below FR8.out hb)
      have n8_ := Aside0.mk (Kd.R_below RO.out hb)
      have n9_ := Aside0.mk (((hb).cell (World.block_lt_of_cell? _ _ HX0.out)).trans HX0.out)
      have n10_ := Aside0.mk (((hb).cell (World.block_lt_of_cell? _ _ HX1.out)).trans HX1.out)
      have n11_ := Aside0.mk (CSat.below HCS.out hb)
      have n12_ := Aside0.mk (hF1)
      clear HB BK1 BK2 BK3 FR4 FR5 FR7 FR8 RO HX0 HX1 HCS
      have HB := n0_
      have BK1 := n1_
      have BK2 := n2_
      have BK3 := n3_
      have FR4 := n4_
      have FR5 := n5_
      have FR7 := n6_
      have FR8 := n7_
      have RO := n8_
      have HX0 := n9_
      have HX1 := n10_
      have HCS := n11_
      have HF1 := n12_
      clear n0_ n1_ n2_ n3_ n4_ n5_ n6_ n7_ n8_ n9_ n10_ n11_ n12_
      clear hb hF1
      refine hK.out _ _ ⟨BK1.out, BK2.out, BK3.out, HX0.out, HX1.out, HCS.out⟩ (fun hHeld => ?_)
      clear hK K
      refine norm_ (a' := ?_) ?_ ?_
      rotate_left
      · show Act.put _ (some 49) _ = _
        simp only [Act.put, List.setIfInBounds_toArray, List.set_cons_zero, List.set_cons_succ, i64_w, i32_w]
        rfl
      refine one_ (i := 21) (N := some 56) #[true, true, true, true, true, true, true, true, true, true, true, true, true, true, true, true, true, true, true, true, true, true, false, false, false, false, false] rfl rfl (by kernel_rfl) (by decide) (fun K hK => ?_)
      refine goes_ Try.func21 (by kernel_rfl) rfl #[.agg #[.int .i64 (rd_T56 l6 i_).f2.f0, .int .i64 (rd_T56 l6 i_).f2.f1, .string (rd_T56 l6 i_).f2.f2, .slice B5e (rd_T56 l6 i_).f2.f3.length d5e, .slice B6e (rd_T56 l6 i_).f2.f4.length d6e]] (by rfl) rfl rfl (by (try simp only [List.map_toArray, List.map_cons, List.map_nil]); first | done | rfl) ?_
      with_reducible refine (expr.calls _ _ _ (rd_T56 l6 i_).f2.f3 (rd_T56 l6 i_).f2.f4 (HS.out _ HM.out).2.1 B5e d5e B6e d6e _ (Kd.C_below HE5.out HB.out) HE5c.out (HS.out _ HM.out).2.2 (Kd.C_below HE6.out HB.out) HE6c.out).mono ?_
      rintro e wv16_ ⟨u3, u4, rfl, hF3, hF4, hb⟩
      obtain ⟨D3, e3, rfl, _, _, _⟩ := Kd.sB_read (Kd.Fr.K hF3)
      obtain ⟨D4, e4_, rfl, _, _, _⟩ := Kd.sB_read (Kd.Fr.K hF4)
      have HF3 := Aside0.mk (Kd.Fr.lower hF3 HBS2.out)
      have HF4 := Aside0.mk (Kd.Fr.lower hF4 HBS2.out)
      have ASZ := Aside0.mk (Nat.le_trans (Nat.succ_le_of_lt HG3.out) (Nat.le_trans HBS2.out hb.size))
      refine ⟨_, rfl, ?_⟩
      have n0_ := Aside0.mk (below_step HB.out hb)
      have n1_ := Aside0.mk (blk_below BK1.out hb)
      have n2_ := Aside0.mk (blk_below BK2.out hb)
      have n3_ := Aside0.mk (blk_below BK3.out hb)
      have n4_ := Aside0.mk (Kd.Fr.below FR4.out hb)
      have n5_ := Aside0.mk (Kd.Fr.below FR5.out hb)
      have n6_ := Aside0.mk (Kd.Fr.below FR7.out hb)
      have n7_ := Aside0.mk (Kd.Fr.below FR8.out hb)
      have n8_ := Aside0.mk (Kd.Fr.below HF1.out hb)
      have n9_ := Aside0.mk (Kd.R_below RO.out hb)
      have n10_ := Aside0.mk (((hb).cell (World.block_lt_of_cell? _ _ HX0.out)).trans HX0.out)
      have n11_ := Aside0.mk (((hb).cell (World.block_lt_of_cell? _ _ HX1.out)).trans HX1.out)
      have n12_ := Aside0.mk (CSat.below HCS.out hb)
      clear HB BK1 BK2 BK3 FR4 FR5 FR7 FR8 HF1 RO HX0 HX1 HCS
      have HB := n0_
      have BK1 := n1_
      have BK2 := n2_
      have BK3 := n3_
      have FR4 := n4_
      have FR5 := n5_
      have FR7 := n6_
      have FR8 := n7_
      have HF1 := n8_
      have RO := n9_
      have HX0 := n10_
      have HX1 := n11_
      have HCS := n12_
      clear n0_ n1_ n2_ n3_ n4_ n5_ n6_ n7_ n8_ n9_ n10_ n11_ n12_
      clear hb hF3 hF4
      refine hK.out _ _ ⟨BK1.out, BK2.out, BK3.out, HX0.out, HX1.out, HCS.out⟩ (fun hHeld => ?_)
      clear hK K
      refine norm_ (a' := ?_) ?_ ?_
      rotate_left
      · show Act.put _ (some 56) _ = _
        simp only [Act.put, List.setIfInBounds_toArray, List.set_cons_zero, List.set_cons_succ, i64_w, i32_w]
        rfl
      refine pure_ (i := 22) (N := some 57) (v := ?_) (a' := ?_) #[true, true, true, true, true, true, true, true, true, true, true, true, true, true, true, true, true, true, true, true, true, true, true, false, false, false, false] rfl rfl (by kernel_rfl) (fun _ _ _ h => h) (Or.inl ⟨by rfl, ?_⟩) ?_ ?_
      rotate_left
      · intro w'
        go_simp
        with_reducible rfl
      rotate_left
      · simp only [Act.put, List.setIfInBounds_toArray, List.set_cons_zero, List.set_cons_succ, i64_w, i32_w]
        rfl
      refine one_ (i := 23) (N := some 58) #[true, true, true, true, true, true, true, true, true, true, true, true, true, true, true, true, true, true, true, true, true, true, true, true, false, false, false] rfl rfl (by kernel_rfl) (by decide) (fun K hK => ?_)
      refine value_ (w1 := ?_) (v := ?_) (by rfl) rfl ?_ ?_
      rotate_left 2
      · go_simp
        constructor
        · rfl
        · rfl
      refine hK.out _ _ ⟨blk_below BK1.out (below_alloc (Below.refl _ _) _), blk_below BK2.out (below_alloc (Below.refl _ _) _), blk_below BK3.out (below_alloc (Below.refl _ _) _), (((below_alloc (Below.refl _ _) _)).cell (World.block_lt_of_cell? _ _ HX0.out)).trans HX0.out, (((below_alloc (Below.refl _ _) _)).cell (World.block_lt_of_cell? _ _ HX1.out)).trans HX1.out, CSat.below HCS.out (below_alloc (Below.refl _ _) _)⟩ (fun hHeld => ?_)
      clear hK K
      refine norm_ (a' := ?_) ?_ ?_
      rotate_left
      · show Act.put _ (some 58) _ = _
        simp only [Act.put, List.setIfInBounds_toArray, List.set_cons_zero, List.set_cons_succ, i64_w, i32_w]
        rfl
      refine last_ (i := 24) (N := some 59) #[true, true, true, true, true, true, true, true, true, true, true, true, true, true, true, true, true, true, true, true, true, true, true, true, true, false, false] rfl rfl (by kernel_rfl) (by decide) (fun K hK => ?_)
      have HRB := Aside0.mk (Kd.R_base RO.out)
      have HRT := Aside0.mk (Kd.R_typed RO.out)
      refine Kd.R_append_step k56B (g3 + 1) (by rfl) (.tmp 36) (.tmp 58) 26 56 (.agg #[.string ⟨#[]⟩, .slice none 0 0, .int .i64 0, .int .i64 0, .string ⟨#[]⟩, .slice none 0 0, .slice none 0 0]) 120 rfl Try.underlying26 info56 rfl (by decide) (by decide) (.slice Au_ xs.length cu_) xs (rd_T56 l6 i_) [.string (rd_T56 l6 i_).f0, .slice D1 (rd_T56 l6 i_).f1.length e1, .int .i64 (rd_T56 l6 i_).f2.f0, .int .i64 (rd_T56 l6 i_).f2.f1, .string (rd_T56 l6 i_).f2.f2, .slice D3 (rd_T56 l6 i_).f2.f3.length e3, .slice D4 (rd_T56 l6 i_).f2.f4.length e4_] (fun k => g3 + 1 ≤ k) (fun k => bs_ ≤ k) rfl (by first | rfl | (go_simp; done) | (go_simp; rfl)) ?aP (fun k hk => ⟨Nat.le_trans HG3.out hk, fun he => by have := HLT.out k he.symm; rw [← HBS.out] at this; omega⟩) ?aF ?aO (Below.refl _ _) ?aS ?aL ?_
      (case aP => exact k56B_mkM _ _ _ (rd_T56 l6 i_) (Kd.M_lower _ HG3.out HF1.out) (k54B_mkM _ _ _ (rd_T56 l6 i_).f2 (Kd.M_lower _ HG3.out HF3.out) (Kd.M_lower _ HG3.out HF4.out)))
      (case aF => exact (fun k hk => Nat.le_trans ASZ.out hk))
      (case aO => exact (by (with_reducible repeat (first | apply Kd.R_alloc | apply Kd.R_drewN | apply Kd.R_drew)); exact RO.out))
      (case aS => exact ASZ.out)
      (case aL => have := HXL.out; have := HL6.out; have := HQ.out; omega)
      intro v9_ wv17_ ho hb hg hat
      obtain ⟨A9_, c9_, rfl⟩ := Kd.R_slice ho
      have n0_ := Aside0.mk (below_weaken HB.out (by have := ORD.out; omega) hb)
      have n1_ := Aside0.mk (blk_grown BK1.out hg (fun he => by have := HRB.out _ he.symm; have := ORD.out; omega))
      have n2_ := Aside0.mk (blk_grown BK2.out hg (fun he => by have := HRB.out _ he.symm; have := ORD.out; omega))
      have n3_ := Aside0.mk (blk_grown BK3.out hg (fun he => by have := HRB.out _ he.symm; have := ORD.out; omega))
      have n4_ := Aside0.mk (Kd.Fr.typed FR4.out hg HRT.out (by decide))
      have n5_ := Aside0.mk (Kd.Fr.typed FR5.out hg HRT.out (by decide))
      have n6_ := Aside0.mk (Kd.Fr.typed FR7.out hg HRT.out (by decide))
      have n7_ := Aside0.mk (Kd.Fr.typed FR8.out hg HRT.out (by decide))
      have n8_ := Aside0.mk (Kd.Fr.typed HF1.out hg HRT.out (by decide))
      have n9_ := Aside0.mk (ho)
      clear HB BK1 BK2 BK3 FR4 FR5 FR7 FR8 HF1 RO
      have HB := n0_
      have BK1 := n1_
      have BK2 := n2_
      have BK3 := n3_
      have FR4 := n4_
      have FR5 := n5_
      have FR7 := n6_
      have FR8 := n7_
      have HF1 := n8_
      have RO := n9_
      clear n0_ n1_ n2_ n3_ n4_ n5_ n6_ n7_ n8_ n9_
      clear ho hb hg hat HRB HRT
      refine hK.out _ _ ?_
      clear hK K
      refine norm_ (a' := ?_) ?_ ?_
      rotate_left
      · show Act.put _ (some 59) _ = _
        simp only [Act.put, List.setIfInBounds_toArray, List.set_cons_zero, List.set_cons_succ, i64_w, i32_w]
        rfl
      refine pure_ (i := 25) (N := some 60) (v := ?_) (a' := ?_) #[true, true, true, true, true, true, true, true, true, true, true, true, true, true, true, true, true, true, true, true, true, true, true, true, true, true, false] rfl rfl (by kernel_rfl) (fun _ _ _ h => h) (Or.inl ⟨by rfl, ?_⟩) ?_ ?_
      rotate_left
      · intro w'
        go_simp
        with_reducible rfl
      rotate_left
      · simp only [Act.put, List.setIfInBounds_toArray, List.set_cons_zero, List.set_cons_succ, i64_w, i32_w]
        rfl
      refine last_ (i := 26) (N := none) #[true, true, true, true, true, true, true, true, true, true, true, true, true, true, true, true, true, true, true, true, true, true, true, true, true, true, true] rfl rfl (by kernel_rfl) (by decide) (fun K hK => ?_)
      refine st_step (by rfl) rfl rfl (g := g3) (j := 6) (by first | rfl | (go_simp; done) | (go_simp; rfl)) (u := (.slice A9_ (xs ++ [(rd_T56 l6 i_)]).length c9_)) (by first | rfl | (go_simp; done) | (go_simp; rfl)) BK3.out 1 size26 rfl (by simp) (by intro x hx; simp [Value.cells] at hx; rcases hx with rfl <;> rfl) #[.string d0, .int .i64 d1, .int .i64 d2, .int .i64 d3, .slice B4 l4.length e4, .slice B5 l5.length e5, (.slice A9_ (xs ++ [(rd_T56 l6 i_)]).length c9_), .int .i64 a0, .string a1, .string a2, .string a3, .int .i64 a4, .int .i64 a5, .int .i64 a6, .int .i64 a7, .int .i64 a8, .int .i64 a9, .int .i64 a10, .int .i64 a11, .int .i64 a12, .int .i64 a13, .int .i64 a14, .int .i64 a15, .int .i64 a16, .int .i64 a17, .int .i64 a18, .int .i64 a19, .int .i64 a20, .slice B7 l7.length e7, .slice B8 l8.length e8] rfl ?_
      intro wv18_ hbk ho
      have n0_ := Aside0.mk (Other.below ho HB.out (by have := ORD.out; omega))
      have n1_ := Aside0.mk (Other.blk ho BK1.out (by have := ORD.out; omega))
      have n2_ := Aside0.mk (Other.blk ho BK2.out (by have := ORD.out; omega))
      have n3_ := Aside0.mk (hbk)
      have n4_ := Aside0.mk (Kd.Fr.other FR4.out ho (by have := ORD.out; omega))
      have n5_ := Aside0.mk (Kd.Fr.other FR5.out ho (by have := ORD.out; omega))
      have n6_ := Aside0.mk (Kd.Fr.other FR7.out ho (by have := ORD.out; omega))
      have n7_ := Aside0.mk (Kd.Fr.other FR8.out ho (by have := ORD.out; omega))
      have n8_ := Aside0.mk (Kd.R_step RO.out (fun k hk_ _ => ho.block k (by have := ORD.out; omega)))
      clear HB BK1 BK2 BK3 FR4 FR5 FR7 FR8 RO
      have HB := n0_
      have BK1 := n1_
      have BK2 := n2_
      have BK3 := n3_
      have FR4 := n4_
      have FR5 := n5_
      have FR7 := n6_
      have FR8 := n7_
      have RO := n8_
      clear n0_ n1_ n2_ n3_ n4_ n5_ n6_ n7_ n8_
      clear hbk ho
      refine hK.out _ _ ?_
      clear hK K
      refine norm_ (a' := ?_) ?_ ?_
      rotate_left
      · show Act.put _ (none) _ = _
        simp only [Act.put, List.setIfInBounds_toArray, List.set_cons_zero, List.set_cons_succ, i64_w, i32_w]
        rfl
      refine done_ (by kernel_rfl) ?_
      go_wp2
      go_roundg (gk - 1)
      case measure => have := HQ.out; have := HC_.out; omega
      case rel => exact ⟨i_ + 1, xs ++ [(rd_T56 l6 i_)], _, _, by rw [show wrap64 (i_ + 1) = i_ + 1 from by have := HQ.out; have := HC_.out; unfold wrap64; omega], ⟨by have := HQ.out; have := HC_.out; omega⟩, ⟨by rw [HX.out]; exact HTN.out⟩, RO, FR4, FR5, FR7, FR8, BK1, BK2, BK3, HB⟩
    · have cb : decide (i_ < (l6.length : Int)) = false := decide_eq_false c_
      have hxe : xs = l6 := by rw [HX.out, List.take_of_length_le (by have := HQ.out; omega)]
      clear HX c_
      subst hxe
      have HRB := Aside0.mk (Kd.R_base RO.out)
      have HRT := Aside0.mk (Kd.R_typed RO.out)
      go_upto_region 13 with (first | ((with_reducible refine gate_dst (N := 30) rfl ?_); (try (refine gate_guard (by rfl) ?_; dsimp only)); refine ld_event rfl rfl (by first | rfl | (go_simp; done) | (go_simp; rfl)) Try.underlying26 trivial (.slice (some ad) xs.length c6) ((blk_cell BK1.out 6).trans rfl) ?_) | ((with_reducible refine gate_dst (N := 62) rfl ?_); (try (refine gate_guard (by rfl) ?_; dsimp only)); refine ld_event rfl rfl (by first | rfl | (go_simp; done) | (go_simp; rfl)) Try.underlying26 trivial ((.slice Au_ xs.length cu_)) ((blk_cell BK3.out 6).trans rfl) ?_) | ((with_reducible refine gate_builtin (b := .append) (xs := #[.tmp 62, .tmp 64]) rfl ?_); at_builtin; refine Kd.R_append k56B (g3 + 1) rfl (.tmp 62) (.tmp 64) 26 56 (.agg #[.string ⟨#[]⟩, .slice none 0 0, .int .i64 0, .int .i64 0, .string ⟨#[]⟩, .slice none 0 0, .slice none 0 0]) 120 rfl Try.underlying26 info56 rfl (by decide) (by decide) (.slice Au_ xs.length cu_) xs b56 [.string ⟨#[98, 101, 104, 105, 110, 100]⟩, .slice none 0 0, .int .i64 0, .int .i64 0, .string ⟨#[]⟩, .slice none 0 0, .slice none 0 0] (fun k => g3 + 1 ≤ k) (fun _ => False) rfl (by first | rfl | (go_simp; done) | (go_simp; rfl)) ?aP (fun _ hk => hk.elim) ?aF ?aO (Below.refl _ _) ?aS ?aL ?_; (case aP => exact k56B_mkM _ _ _ b56 (.inl ⟨rfl, rfl⟩) (k54B_mkM _ _ _ z54 (.inl ⟨rfl, rfl⟩) (.inl ⟨rfl, rfl⟩))); (case aF => exact (fun k hk => Nat.le_trans (blk_lt BK3.out) hk)); (case aO => exact (by (with_reducible repeat (first | apply Kd.R_alloc | apply Kd.R_drewN | apply Kd.R_drew)); exact RO.out)); (case aS => exact (blk_lt BK3.out)); (case aL => have := HXL.out; have := HL6.out; have := HQ.out; omega); intro v9_ wv14_ ho hb hg hat; obtain ⟨A9_, c9_, rfl⟩ := Kd.R_slice ho; have n0_ := Aside0.mk (below_weaken HB.out (by have := ORD.out; omega) hb); have n1_ := Aside0.mk (blk_grown BK1.out hg (fun he => by have := HRB.out _ he.symm; have := ORD.out; omega)); have n2_ := Aside0.mk (blk_grown BK2.out hg (fun he => by have := HRB.out _ he.symm; have := ORD.out; omega)); have n3_ := Aside0.mk (blk_grown BK3.out hg (fun he => by have := HRB.out _ he.symm; have := ORD.out; omega)); have n4_ := Aside0.mk (Kd.Fr.typed FR4.out hg HRT.out (by decide)); have n5_ := Aside0.mk (Kd.Fr.typed FR5.out hg HRT.out (by decide)); have n6_ := Aside0.mk (Kd.Fr.typed FR7.out hg HRT.out (by decide)); have n7_ := Aside0.mk (Kd.Fr.typed FR8.out hg HRT.out (by decide)); have n8_ := Aside0.mk (ho); clear HB BK1 BK2 BK3 FR4 FR5 FR7 FR8 RO; have HB := n0_; have BK1 := n1_; have BK2 := n2_; have BK3 := n3_; have FR4 := n4_; have FR5 := n5_; have FR7 := n6_; have FR8 := n7_; have RO := n8_; clear n0_ n1_ n2_ n3_ n4_ n5_ n6_ n7_ n8_; clear ho hb hg hat) | ((with_reducible refine gate_store (t := 26) (p := 66) rfl ?_); refine st_event rfl rfl rfl (g := g3) (j := 6) (by first | rfl | (go_simp; done) | (go_simp; rfl)) (u := (.slice A9_ (xs ++ [b56]).length c9_)) (by first | rfl | (go_simp; done) | (go_simp; rfl)) BK3.out 1 size26 rfl (by simp) (by intro x hx; simp [Value.cells] at hx; rcases hx with rfl <;> rfl) #[.string d0, .int .i64 d1, .int .i64 d2, .int .i64 d3, .slice B4 l4.length e4, .slice B5 l5.length e5, (.slice A9_ (xs ++ [b56]).length c9_), .int .i64 a0, .string a1, .string a2, .string a3, .int .i64 a4, .int .i64 a5, .int .i64 a6, .int .i64 a7, .int .i64 a8, .int .i64 a9, .int .i64 a10, .int .i64 a11, .int .i64 a12, .int .i64 a13, .int .i64 a14, .int .i64 a15, .int .i64 a16, .int .i64 a17, .int .i64 a18, .int .i64 a19, .int .i64 a20, .slice B7 l7.length e7, .slice B8 l8.length e8] rfl ?_; intro wv15_ hbk ho; have n0_ := Aside0.mk (Other.below ho HB.out (by have := ORD.out; omega)); have n1_ := Aside0.mk (Other.blk ho BK1.out (by have := ORD.out; omega)); have n2_ := Aside0.mk (Other.blk ho BK2.out (by have := ORD.out; omega)); have n3_ := Aside0.mk (hbk); have n4_ := Aside0.mk (Kd.Fr.other FR4.out ho (by have := ORD.out; omega)); have n5_ := Aside0.mk (Kd.Fr.other FR5.out ho (by have := ORD.out; omega)); have n6_ := Aside0.mk (Kd.Fr.other FR7.out ho (by have := ORD.out; omega)); have n7_ := Aside0.mk (Kd.Fr.other FR8.out ho (by have := ORD.out; omega)); have n8_ := Aside0.mk (Kd.R_step RO.out (fun k hk_ _ => ho.block k (by have := ORD.out; omega))); clear HB BK1 BK2 BK3 FR4 FR5 FR7 FR8 RO; have HB := n0_; have BK1 := n1_; have BK2 := n2_; have BK3 := n3_; have FR4 := n4_; have FR5 := n5_; have FR7 := n6_; have FR8 := n7_; have RO := n8_; clear n0_ n1_ n2_ n3_ n4_ n5_ n6_ n7_ n8_; clear hbk ho))
      clear HRB HRT
      obtain ⟨_, _, rfl', hlc, _⟩ := Kd.R_reads RO.out
      injection rfl' with e1_ e2_ e3_
      subst e1_ e3_
      clear e2_
      have RO1 := RO.out
      clear RO
      simp only [List.length_append, List.length_singleton] at RO1 hlc BK3
      have HLC := Aside0.mk hlc
      have RO := Aside0.mk RO1
      clear hlc RO1
      go_upto_region 14 with (first | ((with_reducible refine gate_dst (N := 68) rfl ?_); (try (refine gate_guard (by rfl) ?_; dsimp only)); refine ld_event rfl rfl (by first | rfl | (go_simp; done) | (go_simp; rfl)) Try.underlying26 trivial ((.slice A9_ (xs.length + 1) c9_)) ((blk_cell BK3.out 6).trans rfl) ?_) | ((with_reducible refine gate_dst (N := 70) rfl ?_); (try (refine gate_guard (by rfl) ?_; dsimp only)); refine ld_event rfl rfl (by first | rfl | (go_simp; done) | (go_simp; rfl)) Try.underlying26 trivial (.slice (some ad) xs.length c6) ((blk_cell BK1.out 6).trans rfl) ?_) | ((with_reducible refine gate_dst (N := 72) rfl ?_); refine Kd.cut_event rfl 26 56 (.tmp 68) (.tmp 71) rfl Try.underlying26 (by kernel_rfl) (A9_) (_) (c9_) (xs.length) rfl (by first | rfl | (go_simp; done) | (go_simp; rfl)) (by have := HLC.out; omega) ?_) | ((with_reducible refine gate_store (t := 26) (p := 73) rfl ?_); refine st_event rfl rfl rfl (g := g3) (j := 6) (by first | rfl | (go_simp; done) | (go_simp; rfl)) (u := .slice A9_ xs.length c9_) (by first | rfl | (go_simp; done) | (go_simp; rfl)) BK3.out 1 size26 rfl (by simp) (by intro x hx; simp [Value.cells] at hx; rcases hx with rfl <;> rfl) #[.string d0, .int .i64 d1, .int .i64 d2, .int .i64 d3, .slice B4 l4.length e4, .slice B5 l5.length e5, .slice A9_ xs.length c9_, .int .i64 a0, .string a1, .string a2, .string a3, .int .i64 a4, .int .i64 a5, .int .i64 a6, .int .i64 a7, .int .i64 a8, .int .i64 a9, .int .i64 a10, .int .i64 a11, .int .i64 a12, .int .i64 a13, .int .i64 a14, .int .i64 a15, .int .i64 a16, .int .i64 a17, .int .i64 a18, .int .i64 a19, .int .i64 a20, .slice B7 l7.length e7, .slice B8 l8.length e8] rfl ?_; intro wv16_ hbk ho; have n0_ := Aside0.mk (Other.below ho HB.out (by have := ORD.out; omega)); have n1_ := Aside0.mk (Other.blk ho BK1.out (by have := ORD.out; omega)); have n2_ := Aside0.mk (Other.blk ho BK2.out (by have := ORD.out; omega)); have n3_ := Aside0.mk (hbk); have n4_ := Aside0.mk (Kd.Fr.other FR4.out ho (by have := ORD.out; omega)); have n5_ := Aside0.mk (Kd.Fr.other FR5.out ho (by have := ORD.out; omega)); have n6_ := Aside0.mk (Kd.Fr.other FR7.out ho (by have := ORD.out; omega)); have n7_ := Aside0.mk (Kd.Fr.other FR8.out ho (by have := ORD.out; omega)); have n8_ := Aside0.mk (Kd.R_step RO.out (fun k hk_ _ => ho.block k (by have := ORD.out; omega))); clear HB BK1 BK2 BK3 FR4 FR5 FR7 FR8 RO; have HB := n0_; have BK1 := n1_; have BK2 := n2_; have BK3 := n3_; have FR4 := n4_; have FR5 := n5_; have FR7 := n6_; have FR8 := n7_; have RO := n8_; clear n0_ n1_ n2_ n3_ n4_ n5_ n6_ n7_ n8_; clear hbk ho))
      go_wp2_with (first | ((with_reducible refine gate_dst (N := 74) rfl ?_); (try (refine gate_guard (by rfl) ?_; dsimp only)); refine ldb_event rfl rfl (by first | rfl | (go_simp; done) | (go_simp; rfl)) Try.underlying36 ⟨_, rfl⟩ BK3.out 30 size36 [.string d0, .int .i64 d1, .int .i64 d2, .int .i64 d3, .slice B4 l4.length e4, .slice B5 l5.length e5, .slice A9_ xs.length c9_, .int .i64 a0, .string a1, .string a2, .string a3, .int .i64 a4, .int .i64 a5, .int .i64 a6, .int .i64 a7, .int .i64 a8, .int .i64 a9, .int .i64 a10, .int .i64 a11, .int .i64 a12, .int .i64 a13, .int .i64 a14, .int .i64 a15, .int .i64 a16, .int .i64 a17, .int .i64 a18, .int .i64 a19, .int .i64 a20, .slice B7 l7.length e7, .slice B8 l8.length e8] rfl rfl ?_) | ((with_reducible refine gate_store (t := 36) (p := 2) rfl ?_); refine st_event rfl rfl rfl (g := g2) (j := 0) (by first | rfl | (go_simp; done) | (go_simp; rfl)) (u := .agg #[.string d0, .int .i64 d1, .int .i64 d2, .int .i64 d3, .slice B4 l4.length e4, .slice B5 l5.length e5, .slice A9_ xs.length c9_, .int .i64 a0, .string a1, .string a2, .string a3, .int .i64 a4, .int .i64 a5, .int .i64 a6, .int .i64 a7, .int .i64 a8, .int .i64 a9, .int .i64 a10, .int .i64 a11, .int .i64 a12, .int .i64 a13, .int .i64 a14, .int .i64 a15, .int .i64 a16, .int .i64 a17, .int .i64 a18, .int .i64 a19, .int .i64 a20, .slice B7 l7.length e7, .slice B8 l8.length e8]) (by first | rfl | (go_simp; done) | (go_simp; rfl)) BK2.out 30 size36 rfl (by simp) (by intro x hx; simp [Value.cells] at hx; rcases hx with rfl | rfl | rfl | rfl | rfl | rfl | rfl | rfl | rfl | rfl | rfl | rfl | rfl | rfl | rfl | rfl | rfl | rfl | rfl | rfl | rfl | rfl | rfl | rfl | rfl | rfl | rfl | rfl | rfl | rfl <;> rfl) #[.string d0, .int .i64 d1, .int .i64 d2, .int .i64 d3, .slice B4 l4.length e4, .slice B5 l5.length e5, .slice A9_ xs.length c9_, .int .i64 a0, .string a1, .string a2, .string a3, .int .i64 a4, .int .i64 a5, .int .i64 a6, .int .i64 a7, .int .i64 a8, .int .i64 a9, .int .i64 a10, .int .i64 a11, .int .i64 a12, .int .i64 a13, .int .i64 a14, .int .i64 a15, .int .i64 a16, .int .i64 a17, .int .i64 a18, .int .i64 a19, .int .i64 a20, .slice B7 l7.length e7, .slice B8 l8.length e8] rfl ?_; intro wv17_ hbk ho; have n0_ := Aside0.mk (Other.below ho HB.out (by have := ORD.out; omega)); have n1_ := Aside0.mk (Other.blk ho BK1.out (by have := ORD.out; omega)); have n2_ := Aside0.mk (hbk); have n3_ := Aside0.mk (Other.blk ho BK3.out (by have := ORD.out; omega)); have n4_ := Aside0.mk (Kd.Fr.other FR4.out ho (by have := ORD.out; omega)); have n5_ := Aside0.mk (Kd.Fr.other FR5.out ho (by have := ORD.out; omega)); have n6_ := Aside0.mk (Kd.Fr.other FR7.out ho (by have := ORD.out; omega)); have n7_ := Aside0.mk (Kd.Fr.other FR8.out ho (by have := ORD.out; omega)); have n8_ := Aside0.mk (Kd.R_step RO.out (fun k hk_ _ => ho.block k (by have := ORD.out; omega))); clear HB BK1 BK2 BK3 FR4 FR5 FR7 FR8 RO; have HB := n0_; have BK1 := n1_; have BK2 := n2_; have BK3 := n3_; have FR4 := n4_; have FR5 := n5_; have FR7 := n6_; have FR8 := n7_; have RO := n8_; clear n0_ n1_ n2_ n3_ n4_ n5_ n6_ n7_ n8_; clear hbk ho))
      (try simp only [Exit.inBlock, Exit.then])
      refine bodyPost_ret (results_cell_row rfl _ _ g2 36 #[.string d0, .int .i64 d1, .int .i64 d2, .int .i64 d3, .slice B4 l4.length e4, .slice B5 l5.length e5, .slice A9_ xs.length c9_, .int .i64 a0, .string a1, .string a2, .string a3, .int .i64 a4, .int .i64 a5, .int .i64 a6, .int .i64 a7, .int .i64 a8, .int .i64 a9, .int .i64 a10, .int .i64 a11, .int .i64 a12, .int .i64 a13, .int .i64 a14, .int .i64 a15, .int .i64 a16, .int .i64 a17, .int .i64 a18, .int .i64 a19, .int .i64 a20, .slice B7 l7.length e7, .slice B8 l8.length e8] (0, 0) _ rfl BK2.out Try.underlying36 rfl size36) rfl ?_
      exact ⟨_, _, _, _, _, rfl, Kd.Fr.lower FR4.out (by have := ORD.out; omega), Kd.Fr.lower FR5.out (by have := ORD.out; omega), Kd.Fr.lower (b := g3 + 1) (Kd.Fr.of (.inr ⟨A9_, c9_, rfl, RO.out⟩)) (by have := ORD.out; omega), Kd.Fr.lower FR7.out (by have := ORD.out; omega), Kd.Fr.lower FR8.out (by have := ORD.out; omega), HB.out⟩
end Go.Proofs.Ytkfbkjcdngipcaa.PTreeEquals
