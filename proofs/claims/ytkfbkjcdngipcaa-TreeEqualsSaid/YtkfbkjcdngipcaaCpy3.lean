import Derived.Test.YtkfbkjcdngipcaaCpy2
namespace Go.Proofs.Ytkfbkjcdngipcaa.PTreeEquals
open Go.RowKit Go.Proofs.YtkfbkjcdngipcaaW.PrintWords Go.Proofs.YtkfbkjcdngipcaaW.PrintLast Go.Proofs.YtkfbkjcdngipcaaW.PrintMore
attribute [local go_sem] nil24 nil25 nil26 nil31 nil32 nnil24 nnil25 nnil26 nnil31 nnil32 max2_int min2_int max_two min_two max_three min_three max_four min_four
set_option linter.unusedVariables false
set_option linter.unusedSimpArgs false
def ConOK (l7 : List S54) (l8 : List S34) : Prop := ∀ (a0 : Int) (a1 a2 a3 : ByteArray) (a4 a5 a6 a7 a8 a9 a10 a11 a12 a13 a14 a15 a16 a17 a18 a19 a20 : Int) (A7 : Option Addr) (c7 : Nat) (A8 : Option Addr) (c8 : Nat) (w : World), Kd.C k54 w A7 l7.length l7 → l7.length ≤ c7 → Kd.C k34 w A8 l8.length l8 → l8.length ≤ c8 → Calls Try.prog 20 #[.agg #[.int .i64 a0, .string a1, .string a2, .string a3, .int .i64 a4, .int .i64 a5, .int .i64 a6, .int .i64 a7, .int .i64 a8, .int .i64 a9, .int .i64 a10, .int .i64 a11, .int .i64 a12, .int .i64 a13, .int .i64 a14, .int .i64 a15, .int .i64 a16, .int .i64 a17, .int .i64 a18, .int .i64 a19, .int .i64 a20, .slice A7 l7.length c7, .slice A8 l8.length c8]] w fun e w' => ∃ v7 v8, e = .returned (.agg #[.int .i64 a0, .string a1, .string a2, .string a3, .int .i64 a4, .int .i64 a5, .int .i64 a6, .int .i64 a7, .int .i64 a8, .int .i64 a9, .int .i64 a10, .int .i64 a11, .int .i64 a12, .int .i64 a13, .int .i64 a14, .int .i64 a15, .int .i64 a16, .int .i64 a17, .int .i64 a18, .int .i64 a19, .int .i64 a20, v7, v8]) ∧ Kd.Fr (Kd.sliceB 54 k54B b54) w.heap.size w' l7 [v7] ∧ Kd.Fr (Kd.sliceB 34 k34B b34) w.heap.size w' l8 [v8] ∧ Below w.heap.size w w'
theorem ConOK.calls {l7 : List S54} {l8 : List S34} (h : ConOK l7 l8) (a0 : Int) (a1 a2 a3 : ByteArray) (a4 a5 a6 a7 a8 a9 a10 a11 a12 a13 a14 a15 a16 a17 a18 a19 a20 : Int) (A7 : Option Addr) (c7 : Nat) (A8 : Option Addr) (c8 : Nat) (w : World) (hr7 : Kd.C k54 w A7 l7.length l7) (hc7 : l7.length ≤ c7) (hr8 : Kd.C k34 w A8 l8.length l8) (hc8 : l8.length ≤ c8) : Calls Try.prog 20 #[.agg #[.int .i64 a0, .string a1, .string a2, .string a3, .int .i64 a4, .int .i64 a5, .int .i64 a6, .int .i64 a7, .int .i64 a8, .int .i64 a9, .int .i64 a10, .int .i64 a11, .int .i64 a12, .int .i64 a13, .int .i64 a14, .int .i64 a15, .int .i64 a16, .int .i64 a17, .int .i64 a18, .int .i64 a19, .int .i64 a20, .slice A7 l7.length c7, .slice A8 l8.length c8]] w fun e w' => ∃ v7 v8, e = .returned (.agg #[.int .i64 a0, .string a1, .string a2, .string a3, .int .i64 a4, .int .i64 a5, .int .i64 a6, .int .i64 a7, .int .i64 a8, .int .i64 a9, .int .i64 a10, .int .i64 a11, .int .i64 a12, .int .i64 a13, .int .i64 a14, .int .i64 a15, .int .i64 a16, .int .i64 a17, .int .i64 a18, .int .i64 a19, .int .i64 a20, v7, v8]) ∧ Kd.Fr (Kd.sliceB 54 k54B b54) w.heap.size w' l7 [v7] ∧ Kd.Fr (Kd.sliceB 34 k34B b34) w.heap.size w' l8 [v8] ∧ Below w.heap.size w w' := h a0 a1 a2 a3 a4 a5 a6 a7 a8 a9 a10 a11 a12 a13 a14 a15 a16 a17 a18 a19 a20 A7 c7 A8 c8 w hr7 hc7 hr8 hc8
theorem info34 : (Try.prog.info? 34).map (fun i => (i.zero, i.size, i.bytes)) = some (some (.agg #[.int .i64 0, .string ⟨#[]⟩, .string ⟨#[]⟩, .string ⟨#[]⟩, .int .i64 0, .int .i64 0, .int .i64 0, .int .i64 0, .int .i64 0, .int .i64 0, .int .i64 0, .int .i64 0, .int .i64 0, .int .i64 0, .int .i64 0, .int .i64 0, .int .i64 0, .int .i64 0, .int .i64 0, .int .i64 0, .int .i64 0, .slice none 0 0, .slice none 0 0]), 23, 240) := by kernel_rfl
theorem size32 : (Try.prog.info? 32).map (fun i => i.size) = some 1 := by kernel_rfl
theorem take_next34 {l : List S34} {i : Int} (h0 : 0 ≤ i) (h1 : i < l.length) : l.take i.toNat ++ [rd_T34 l i] = l.take (i + 1).toNat := by
  have h : (i + 1).toNat = i.toNat + 1 := by omega
  have hl : i.toNat < l.length := by omega
  rw [h, List.take_add_one, List.getElem?_eq_getElem hl]
  simp [rd_T34, hl]
set_option maxHeartbeats 16000000 in
set_option maxRecDepth 100000 in
theorem con.of (l7 : List S54) (l8 : List S34) (h7 : ExprsOK l7) (hl8 : l8.length * 240 ≤ 140737488351232) (hs : ∀ x ∈ l8, ConOK x.f7 x.f8) : ConOK l7 l8 := by
  intro a0 a1 a2 a3 a4 a5 a6 a7 a8 a9 a10 a11 a12 a13 a14 a15 a16 a17 a18 a19 a20 A7 c7 A8 c8 w hr7 hc7 hr8 hc8
  have hu54 := Try.underlying54
  have hu34 := Try.underlying34
  have hu31 := Try.underlying31
  have hu32 := Try.underlying32
  have HR7 := Aside0.mk hr7
  have HC7 := Aside0.mk hc7
  have HR8 := Aside0.mk hr8
  have HC8 := Aside0.mk hc8
  have HL8 := Aside0.mk hl8
  have HS := Aside0.mk hs
  have hn : l8.length < 4611686018427387904 := by omega
  have HB := Aside0.mk (Below.refl w.heap.size w)
  cases A8 with
  | none =>
    have h0 : l8 = [] := by
      rcases Nat.eq_zero_or_pos l8.length with h | h
      · exact List.eq_nil_of_length_eq_zero h
      · obtain ⟨ad, he, _⟩ := hr8.2.2 h
        cases he
    clear hr7 hc7 hr8 hc8 hl8 hs
    subst h0
    go_enter Try.func20, Try.ntmps20
    go_upto_region 2 with (first | ((with_reducible refine gate_dst (N := 1) rfl ?_); (try (refine gate_guard (by rfl) ?_; dsimp only)); refine box_event ?hg (N := 1) ?hd (cs := #[.int .i64 a0, .string a1, .string a2, .string a3, .int .i64 a4, .int .i64 a5, .int .i64 a6, .int .i64 a7, .int .i64 a8, .int .i64 a9, .int .i64 a10, .int .i64 a11, .int .i64 a12, .int .i64 a13, .int .i64 a14, .int .i64 a15, .int .i64 a16, .int .i64 a17, .int .i64 a18, .int .i64 a19, .int .i64 a20, .slice A7 l7.length c7, .slice none ([] : List S34).length c8]) (t := 34) ?hr ?_; (case hd => rfl); (case hg => rfl); (case hr => first | (go_simp; done) | (go_simp; rfl)); intro g1 hg wv1_ hbox hb; have n0_ := Aside0.mk (below_step HB.out hb); have n1_ := Aside0.mk (hbox); have n2_ := Aside0.mk ((show w.heap.size ≤ g1 by rw [hg]; exact below_size HB.out)); clear HB; have HB := n0_; have BK1 := n1_; have ORD := n2_; clear n0_ n1_ n2_; clear hb hbox hg) | ((with_reducible refine gate_dst (N := 2) rfl ?_); (try (refine gate_guard (by rfl) ?_; dsimp only)); refine box_event ?hg (N := 2) ?hd (cs := #[.int .i64 0, .string ⟨#[]⟩, .string ⟨#[]⟩, .string ⟨#[]⟩, .int .i64 0, .int .i64 0, .int .i64 0, .int .i64 0, .int .i64 0, .int .i64 0, .int .i64 0, .int .i64 0, .int .i64 0, .int .i64 0, .int .i64 0, .int .i64 0, .int .i64 0, .int .i64 0, .int .i64 0, .int .i64 0, .int .i64 0, .slice none 0 0, .slice none 0 0]) (t := 34) ?hr ?_; (case hd => rfl); (case hg => rfl); (case hr => first | (go_simp; done) | (go_simp; rfl)); intro g2 hg wv2_ hbox hb; have n0_ := Aside0.mk (below_step HB.out hb); have n1_ := Aside0.mk (blk_below BK1.out hb); have n2_ := Aside0.mk (hbox); have n3_ := Aside0.mk (And.intro ORD.out (show g1 < g2 by rw [hg]; exact blk_lt BK1.out)); clear HB BK1 ORD; have HB := n0_; have BK1 := n1_; have BK2 := n2_; have ORD := n3_; clear n0_ n1_ n2_ n3_; clear hb hbox hg) | ((with_reducible refine gate_dst (N := 5) rfl ?_); (try (refine gate_guard (by rfl) ?_; dsimp only)); refine ldb_event rfl rfl (by first | rfl | (go_simp; done) | (go_simp; rfl)) Try.underlying34 ⟨_, rfl⟩ BK1.out 23 size34 [.int .i64 a0, .string a1, .string a2, .string a3, .int .i64 a4, .int .i64 a5, .int .i64 a6, .int .i64 a7, .int .i64 a8, .int .i64 a9, .int .i64 a10, .int .i64 a11, .int .i64 a12, .int .i64 a13, .int .i64 a14, .int .i64 a15, .int .i64 a16, .int .i64 a17, .int .i64 a18, .int .i64 a19, .int .i64 a20, .slice A7 l7.length c7, .slice none ([] : List S34).length c8] rfl rfl ?_) | ((with_reducible refine gate_dst (N := 3) rfl ?_); (try (refine gate_guard (by rfl) ?_; dsimp only)); refine box_event ?hg (N := 3) ?hd (cs := #[.int .i64 0, .string ⟨#[]⟩, .string ⟨#[]⟩, .string ⟨#[]⟩, .int .i64 0, .int .i64 0, .int .i64 0, .int .i64 0, .int .i64 0, .int .i64 0, .int .i64 0, .int .i64 0, .int .i64 0, .int .i64 0, .int .i64 0, .int .i64 0, .int .i64 0, .int .i64 0, .int .i64 0, .int .i64 0, .int .i64 0, .slice none 0 0, .slice none 0 0]) (t := 34) ?hr ?_; (case hd => rfl); (case hg => rfl); (case hr => first | (go_simp; done) | (go_simp; rfl)); intro g3 hg wv3_ hbox hb; have n0_ := Aside0.mk (below_step HB.out hb); have n1_ := Aside0.mk (blk_below BK1.out hb); have n2_ := Aside0.mk (blk_below BK2.out hb); have n3_ := Aside0.mk (hbox); have n4_ := Aside0.mk (And.intro ORD.out (show g2 < g3 by rw [hg]; exact blk_lt BK2.out)); clear HB BK1 BK2 ORD; have HB := n0_; have BK1 := n1_; have BK2 := n2_; have BK3 := n3_; have ORD := n4_; clear n0_ n1_ n2_ n3_ n4_; clear hb hbox hg) | ((with_reducible refine gate_store (t := 34) (p := 3) rfl ?_); refine st_event rfl rfl rfl (g := g3) (j := 0) (by first | rfl | (go_simp; done) | (go_simp; rfl)) (u := .agg #[.int .i64 a0, .string a1, .string a2, .string a3, .int .i64 a4, .int .i64 a5, .int .i64 a6, .int .i64 a7, .int .i64 a8, .int .i64 a9, .int .i64 a10, .int .i64 a11, .int .i64 a12, .int .i64 a13, .int .i64 a14, .int .i64 a15, .int .i64 a16, .int .i64 a17, .int .i64 a18, .int .i64 a19, .int .i64 a20, .slice A7 l7.length c7, .slice none ([] : List S34).length c8]) (by first | rfl | (go_simp; done) | (go_simp; rfl)) BK3.out 23 size34 rfl (by simp) (by intro x hx; simp [Value.cells] at hx; rcases hx with rfl | rfl | rfl | rfl | rfl | rfl | rfl | rfl | rfl | rfl | rfl | rfl | rfl | rfl | rfl | rfl | rfl | rfl | rfl | rfl | rfl | rfl | rfl <;> rfl) #[.int .i64 a0, .string a1, .string a2, .string a3, .int .i64 a4, .int .i64 a5, .int .i64 a6, .int .i64 a7, .int .i64 a8, .int .i64 a9, .int .i64 a10, .int .i64 a11, .int .i64 a12, .int .i64 a13, .int .i64 a14, .int .i64 a15, .int .i64 a16, .int .i64 a17, .int .i64 a18, .int .i64 a19, .int .i64 a20, .slice A7 l7.length c7, .slice none ([] : List S34).length c8] rfl ?_; intro wv4_ hbk ho; have n0_ := Aside0.mk (Other.below ho HB.out (by have := ORD.out; omega)); have n1_ := Aside0.mk (Other.blk ho BK1.out (by have := ORD.out; omega)); have n2_ := Aside0.mk (Other.blk ho BK2.out (by have := ORD.out; omega)); have n3_ := Aside0.mk (hbk); clear HB BK1 BK2 BK3; have HB := n0_; have BK1 := n1_; have BK2 := n2_; have BK3 := n3_; clear n0_ n1_ n2_ n3_; clear hbk ho))
    go_upto_region 3 with (first | ((with_reducible refine gate_dst (N := 7) rfl ?_); (try (refine gate_guard (by rfl) ?_; dsimp only)); refine ld_event rfl rfl (by first | rfl | (go_simp; done) | (go_simp; rfl)) Try.underlying31 trivial (.slice A7 l7.length c7) ((blk_cell BK1.out 21).trans rfl) ?_) | ((with_reducible refine gate_callee (f := 34) rfl ?_); (try (refine gate_guard (by rfl) ?_; dsimp only)); refine goesL_ (some 8) rfl rfl Try.func34 (by kernel_rfl) rfl #[.slice A7 l7.length c7] rfl (by (try simp only [List.map_toArray, List.map_cons, List.map_nil]); first | done | rfl) ?_; (with_reducible refine (ExprsOK.calls h7 A7 c7 _ (Kd.C_below HR7.out HB.out) HC7.out).mono ?_); rintro e wv5_ ⟨v7, rfl, hF, hb⟩; obtain ⟨B7, d7, rfl, _, _, _⟩ := Kd.sB_read (Kd.Fr.K hF); refine ⟨_, rfl, ?_⟩; have n0_ := Aside0.mk (below_step HB.out hb); have n1_ := Aside0.mk (blk_below BK1.out hb); have n2_ := Aside0.mk (blk_below BK2.out hb); have n3_ := Aside0.mk (blk_below BK3.out hb); have n4_ := Aside0.mk (Kd.Fr.lower (b' := g3 + 1) hF (blk_lt BK3.out)); clear HB BK1 BK2 BK3; have HB := n0_; have BK1 := n1_; have BK2 := n2_; have BK3 := n3_; have FR7 := n4_; clear n0_ n1_ n2_ n3_ n4_; clear hb hF) | ((with_reducible refine gate_store (t := 31) (p := 9) rfl ?_); refine st_event rfl rfl rfl (g := g3) (j := 21) (by first | rfl | (go_simp; done) | (go_simp; rfl)) (u := (.slice B7 l7.length d7)) (by first | rfl | (go_simp; done) | (go_simp; rfl)) BK3.out 1 size31 rfl (by simp) (by intro x hx; simp [Value.cells] at hx; rcases hx with rfl <;> rfl) #[.int .i64 a0, .string a1, .string a2, .string a3, .int .i64 a4, .int .i64 a5, .int .i64 a6, .int .i64 a7, .int .i64 a8, .int .i64 a9, .int .i64 a10, .int .i64 a11, .int .i64 a12, .int .i64 a13, .int .i64 a14, .int .i64 a15, .int .i64 a16, .int .i64 a17, .int .i64 a18, .int .i64 a19, .int .i64 a20, (.slice B7 l7.length d7), .slice none ([] : List S34).length c8] rfl ?_; intro wv6_ hbk ho; have n0_ := Aside0.mk (Other.below ho HB.out (by have := ORD.out; omega)); have n1_ := Aside0.mk (Other.blk ho BK1.out (by have := ORD.out; omega)); have n2_ := Aside0.mk (Other.blk ho BK2.out (by have := ORD.out; omega)); have n3_ := Aside0.mk (hbk); have n4_ := Aside0.mk (Kd.Fr.other FR7.out ho (by have := ORD.out; omega)); clear HB BK1 BK2 BK3 FR7; have HB := n0_; have BK1 := n1_; have BK2 := n2_; have BK3 := n3_; have FR7 := n4_; clear n0_ n1_ n2_ n3_ n4_; clear hbk ho))
    go_upto_region 4 with (first | ((with_reducible refine gate_store (t := 32) (p := 10) rfl ?_); refine st_event rfl rfl rfl (g := g3) (j := 22) (by first | rfl | (go_simp; done) | (go_simp; rfl)) (u := .slice none 0 0) (by first | rfl | (go_simp; done) | (go_simp; rfl)) BK3.out 1 size32 rfl (by simp) (by intro x hx; simp [Value.cells] at hx; rcases hx with rfl <;> rfl) #[.int .i64 a0, .string a1, .string a2, .string a3, .int .i64 a4, .int .i64 a5, .int .i64 a6, .int .i64 a7, .int .i64 a8, .int .i64 a9, .int .i64 a10, .int .i64 a11, .int .i64 a12, .int .i64 a13, .int .i64 a14, .int .i64 a15, .int .i64 a16, .int .i64 a17, .int .i64 a18, .int .i64 a19, .int .i64 a20, (.slice B7 l7.length d7), .slice none 0 0] rfl ?_; intro wv7_ hbk ho; have n0_ := Aside0.mk (Other.below ho HB.out (by have := ORD.out; omega)); have n1_ := Aside0.mk (Other.blk ho BK1.out (by have := ORD.out; omega)); have n2_ := Aside0.mk (Other.blk ho BK2.out (by have := ORD.out; omega)); have n3_ := Aside0.mk (hbk); have n4_ := Aside0.mk (Kd.Fr.other FR7.out ho (by have := ORD.out; omega)); clear HB BK1 BK2 BK3 FR7; have HB := n0_; have BK1 := n1_; have BK2 := n2_; have BK3 := n3_; have FR7 := n4_; clear n0_ n1_ n2_ n3_ n4_; clear hbk ho))
    go_wp2_with (first | ((with_reducible refine gate_dst (N := 12) rfl ?_); (try (refine gate_guard (by rfl) ?_; dsimp only)); refine ld_event rfl rfl (by first | rfl | (go_simp; done) | (go_simp; rfl)) Try.underlying32 trivial (.slice none ([] : List S34).length c8) ((blk_cell BK1.out 22).trans rfl) ?_) | ((with_reducible refine gate_dst (N := 51) rfl ?_); (try (refine gate_guard (by rfl) ?_; dsimp only)); refine ldb_event rfl rfl (by first | rfl | (go_simp; done) | (go_simp; rfl)) Try.underlying34 ⟨_, rfl⟩ BK3.out 23 size34 [.int .i64 a0, .string a1, .string a2, .string a3, .int .i64 a4, .int .i64 a5, .int .i64 a6, .int .i64 a7, .int .i64 a8, .int .i64 a9, .int .i64 a10, .int .i64 a11, .int .i64 a12, .int .i64 a13, .int .i64 a14, .int .i64 a15, .int .i64 a16, .int .i64 a17, .int .i64 a18, .int .i64 a19, .int .i64 a20, (.slice B7 l7.length d7), .slice none 0 0] rfl rfl ?_) | ((with_reducible refine gate_store (t := 34) (p := 2) rfl ?_); refine st_event rfl rfl rfl (g := g2) (j := 0) (by first | rfl | (go_simp; done) | (go_simp; rfl)) (u := .agg #[.int .i64 a0, .string a1, .string a2, .string a3, .int .i64 a4, .int .i64 a5, .int .i64 a6, .int .i64 a7, .int .i64 a8, .int .i64 a9, .int .i64 a10, .int .i64 a11, .int .i64 a12, .int .i64 a13, .int .i64 a14, .int .i64 a15, .int .i64 a16, .int .i64 a17, .int .i64 a18, .int .i64 a19, .int .i64 a20, (.slice B7 l7.length d7), .slice none 0 0]) (by first | rfl | (go_simp; done) | (go_simp; rfl)) BK2.out 23 size34 rfl (by simp) (by intro x hx; simp [Value.cells] at hx; rcases hx with rfl | rfl | rfl | rfl | rfl | rfl | rfl | rfl | rfl | rfl | rfl | rfl | rfl | rfl | rfl | rfl | rfl | rfl | rfl | rfl | rfl | rfl | rfl <;> rfl) #[.int .i64 a0, .string a1, .string a2, .string a3, .int .i64 a4, .int .i64 a5, .int .i64 a6, .int .i64 a7, .int .i64 a8, .int .i64 a9, .int .i64 a10, .int .i64 a11, .int .i64 a12, .int .i64 a13, .int .i64 a14, .int .i64 a15, .int .i64 a16, .int .i64 a17, .int .i64 a18, .int .i64 a19, .int .i64 a20, (.slice B7 l7.length d7), .slice none 0 0] rfl ?_; intro wv8_ hbk ho; have n0_ := Aside0.mk (Other.below ho HB.out (by have := ORD.out; omega)); have n1_ := Aside0.mk (Other.blk ho BK1.out (by have := ORD.out; omega)); have n2_ := Aside0.mk (hbk); have n3_ := Aside0.mk (Other.blk ho BK3.out (by have := ORD.out; omega)); have n4_ := Aside0.mk (Kd.Fr.other FR7.out ho (by have := ORD.out; omega)); clear HB BK1 BK2 BK3 FR7; have HB := n0_; have BK1 := n1_; have BK2 := n2_; have BK3 := n3_; have FR7 := n4_; clear n0_ n1_ n2_ n3_ n4_; clear hbk ho))
    (try simp only [Exit.inBlock, Exit.then])
    refine bodyPost_ret (results_cell_row rfl _ _ g2 34 #[.int .i64 a0, .string a1, .string a2, .string a3, .int .i64 a4, .int .i64 a5, .int .i64 a6, .int .i64 a7, .int .i64 a8, .int .i64 a9, .int .i64 a10, .int .i64 a11, .int .i64 a12, .int .i64 a13, .int .i64 a14, .int .i64 a15, .int .i64 a16, .int .i64 a17, .int .i64 a18, .int .i64 a19, .int .i64 a20, (.slice B7 l7.length d7), .slice none 0 0] (0, 0) _ rfl BK2.out Try.underlying34 rfl size34) rfl ?_
    exact ⟨_, _, rfl, Kd.Fr.lower FR7.out (by have := ORD.out; omega), Kd.Fr.of (ok := fun _ => True) (.inl ⟨rfl, rfl⟩), HB.out⟩
  | some ad =>
  clear hr7 hc7 hr8 hc8 hl8 hs
  go_enter Try.func20, Try.ntmps20
  go_upto_region 2 with (first | ((with_reducible refine gate_dst (N := 1) rfl ?_); (try (refine gate_guard (by rfl) ?_; dsimp only)); refine box_event ?hg (N := 1) ?hd (cs := #[.int .i64 a0, .string a1, .string a2, .string a3, .int .i64 a4, .int .i64 a5, .int .i64 a6, .int .i64 a7, .int .i64 a8, .int .i64 a9, .int .i64 a10, .int .i64 a11, .int .i64 a12, .int .i64 a13, .int .i64 a14, .int .i64 a15, .int .i64 a16, .int .i64 a17, .int .i64 a18, .int .i64 a19, .int .i64 a20, .slice A7 l7.length c7, .slice (some ad) l8.length c8]) (t := 34) ?hr ?_; (case hd => rfl); (case hg => rfl); (case hr => first | (go_simp; done) | (go_simp; rfl)); intro g1 hg wv1_ hbox hb; have n0_ := Aside0.mk (below_step HB.out hb); have n1_ := Aside0.mk (hbox); have n2_ := Aside0.mk ((show w.heap.size ≤ g1 by rw [hg]; exact below_size HB.out)); clear HB; have HB := n0_; have BK1 := n1_; have ORD := n2_; clear n0_ n1_ n2_; clear hb hbox hg) | ((with_reducible refine gate_dst (N := 2) rfl ?_); (try (refine gate_guard (by rfl) ?_; dsimp only)); refine box_event ?hg (N := 2) ?hd (cs := #[.int .i64 0, .string ⟨#[]⟩, .string ⟨#[]⟩, .string ⟨#[]⟩, .int .i64 0, .int .i64 0, .int .i64 0, .int .i64 0, .int .i64 0, .int .i64 0, .int .i64 0, .int .i64 0, .int .i64 0, .int .i64 0, .int .i64 0, .int .i64 0, .int .i64 0, .int .i64 0, .int .i64 0, .int .i64 0, .int .i64 0, .slice none 0 0, .slice none 0 0]) (t := 34) ?hr ?_; (case hd => rfl); (case hg => rfl); (case hr => first | (go_simp; done) | (go_simp; rfl)); intro g2 hg wv2_ hbox hb; have n0_ := Aside0.mk (below_step HB.out hb); have n1_ := Aside0.mk (blk_below BK1.out hb); have n2_ := Aside0.mk (hbox); have n3_ := Aside0.mk (And.intro ORD.out (show g1 < g2 by rw [hg]; exact blk_lt BK1.out)); clear HB BK1 ORD; have HB := n0_; have BK1 := n1_; have BK2 := n2_; have ORD := n3_; clear n0_ n1_ n2_ n3_; clear hb hbox hg) | ((with_reducible refine gate_dst (N := 5) rfl ?_); (try (refine gate_guard (by rfl) ?_; dsimp only)); refine ldb_event rfl rfl (by first | rfl | (go_simp; done) | (go_simp; rfl)) Try.underlying34 ⟨_, rfl⟩ BK1.out 23 size34 [.int .i64 a0, .string a1, .string a2, .string a3, .int .i64 a4, .int .i64 a5, .int .i64 a6, .int .i64 a7, .int .i64 a8, .int .i64 a9, .int .i64 a10, .int .i64 a11, .int .i64 a12, .int .i64 a13, .int .i64 a14, .int .i64 a15, .int .i64 a16, .int .i64 a17, .int .i64 a18, .int .i64 a19, .int .i64 a20, .slice A7 l7.length c7, .slice (some ad) l8.length c8] rfl rfl ?_) | ((with_reducible refine gate_dst (N := 3) rfl ?_); (try (refine gate_guard (by rfl) ?_; dsimp only)); refine box_event ?hg (N := 3) ?hd (cs := #[.int .i64 0, .string ⟨#[]⟩, .string ⟨#[]⟩, .string ⟨#[]⟩, .int .i64 0, .int .i64 0, .int .i64 0, .int .i64 0, .int .i64 0, .int .i64 0, .int .i64 0, .int .i64 0, .int .i64 0, .int .i64 0, .int .i64 0, .int .i64 0, .int .i64 0, .int .i64 0, .int .i64 0, .int .i64 0, .int .i64 0, .slice none 0 0, .slice none 0 0]) (t := 34) ?hr ?_; (case hd => rfl); (case hg => rfl); (case hr => first | (go_simp; done) | (go_simp; rfl)); intro g3 hg wv3_ hbox hb; have n0_ := Aside0.mk (below_step HB.out hb); have n1_ := Aside0.mk (blk_below BK1.out hb); have n2_ := Aside0.mk (blk_below BK2.out hb); have n3_ := Aside0.mk (hbox); have n4_ := Aside0.mk (And.intro ORD.out (show g2 < g3 by rw [hg]; exact blk_lt BK2.out)); clear HB BK1 BK2 ORD; have HB := n0_; have BK1 := n1_; have BK2 := n2_; have BK3 := n3_; have ORD := n4_; clear n0_ n1_ n2_ n3_ n4_; clear hb hbox hg) | ((with_reducible refine gate_store (t := 34) (p := 3) rfl ?_); refine st_event rfl rfl rfl (g := g3) (j := 0) (by first | rfl | (go_simp; done) | (go_simp; rfl)) (u := .agg #[.int .i64 a0, .string a1, .string a2, .string a3, .int .i64 a4, .int .i64 a5, .int .i64 a6, .int .i64 a7, .int .i64 a8, .int .i64 a9, .int .i64 a10, .int .i64 a11, .int .i64 a12, .int .i64 a13, .int .i64 a14, .int .i64 a15, .int .i64 a16, .int .i64 a17, .int .i64 a18, .int .i64 a19, .int .i64 a20, .slice A7 l7.length c7, .slice (some ad) l8.length c8]) (by first | rfl | (go_simp; done) | (go_simp; rfl)) BK3.out 23 size34 rfl (by simp) (by intro x hx; simp [Value.cells] at hx; rcases hx with rfl | rfl | rfl | rfl | rfl | rfl | rfl | rfl | rfl | rfl | rfl | rfl | rfl | rfl | rfl | rfl | rfl | rfl | rfl | rfl | rfl | rfl | rfl <;> rfl) #[.int .i64 a0, .string a1, .string a2, .string a3, .int .i64 a4, .int .i64 a5, .int .i64 a6, .int .i64 a7, .int .i64 a8, .int .i64 a9, .int .i64 a10, .int .i64 a11, .int .i64 a12, .int .i64 a13, .int .i64 a14, .int .i64 a15, .int .i64 a16, .int .i64 a17, .int .i64 a18, .int .i64 a19, .int .i64 a20, .slice A7 l7.length c7, .slice (some ad) l8.length c8] rfl ?_; intro wv4_ hbk ho; have n0_ := Aside0.mk (Other.below ho HB.out (by have := ORD.out; omega)); have n1_ := Aside0.mk (Other.blk ho BK1.out (by have := ORD.out; omega)); have n2_ := Aside0.mk (Other.blk ho BK2.out (by have := ORD.out; omega)); have n3_ := Aside0.mk (hbk); clear HB BK1 BK2 BK3; have HB := n0_; have BK1 := n1_; have BK2 := n2_; have BK3 := n3_; clear n0_ n1_ n2_ n3_; clear hbk ho))
  go_upto_region 3 with (first | ((with_reducible refine gate_dst (N := 7) rfl ?_); (try (refine gate_guard (by rfl) ?_; dsimp only)); refine ld_event rfl rfl (by first | rfl | (go_simp; done) | (go_simp; rfl)) Try.underlying31 trivial (.slice A7 l7.length c7) ((blk_cell BK1.out 21).trans rfl) ?_) | ((with_reducible refine gate_callee (f := 34) rfl ?_); (try (refine gate_guard (by rfl) ?_; dsimp only)); refine goesL_ (some 8) rfl rfl Try.func34 (by kernel_rfl) rfl #[.slice A7 l7.length c7] rfl (by (try simp only [List.map_toArray, List.map_cons, List.map_nil]); first | done | rfl) ?_; (with_reducible refine (ExprsOK.calls h7 A7 c7 _ (Kd.C_below HR7.out HB.out) HC7.out).mono ?_); rintro e wv5_ ⟨v7, rfl, hF, hb⟩; obtain ⟨B7, d7, rfl, _, _, _⟩ := Kd.sB_read (Kd.Fr.K hF); refine ⟨_, rfl, ?_⟩; have n0_ := Aside0.mk (below_step HB.out hb); have n1_ := Aside0.mk (blk_below BK1.out hb); have n2_ := Aside0.mk (blk_below BK2.out hb); have n3_ := Aside0.mk (blk_below BK3.out hb); have n4_ := Aside0.mk (Kd.Fr.lower (b' := g3 + 1) hF (blk_lt BK3.out)); clear HB BK1 BK2 BK3; have HB := n0_; have BK1 := n1_; have BK2 := n2_; have BK3 := n3_; have FR7 := n4_; clear n0_ n1_ n2_ n3_ n4_; clear hb hF) | ((with_reducible refine gate_store (t := 31) (p := 9) rfl ?_); refine st_event rfl rfl rfl (g := g3) (j := 21) (by first | rfl | (go_simp; done) | (go_simp; rfl)) (u := (.slice B7 l7.length d7)) (by first | rfl | (go_simp; done) | (go_simp; rfl)) BK3.out 1 size31 rfl (by simp) (by intro x hx; simp [Value.cells] at hx; rcases hx with rfl <;> rfl) #[.int .i64 a0, .string a1, .string a2, .string a3, .int .i64 a4, .int .i64 a5, .int .i64 a6, .int .i64 a7, .int .i64 a8, .int .i64 a9, .int .i64 a10, .int .i64 a11, .int .i64 a12, .int .i64 a13, .int .i64 a14, .int .i64 a15, .int .i64 a16, .int .i64 a17, .int .i64 a18, .int .i64 a19, .int .i64 a20, (.slice B7 l7.length d7), .slice (some ad) l8.length c8] rfl ?_; intro wv6_ hbk ho; have n0_ := Aside0.mk (Other.below ho HB.out (by have := ORD.out; omega)); have n1_ := Aside0.mk (Other.blk ho BK1.out (by have := ORD.out; omega)); have n2_ := Aside0.mk (Other.blk ho BK2.out (by have := ORD.out; omega)); have n3_ := Aside0.mk (hbk); have n4_ := Aside0.mk (Kd.Fr.other FR7.out ho (by have := ORD.out; omega)); clear HB BK1 BK2 BK3 FR7; have HB := n0_; have BK1 := n1_; have BK2 := n2_; have BK3 := n3_; have FR7 := n4_; clear n0_ n1_ n2_ n3_ n4_; clear hbk ho))
  go_upto_region 4 with (first | ((with_reducible refine gate_store (t := 32) (p := 10) rfl ?_); refine st_event rfl rfl rfl (g := g3) (j := 22) (by first | rfl | (go_simp; done) | (go_simp; rfl)) (u := .slice none 0 0) (by first | rfl | (go_simp; done) | (go_simp; rfl)) BK3.out 1 size32 rfl (by simp) (by intro x hx; simp [Value.cells] at hx; rcases hx with rfl <;> rfl) #[.int .i64 a0, .string a1, .string a2, .string a3, .int .i64 a4, .int .i64 a5, .int .i64 a6, .int .i64 a7, .int .i64 a8, .int .i64 a9, .int .i64 a10, .int .i64 a11, .int .i64 a12, .int .i64 a13, .int .i64 a14, .int .i64 a15, .int .i64 a16, .int .i64 a17, .int .i64 a18, .int .i64 a19, .int .i64 a20, (.slice B7 l7.length d7), .slice none 0 0] rfl ?_; intro wv7_ hbk ho; have n0_ := Aside0.mk (Other.below ho HB.out (by have := ORD.out; omega)); have n1_ := Aside0.mk (Other.blk ho BK1.out (by have := ORD.out; omega)); have n2_ := Aside0.mk (Other.blk ho BK2.out (by have := ORD.out; omega)); have n3_ := Aside0.mk (hbk); have n4_ := Aside0.mk (Kd.Fr.other FR7.out ho (by have := ORD.out; omega)); clear HB BK1 BK2 BK3 FR7; have HB := n0_; have BK1 := n1_; have BK2 := n2_; have BK3 := n3_; have FR7 := n4_; clear n0_ n1_ n2_ n3_ n4_; clear hbk ho))
  have ASZ := Aside0.mk (show g3 + 1 ≤ _ from blk_lt BK3.out)
  go_upto_region 6 with (first | ((with_reducible refine gate_dst (N := 12) rfl ?_); (try (refine gate_guard (by rfl) ?_; dsimp only)); refine ld_event rfl rfl (by first | rfl | (go_simp; done) | (go_simp; rfl)) Try.underlying32 trivial (.slice (some ad) l8.length c8) ((blk_cell BK1.out 22).trans rfl) ?_) | ((with_reducible refine gate_dst (N := 15) rfl ?_); (try (refine gate_guard (by rfl) ?_; dsimp only)); refine ld_event rfl rfl (by first | rfl | (go_simp; done) | (go_simp; rfl)) Try.underlying32 trivial (.slice (some ad) l8.length c8) ((blk_cell BK1.out 22).trans rfl) ?_) | ((with_reducible refine gate_dst (N := 18) rfl ?_); refine Kd.R_make0 k34B (g3 + 1) 34 rfl (N := 18) rfl 32 (.const (.int .i64 0)) (.tmp 17) rfl (l8.length + 1) rfl (by first | rfl | (go_simp; done) | (go_simp; rfl)) Try.underlying32 (.agg #[.int .i64 0, .string ⟨#[]⟩, .string ⟨#[]⟩, .string ⟨#[]⟩, .int .i64 0, .int .i64 0, .int .i64 0, .int .i64 0, .int .i64 0, .int .i64 0, .int .i64 0, .int .i64 0, .int .i64 0, .int .i64 0, .int .i64 0, .int .i64 0, .int .i64 0, .int .i64 0, .int .i64 0, .int .i64 0, .int .i64 0, .slice none 0 0, .slice none 0 0]) 240 info34 (by decide) (by have := HL8.out; omega) (Below.refl _ _) ASZ.out ?_; intro gr_ wv8_ hg_ hr_ hb hb2; have n0_ := Aside0.mk (below_step HB.out hb2); have n1_ := Aside0.mk (blk_below BK1.out hb2); have n2_ := Aside0.mk (blk_below BK2.out hb2); have n3_ := Aside0.mk (blk_below BK3.out hb2); have n4_ := Aside0.mk (Kd.Fr.below FR7.out hb2); have n5_ := Aside0.mk (Kd.R_mono (Kd.R_bound hr_) (fun k hk => hk.2.1)); clear HB BK1 BK2 BK3 FR7; have HB := n0_; have BK1 := n1_; have BK2 := n2_; have BK3 := n3_; have FR7 := n4_; have RO := n5_; clear n0_ n1_ n2_ n3_ n4_ n5_; clear hg_ hr_ hb hb2) | ((with_reducible refine gate_store (t := 32) (p := 19) rfl ?_); refine st_event rfl rfl rfl (g := g3) (j := 22) (by first | rfl | (go_simp; done) | (go_simp; rfl)) (u := (.slice (some ⟨gr_, 0, none⟩) 0 (l8.length + 1))) (by first | rfl | (go_simp; done) | (go_simp; rfl)) BK3.out 1 size32 rfl (by simp) (by intro x hx; simp [Value.cells] at hx; rcases hx with rfl <;> rfl) #[.int .i64 a0, .string a1, .string a2, .string a3, .int .i64 a4, .int .i64 a5, .int .i64 a6, .int .i64 a7, .int .i64 a8, .int .i64 a9, .int .i64 a10, .int .i64 a11, .int .i64 a12, .int .i64 a13, .int .i64 a14, .int .i64 a15, .int .i64 a16, .int .i64 a17, .int .i64 a18, .int .i64 a19, .int .i64 a20, (.slice B7 l7.length d7), (.slice (some ⟨gr_, 0, none⟩) 0 (l8.length + 1))] rfl ?_; intro wv9_ hbk ho; have n0_ := Aside0.mk (Other.below ho HB.out (by have := ORD.out; omega)); have n1_ := Aside0.mk (Other.blk ho BK1.out (by have := ORD.out; omega)); have n2_ := Aside0.mk (Other.blk ho BK2.out (by have := ORD.out; omega)); have n3_ := Aside0.mk (hbk); have n4_ := Aside0.mk (Kd.Fr.other FR7.out ho (by have := ORD.out; omega)); have n5_ := Aside0.mk (Kd.R_step RO.out (fun k hk_ _ => ho.block k (by have := ORD.out; omega))); clear HB BK1 BK2 BK3 FR7 RO; have HB := n0_; have BK1 := n1_; have BK2 := n2_; have BK3 := n3_; have FR7 := n4_; have RO := n5_; clear n0_ n1_ n2_ n3_ n4_ n5_; clear hbk ho))
  clear ASZ
  go_wp2
  go_loopg [4] l8.length (fun kq v4 w' => ∃ (i_ : Int) (xs : List S34) (Au_ : Option Addr) (cu_ : Nat), v4 = .int .i64 i_ ∧ Aside0 (0 ≤ i_ ∧ i_ + (kq : Int) = (l8.length : Int)) ∧ Aside0 (xs = l8.take i_.toNat) ∧ Aside0 (Kd.R k34B 34 w' (g3 + 1) (fun k => g3 + 1 ≤ k) (.slice Au_ xs.length cu_) xs) ∧ Aside0 (Kd.Fr (Kd.sliceB 54 k54B b54) (g3 + 1) w' l7 [.slice B7 l7.length d7]) ∧ Aside0 (w'.heap[g1]? = some (.cells #[.int .i64 a0, .string a1, .string a2, .string a3, .int .i64 a4, .int .i64 a5, .int .i64 a6, .int .i64 a7, .int .i64 a8, .int .i64 a9, .int .i64 a10, .int .i64 a11, .int .i64 a12, .int .i64 a13, .int .i64 a14, .int .i64 a15, .int .i64 a16, .int .i64 a17, .int .i64 a18, .int .i64 a19, .int .i64 a20, .slice A7 l7.length c7, .slice (some ad) l8.length c8] 34 (0, 0))) ∧ Aside0 (w'.heap[g2]? = some (.cells #[.int .i64 0, .string ⟨#[]⟩, .string ⟨#[]⟩, .string ⟨#[]⟩, .int .i64 0, .int .i64 0, .int .i64 0, .int .i64 0, .int .i64 0, .int .i64 0, .int .i64 0, .int .i64 0, .int .i64 0, .int .i64 0, .int .i64 0, .int .i64 0, .int .i64 0, .int .i64 0, .int .i64 0, .int .i64 0, .int .i64 0, .slice none 0 0, .slice none 0 0] 34 (0, 0))) ∧ Aside0 (w'.heap[g3]? = some (.cells #[.int .i64 a0, .string a1, .string a2, .string a3, .int .i64 a4, .int .i64 a5, .int .i64 a6, .int .i64 a7, .int .i64 a8, .int .i64 a9, .int .i64 a10, .int .i64 a11, .int .i64 a12, .int .i64 a13, .int .i64 a14, .int .i64 a15, .int .i64 a16, .int .i64 a17, .int .i64 a18, .int .i64 a19, .int .i64 a20, (.slice B7 l7.length d7), (.slice Au_ xs.length cu_)] 34 (0, 0))) ∧ Aside0 (Below w.heap.size w w'))
  case atStart => exact ⟨0, [], _, _, rfl, ⟨by omega, by omega⟩, ⟨rfl⟩, RO, FR7, BK1, BK2, BK3, HB⟩
  case round =>
    clear RO FR7 BK1 BK2 BK3 HB
    obtain ⟨i_, xs, Au_, cu_, rfl, HQ, HX, RO, FR7, BK1, BK2, BK3, HB⟩ := hrel
    have HXL := Aside0.mk (show xs.length ≤ l8.length ∧ (xs.length : Int) = i_ by rw [HX.out, List.length_take]; have := HQ.out; omega)
    by_cases c_ : i_ < (l8.length : Int)
    · have cb : decide (i_ < (l8.length : Int)) = true := decide_eq_true c_
      have p_ : 0 ≤ i_ := HQ.out.1
      obtain ⟨ad1, cv_, e_, _, hK_, hc0_⟩ := Kd.C_get HR8.out z34 i_ p_ c_
      cases e_
      obtain ⟨B7e, d7e, B8e, d8e, rfl, hl7, hi7, hl8, hi8⟩ := k34_open hK_
      have HCS := Aside0.mk (show CSat wr (ad.add (i_.toNat * 23)) [.int .i64 (rd_T34 l8 i_).f0, .string (rd_T34 l8 i_).f1, .string (rd_T34 l8 i_).f2, .string (rd_T34 l8 i_).f3, .int .i64 (rd_T34 l8 i_).f4, .int .i64 (rd_T34 l8 i_).f5.f0, .int .i64 (rd_T34 l8 i_).f5.f1, .int .i64 (rd_T34 l8 i_).f5.f2, .int .i64 (rd_T34 l8 i_).f6.f0, .int .i64 (rd_T34 l8 i_).f6.f1, .int .i64 (rd_T34 l8 i_).f6.f2, .int .i64 (rd_T34 l8 i_).f6.f3, .int .i64 (rd_T34 l8 i_).f6.f4.f0, .int .i64 (rd_T34 l8 i_).f6.f4.f1, .int .i64 (rd_T34 l8 i_).f6.f4.f2, .int .i64 (rd_T34 l8 i_).f6.f5.f0, .int .i64 (rd_T34 l8 i_).f6.f5.f1, .int .i64 (rd_T34 l8 i_).f6.f5.f2, .int .i64 (rd_T34 l8 i_).f6.f6.f0, .int .i64 (rd_T34 l8 i_).f6.f6.f1, .int .i64 (rd_T34 l8 i_).f6.f7, .slice B7e (rd_T34 l8 i_).f7.length d7e, .slice B8e (rd_T34 l8 i_).f8.length d8e] from fun j v hj => by have h1 := hc0_ j v hj; have h2 := (HB.out.cell (World.block_lt_of_cell? w _ h1)).trans h1; rw [World_add_add]; exact h2)
      have HE7 := Aside0.mk (show Kd.C k54 w B7e (rd_T34 l8 i_).f7.length (rd_T34 l8 i_).f7 from hi7)
      have HE7c := Aside0.mk (show (rd_T34 l8 i_).f7.length ≤ d7e from hl7)
      have HE8 := Aside0.mk (show Kd.C k34 w B8e (rd_T34 l8 i_).f8.length (rd_T34 l8 i_).f8 from hi8)
      have HE8c := Aside0.mk (show (rd_T34 l8 i_).f8.length ≤ d8e from hl8)
      have HM := Aside0.mk (rd_mem34 p_ c_)
      clear hK_ hc0_ hi7 hi8 hl7 hl8
      have HC_ := Aside0.mk c_
      have HTN := Aside0.mk (take_next34 p_ c_)
      replace p_ := eq_true p_
      replace c_ := eq_true c_
      go_upto_region 9 with (first | ((with_reducible refine gate_dst (N := 22) rfl ?_); (try (refine gate_guard (by rfl) ?_; dsimp only)); refine ld_event rfl rfl (by first | rfl | (go_simp; done) | (go_simp; rfl)) Try.underlying32 trivial (.slice (some ad) l8.length c8) ((blk_cell BK1.out 22).trans rfl) ?_))
      refine start_ (n := 12) (S := fun w' => w'.heap[g1]? = some (.cells #[.int .i64 a0, .string a1, .string a2, .string a3, .int .i64 a4, .int .i64 a5, .int .i64 a6, .int .i64 a7, .int .i64 a8, .int .i64 a9, .int .i64 a10, .int .i64 a11, .int .i64 a12, .int .i64 a13, .int .i64 a14, .int .i64 a15, .int .i64 a16, .int .i64 a17, .int .i64 a18, .int .i64 a19, .int .i64 a20, .slice A7 l7.length c7, .slice (some ad) l8.length c8] 34 (0, 0)) ∧ w'.heap[g2]? = some (.cells #[.int .i64 0, .string ⟨#[]⟩, .string ⟨#[]⟩, .string ⟨#[]⟩, .int .i64 0, .int .i64 0, .int .i64 0, .int .i64 0, .int .i64 0, .int .i64 0, .int .i64 0, .int .i64 0, .int .i64 0, .int .i64 0, .int .i64 0, .int .i64 0, .int .i64 0, .int .i64 0, .int .i64 0, .int .i64 0, .int .i64 0, .slice none 0 0, .slice none 0 0] 34 (0, 0)) ∧ w'.heap[g3]? = some (.cells #[.int .i64 a0, .string a1, .string a2, .string a3, .int .i64 a4, .int .i64 a5, .int .i64 a6, .int .i64 a7, .int .i64 a8, .int .i64 a9, .int .i64 a10, .int .i64 a11, .int .i64 a12, .int .i64 a13, .int .i64 a14, .int .i64 a15, .int .i64 a16, .int .i64 a17, .int .i64 a18, .int .i64 a19, .int .i64 a20, (.slice B7 l7.length d7), (.slice Au_ xs.length cu_)] 34 (0, 0)) ∧ CSat w' (ad.add (i_.toNat * 23)) [.int .i64 (rd_T34 l8 i_).f0, .string (rd_T34 l8 i_).f1, .string (rd_T34 l8 i_).f2, .string (rd_T34 l8 i_).f3, .int .i64 (rd_T34 l8 i_).f4, .int .i64 (rd_T34 l8 i_).f5.f0, .int .i64 (rd_T34 l8 i_).f5.f1, .int .i64 (rd_T34 l8 i_).f5.f2, .int .i64 (rd_T34 l8 i_).f6.f0, .int .i64 (rd_T34 l8 i_).f6.f1, .int .i64 (rd_T34 l8 i_).f6.f2, .int .i64 (rd_T34 l8 i_).f6.f3, .int .i64 (rd_T34 l8 i_).f6.f4.f0, .int .i64 (rd_T34 l8 i_).f6.f4.f1, .int .i64 (rd_T34 l8 i_).f6.f4.f2, .int .i64 (rd_T34 l8 i_).f6.f5.f0, .int .i64 (rd_T34 l8 i_).f6.f5.f1, .int .i64 (rd_T34 l8 i_).f6.f5.f2, .int .i64 (rd_T34 l8 i_).f6.f6.f0, .int .i64 (rd_T34 l8 i_).f6.f6.f1, .int .i64 (rd_T34 l8 i_).f6.f7, .slice B7e (rd_T34 l8 i_).f7.length d7e, .slice B8e (rd_T34 l8 i_).f8.length d8e]) (ds := [9, 11]) #[false, false, false, false, false, false, false, false, false, false, false, false] (by kernel_rfl) rfl rfl ⟨blk_below BK1.out (below_drew1 (Below.refl _ _)), blk_below BK2.out (below_drew1 (Below.refl _ _)), blk_below BK3.out (below_drew1 (Below.refl _ _)), CSat.below HCS.out (below_drew1 (Below.refl _ _))⟩ (fun hHeld => ?_)
      have n0_ := Aside0.mk (below_drew1 HB.out)
      have n1_ := Aside0.mk (blk_drew BK1.out)
      have n2_ := Aside0.mk (blk_drew BK2.out)
      have n3_ := Aside0.mk (blk_drew BK3.out)
      have n4_ := Aside0.mk (Kd.Fr.below FR7.out (below_drew1 (Below.refl _ _)))
      have n5_ := Aside0.mk (Kd.R_drew RO.out)
      have n6_ := Aside0.mk (CSat.below HCS.out (below_drew1 (Below.refl _ _)))
      clear HB BK1 BK2 BK3 FR7 RO HCS
      have HB := n0_
      have BK1 := n1_
      have BK2 := n2_
      have BK3 := n3_
      have FR7 := n4_
      have RO := n5_
      have HCS := n6_
      clear n0_ n1_ n2_ n3_ n4_ n5_ n6_
      generalize wr.drew = wv10_ at HB BK1 BK2 BK3 FR7 RO HCS hHeld ⊢
      refine pure_ (i := 0) (N := some 27) (v := ?_) (a' := ?_) #[true, false, false, false, false, false, false, false, false, false, false, false] rfl rfl (by kernel_rfl) (fun _ _ _ h => h) (Or.inl ⟨by rfl, ?_⟩) ?_ ?_
      rotate_left
      · intro w'
        go_simp
        with_reducible rfl
      rotate_left
      · simp only [Act.put, List.setIfInBounds_toArray, List.set_cons_zero, List.set_cons_succ, i64_w, i32_w]
        rfl
      refine pure_ (i := 2) (N := some 29) (v := ?_) (a' := ?_) #[true, false, true, false, false, false, false, false, false, false, false, false] rfl rfl (by kernel_rfl) (fun _ _ _ h => h) (Or.inl ⟨by rfl, ?_⟩) ?_ ?_
      rotate_left
      · intro w'
        go_simp
        with_reducible rfl
      rotate_left
      · simp only [Act.put, List.setIfInBounds_toArray, List.set_cons_zero, List.set_cons_succ, i64_w, i32_w]
        rfl
      refine pure_ (i := 4) (N := some 31) (v := ?_) (a' := ?_) #[true, false, true, false, true, false, false, false, false, false, false, false] rfl rfl (by kernel_rfl) (fun _ _ _ h => h) (Or.inl ⟨by rfl, ?_⟩) ?_ ?_
      rotate_left
      · intro w'
        go_simp
        with_reducible rfl
      rotate_left
      · simp only [Act.put, List.setIfInBounds_toArray, List.set_cons_zero, List.set_cons_succ, i64_w, i32_w]
        rfl
      refine take_ (i := 1) (N := some 28) (v := ?_) (a' := ?_) #[true, true, true, false, true, false, false, false, false, false, false, false] rfl rfl (by kernel_rfl) (fun _ _ _ h => h) (Or.inl ⟨by rfl, ?_⟩) hHeld ?_ ?_
      rotate_left
      · rintro w' ⟨s1, s2, s3, x0⟩
        refine Eq.trans (ld_run rfl (by first | rfl | (go_simp; done) | (go_simp; rfl)) Try.underlying32 trivial ((.slice Au_ xs.length cu_)) ((blk_cell s3 22).trans rfl)) ?_
        with_reducible rfl
      rotate_left
      · simp only [Act.put, List.setIfInBounds_toArray, List.set_cons_zero, List.set_cons_succ, i64_w, i32_w]
        rfl
      refine take_ (i := 3) (N := some 30) (v := ?_) (a' := ?_) #[true, true, true, true, true, false, false, false, false, false, false, false] rfl rfl (by kernel_rfl) (fun _ _ _ h => h) (Or.inl ⟨by rfl, ?_⟩) hHeld ?_ ?_
      rotate_left
      · rintro w' ⟨s1, s2, s3, x0⟩
        refine Eq.trans (ld_run rfl (by first | rfl | (go_simp; done) | (go_simp; rfl)) Try.underlying32 trivial (.slice (some ad) l8.length c8) ((blk_cell s1 22).trans rfl)) ?_
        with_reducible rfl
      rotate_left
      · simp only [Act.put, List.setIfInBounds_toArray, List.set_cons_zero, List.set_cons_succ, i64_w, i32_w]
        rfl
      refine pure_ (i := 5) (N := some 32) (v := ?_) (a' := ?_) #[true, true, true, true, true, true, false, false, false, false, false, false] rfl rfl (by kernel_rfl) (fun _ _ _ h => h) (Or.inl ⟨by rfl, ?_⟩) ?_ ?_
      rotate_left
      · intro w'
        go_simp
        with_reducible rfl
      rotate_left
      · simp only [Act.put, List.setIfInBounds_toArray, List.set_cons_zero, List.set_cons_succ, i64_w, i32_w]
        rfl
      refine take_ (i := 6) (N := some 33) (v := ?_) (a' := ?_) #[true, true, true, true, true, true, true, false, false, false, false, false] rfl rfl (by kernel_rfl) (fun _ _ _ h => h) (Or.inl ⟨by rfl, ?_⟩) hHeld ?_ ?_
      rotate_left
      · rintro w' ⟨s1, s2, s3, x0⟩
        refine Eq.trans (lds_run rfl (by first | rfl | (go_simp; done) | (go_simp; rfl)) Try.underlying34 ⟨_, rfl⟩ [.int .i64 (rd_T34 l8 i_).f0, .string (rd_T34 l8 i_).f1, .string (rd_T34 l8 i_).f2, .string (rd_T34 l8 i_).f3, .int .i64 (rd_T34 l8 i_).f4, .int .i64 (rd_T34 l8 i_).f5.f0, .int .i64 (rd_T34 l8 i_).f5.f1, .int .i64 (rd_T34 l8 i_).f5.f2, .int .i64 (rd_T34 l8 i_).f6.f0, .int .i64 (rd_T34 l8 i_).f6.f1, .int .i64 (rd_T34 l8 i_).f6.f2, .int .i64 (rd_T34 l8 i_).f6.f3, .int .i64 (rd_T34 l8 i_).f6.f4.f0, .int .i64 (rd_T34 l8 i_).f6.f4.f1, .int .i64 (rd_T34 l8 i_).f6.f4.f2, .int .i64 (rd_T34 l8 i_).f6.f5.f0, .int .i64 (rd_T34 l8 i_).f6.f5.f1, .int .i64 (rd_T34 l8 i_).f6.f5.f2, .int .i64 (rd_T34 l8 i_).f6.f6.f0, .int .i64 (rd_T34 l8 i_).f6.f6.f1, .int .i64 (rd_T34 l8 i_).f6.f7, .slice B7e (rd_T34 l8 i_).f7.length d7e, .slice B8e (rd_T34 l8 i_).f8.length d8e] size34 x0) ?_
        with_reducible rfl
      rotate_left
      · simp only [Act.put, List.setIfInBounds_toArray, List.set_cons_zero, List.set_cons_succ, i64_w, i32_w]
        rfl
      have HSZ := Aside0.mk (below_size HB.out)
      have HLT := Aside0.mk (Kd.R_lt RO.out)
      obtain ⟨bs_, hbs_⟩ : ∃ n, n = wv10_.heap.size := ⟨_, rfl⟩
      have HBS := Aside0.mk hbs_
      clear hbs_
      have HG3 := Aside0.mk (show g3 < bs_ by rw [HBS.out]; exact blk_lt BK3.out)
      refine one_ (i := 7) (N := some 34) #[true, true, true, true, true, true, true, true, false, false, false, false] rfl rfl (by kernel_rfl) (by decide) (fun K hK => ?_)
      refine goes_ Try.func20 (by kernel_rfl) rfl #[.agg #[.int .i64 (rd_T34 l8 i_).f0, .string (rd_T34 l8 i_).f1, .string (rd_T34 l8 i_).f2, .string (rd_T34 l8 i_).f3, .int .i64 (rd_T34 l8 i_).f4, .int .i64 (rd_T34 l8 i_).f5.f0, .int .i64 (rd_T34 l8 i_).f5.f1, .int .i64 (rd_T34 l8 i_).f5.f2, .int .i64 (rd_T34 l8 i_).f6.f0, .int .i64 (rd_T34 l8 i_).f6.f1, .int .i64 (rd_T34 l8 i_).f6.f2, .int .i64 (rd_T34 l8 i_).f6.f3, .int .i64 (rd_T34 l8 i_).f6.f4.f0, .int .i64 (rd_T34 l8 i_).f6.f4.f1, .int .i64 (rd_T34 l8 i_).f6.f4.f2, .int .i64 (rd_T34 l8 i_).f6.f5.f0, .int .i64 (rd_T34 l8 i_).f6.f5.f1, .int .i64 (rd_T34 l8 i_).f6.f5.f2, .int .i64 (rd_T34 l8 i_).f6.f6.f0, .int .i64 (rd_T34 l8 i_).f6.f6.f1, .int .i64 (rd_T34 l8 i_).f6.f7, .slice B7e (rd_T34 l8 i_).f7.length d7e, .slice B8e (rd_T34 l8 i_).f8.length d8e]] (by rfl) rfl rfl (by (try simp only [List.map_toArray, List.map_cons, List.map_nil]); first | done | rfl) ?_
      with_reducible refine (ConOK.calls (HS.out _ HM.out) _ _ _ _ _ _ _ _ _ _ _ _ _ _ _ _ _ _ _ _ _ B7e d7e B8e d8e _ (Kd.C_below HE7.out HB.out) HE7c.out (Kd.C_below HE8.out HB.out) HE8c.out).mono ?_
      rintro e wv11_ ⟨u7, u8, rfl, hF7, hF8, hb⟩
      rw [← HBS.out] at hF7 hF8
      have HF7 := Aside0.mk hF7
      have HF8 := Aside0.mk hF8
      have ASZ := Aside0.mk (Nat.le_trans (Nat.succ_le_of_lt HG3.out) (by rw [HBS.out]; exact hb.size))
      refine ⟨_, rfl, ?_⟩
      have n0_ := Aside0.mk (below_step HB.out hb)
      have n1_ := Aside0.mk (blk_below BK1.out hb)
      have n2_ := Aside0.mk (blk_below BK2.out hb)
      have n3_ := Aside0.mk (blk_below BK3.out hb)
      have n4_ := Aside0.mk (Kd.Fr.below FR7.out hb)
      have n5_ := Aside0.mk (Kd.R_below RO.out hb)
      have n6_ := Aside0.mk (CSat.below HCS.out hb)
      clear HB BK1 BK2 BK3 FR7 RO HCS
      have HB := n0_
      have BK1 := n1_
      have BK2 := n2_
      have BK3 := n3_
      have FR7 := n4_
      have RO := n5_
      have HCS := n6_
      clear n0_ n1_ n2_ n3_ n4_ n5_ n6_
      clear hb hF7 hF8
      refine hK.out _ _ ⟨BK1.out, BK2.out, BK3.out, HCS.out⟩ (fun hHeld => ?_)
      clear hK K
      refine norm_ (a' := ?_) ?_ ?_
      rotate_left
      · show Act.put _ (some 34) _ = _
        simp only [Act.put, List.setIfInBounds_toArray, List.set_cons_zero, List.set_cons_succ, i64_w, i32_w]
        rfl
      refine one_ (i := 8) (N := some 35) #[true, true, true, true, true, true, true, true, true, false, false, false] rfl rfl (by kernel_rfl) (by decide) (fun K hK => ?_)
      refine value_ (w1 := ?_) (v := ?_) (by rfl) rfl ?_ ?_
      rotate_left 2
      · go_simp
        constructor
        · rfl
        · rfl
      refine hK.out _ _ ⟨blk_below BK1.out (below_alloc (Below.refl _ _) _), blk_below BK2.out (below_alloc (Below.refl _ _) _), blk_below BK3.out (below_alloc (Below.refl _ _) _), CSat.below HCS.out (below_alloc (Below.refl _ _) _)⟩ (fun hHeld => ?_)
      clear hK K
      refine norm_ (a' := ?_) ?_ ?_
      rotate_left
      · show Act.put _ (some 35) _ = _
        simp only [Act.put, List.setIfInBounds_toArray, List.set_cons_zero, List.set_cons_succ, i64_w, i32_w]
        rfl
      refine last_ (i := 9) (N := some 36) #[true, true, true, true, true, true, true, true, true, true, false, false] rfl rfl (by kernel_rfl) (by decide) (fun K hK => ?_)
      have HRB := Aside0.mk (Kd.R_base RO.out)
      have HRT := Aside0.mk (Kd.R_typed RO.out)
      refine Kd.R_append_step k34B (g3 + 1) (by rfl) (.tmp 28) (.tmp 35) 32 34 (.agg #[.int .i64 0, .string ⟨#[]⟩, .string ⟨#[]⟩, .string ⟨#[]⟩, .int .i64 0, .int .i64 0, .int .i64 0, .int .i64 0, .int .i64 0, .int .i64 0, .int .i64 0, .int .i64 0, .int .i64 0, .int .i64 0, .int .i64 0, .int .i64 0, .int .i64 0, .int .i64 0, .int .i64 0, .int .i64 0, .int .i64 0, .slice none 0 0, .slice none 0 0]) 240 rfl Try.underlying32 info34 rfl (by decide) (by decide) (.slice Au_ xs.length cu_) xs (rd_T34 l8 i_) [.int .i64 (rd_T34 l8 i_).f0, .string (rd_T34 l8 i_).f1, .string (rd_T34 l8 i_).f2, .string (rd_T34 l8 i_).f3, .int .i64 (rd_T34 l8 i_).f4, .int .i64 (rd_T34 l8 i_).f5.f0, .int .i64 (rd_T34 l8 i_).f5.f1, .int .i64 (rd_T34 l8 i_).f5.f2, .int .i64 (rd_T34 l8 i_).f6.f0, .int .i64 (rd_T34 l8 i_).f6.f1, .int .i64 (rd_T34 l8 i_).f6.f2, .int .i64 (rd_T34 l8 i_).f6.f3, .int .i64 (rd_T34 l8 i_).f6.f4.f0, .int .i64 (rd_T34 l8 i_).f6.f4.f1, .int .i64 (rd_T34 l8 i_).f6.f4.f2, .int .i64 (rd_T34 l8 i_).f6.f5.f0, .int .i64 (rd_T34 l8 i_).f6.f5.f1, .int .i64 (rd_T34 l8 i_).f6.f5.f2, .int .i64 (rd_T34 l8 i_).f6.f6.f0, .int .i64 (rd_T34 l8 i_).f6.f6.f1, .int .i64 (rd_T34 l8 i_).f6.f7, u7, u8] (fun k => g3 + 1 ≤ k) (fun k => bs_ ≤ k) rfl (by first | rfl | (go_simp; done) | (go_simp; rfl)) ?aP (fun k hk => ⟨Nat.le_trans HG3.out hk, fun he => by have := HLT.out k he.symm; rw [← HBS.out] at this; omega⟩) ?aF ?aO (Below.refl _ _) ?aS ?aL ?_
      (case aP => exact k34B_mkM _ _ _ (rd_T34 l8 i_) (Kd.M_lower _ HG3.out HF7.out) (Kd.M_lower _ HG3.out HF8.out))
      (case aF => exact (fun k hk => Nat.le_trans ASZ.out hk))
      (case aO => exact (by (with_reducible repeat (first | apply Kd.R_alloc | apply Kd.R_drewN | apply Kd.R_drew)); exact RO.out))
      (case aS => exact ASZ.out)
      (case aL => have := HXL.out; have := HL8.out; have := HQ.out; omega)
      intro v9_ wv12_ ho hb hg hat
      obtain ⟨A9_, c9_, rfl⟩ := Kd.R_slice ho
      have n0_ := Aside0.mk (below_weaken HB.out (by have := ORD.out; omega) hb)
      have n1_ := Aside0.mk (blk_grown BK1.out hg (fun he => by have := HRB.out _ he.symm; have := ORD.out; omega))
      have n2_ := Aside0.mk (blk_grown BK2.out hg (fun he => by have := HRB.out _ he.symm; have := ORD.out; omega))
      have n3_ := Aside0.mk (blk_grown BK3.out hg (fun he => by have := HRB.out _ he.symm; have := ORD.out; omega))
      have n4_ := Aside0.mk (Kd.Fr.typed FR7.out hg HRT.out (by decide))
      have n5_ := Aside0.mk (ho)
      clear HB BK1 BK2 BK3 FR7 RO
      have HB := n0_
      have BK1 := n1_
      have BK2 := n2_
      have BK3 := n3_
      have FR7 := n4_
      have RO := n5_
      clear n0_ n1_ n2_ n3_ n4_ n5_
      clear ho hb hg hat HRB HRT
      refine hK.out _ _ ?_
      clear hK K
      refine norm_ (a' := ?_) ?_ ?_
      rotate_left
      · show Act.put _ (some 36) _ = _
        simp only [Act.put, List.setIfInBounds_toArray, List.set_cons_zero, List.set_cons_succ, i64_w, i32_w]
        rfl
      refine pure_ (i := 10) (N := some 37) (v := ?_) (a' := ?_) #[true, true, true, true, true, true, true, true, true, true, true, false] rfl rfl (by kernel_rfl) (fun _ _ _ h => h) (Or.inl ⟨by rfl, ?_⟩) ?_ ?_
      rotate_left
      · intro w'
        go_simp
        with_reducible rfl
      rotate_left
      · simp only [Act.put, List.setIfInBounds_toArray, List.set_cons_zero, List.set_cons_succ, i64_w, i32_w]
        rfl
      refine last_ (i := 11) (N := none) #[true, true, true, true, true, true, true, true, true, true, true, true] rfl rfl (by kernel_rfl) (by decide) (fun K hK => ?_)
      refine st_step (by rfl) rfl rfl (g := g3) (j := 22) (by first | rfl | (go_simp; done) | (go_simp; rfl)) (u := (.slice A9_ (xs ++ [(rd_T34 l8 i_)]).length c9_)) (by first | rfl | (go_simp; done) | (go_simp; rfl)) BK3.out 1 size32 rfl (by simp) (by intro x hx; simp [Value.cells] at hx; rcases hx with rfl <;> rfl) #[.int .i64 a0, .string a1, .string a2, .string a3, .int .i64 a4, .int .i64 a5, .int .i64 a6, .int .i64 a7, .int .i64 a8, .int .i64 a9, .int .i64 a10, .int .i64 a11, .int .i64 a12, .int .i64 a13, .int .i64 a14, .int .i64 a15, .int .i64 a16, .int .i64 a17, .int .i64 a18, .int .i64 a19, .int .i64 a20, (.slice B7 l7.length d7), (.slice A9_ (xs ++ [(rd_T34 l8 i_)]).length c9_)] rfl ?_
      intro wv13_ hbk ho
      have n0_ := Aside0.mk (Other.below ho HB.out (by have := ORD.out; omega))
      have n1_ := Aside0.mk (Other.blk ho BK1.out (by have := ORD.out; omega))
      have n2_ := Aside0.mk (Other.blk ho BK2.out (by have := ORD.out; omega))
      have n3_ := Aside0.mk (hbk)
      have n4_ := Aside0.mk (Kd.Fr.other FR7.out ho (by have := ORD.out; omega))
      have n5_ := Aside0.mk (Kd.R_step RO.out (fun k hk_ _ => ho.block k (by have := ORD.out; omega)))
      clear HB BK1 BK2 BK3 FR7 RO
      have HB := n0_
      have BK1 := n1_
      have BK2 := n2_
      have BK3 := n3_
      have FR7 := n4_
      have RO := n5_
      clear n0_ n1_ n2_ n3_ n4_ n5_
      clear hbk ho
      refine hK.out _ _ ?_
      clear hK K
      refine norm_ (a' := ?_) ?_ ?_
      rotate_left
      · show Act.put _ (none) _ = _
        simp only [Act.put, List.setIfInBounds_toArray, List.set_cons_zero, List.set_cons_succ, i64_w, i32_w]
        rfl
      refine done_ (by kernel_rfl) ?_
      go_wp2
      go_roundg (gk - 1)
      case measure => have := HQ.out; have := HC_.out; omega
      case rel => exact ⟨i_ + 1, xs ++ [(rd_T34 l8 i_)], _, _, by rw [show wrap64 (i_ + 1) = i_ + 1 from by have := HQ.out; have := HC_.out; unfold wrap64; omega], ⟨by have := HQ.out; have := HC_.out; omega⟩, ⟨by rw [HX.out]; exact HTN.out⟩, RO, FR7, BK1, BK2, BK3, HB⟩
    · have cb : decide (i_ < (l8.length : Int)) = false := decide_eq_false c_
      have hxe : xs = l8 := by rw [HX.out, List.take_of_length_le (by have := HQ.out; omega)]
      clear HX c_
      subst hxe
      have HRB := Aside0.mk (Kd.R_base RO.out)
      have HRT := Aside0.mk (Kd.R_typed RO.out)
      go_upto_region 11 with (first | ((with_reducible refine gate_dst (N := 22) rfl ?_); (try (refine gate_guard (by rfl) ?_; dsimp only)); refine ld_event rfl rfl (by first | rfl | (go_simp; done) | (go_simp; rfl)) Try.underlying32 trivial (.slice (some ad) xs.length c8) ((blk_cell BK1.out 22).trans rfl) ?_) | ((with_reducible refine gate_dst (N := 39) rfl ?_); (try (refine gate_guard (by rfl) ?_; dsimp only)); refine ld_event rfl rfl (by first | rfl | (go_simp; done) | (go_simp; rfl)) Try.underlying32 trivial ((.slice Au_ xs.length cu_)) ((blk_cell BK3.out 22).trans rfl) ?_) | ((with_reducible refine gate_builtin (b := .append) (xs := #[.tmp 39, .tmp 41]) rfl ?_); at_builtin; refine Kd.R_append k34B (g3 + 1) rfl (.tmp 39) (.tmp 41) 32 34 (.agg #[.int .i64 0, .string ⟨#[]⟩, .string ⟨#[]⟩, .string ⟨#[]⟩, .int .i64 0, .int .i64 0, .int .i64 0, .int .i64 0, .int .i64 0, .int .i64 0, .int .i64 0, .int .i64 0, .int .i64 0, .int .i64 0, .int .i64 0, .int .i64 0, .int .i64 0, .int .i64 0, .int .i64 0, .int .i64 0, .int .i64 0, .slice none 0 0, .slice none 0 0]) 240 rfl Try.underlying32 info34 rfl (by decide) (by decide) (.slice Au_ xs.length cu_) xs b34 [.int .i64 (-5), .string ⟨#[]⟩, .string ⟨#[]⟩, .string ⟨#[]⟩, .int .i64 0, .int .i64 0, .int .i64 0, .int .i64 0, .int .i64 0, .int .i64 0, .int .i64 0, .int .i64 0, .int .i64 0, .int .i64 0, .int .i64 0, .int .i64 0, .int .i64 0, .int .i64 0, .int .i64 0, .int .i64 0, .int .i64 0, .slice none 0 0, .slice none 0 0] (fun k => g3 + 1 ≤ k) (fun _ => False) rfl (by first | rfl | (go_simp; done) | (go_simp; rfl)) ?aP (fun _ hk => hk.elim) ?aF ?aO (Below.refl _ _) ?aS ?aL ?_; (case aP => exact k34B_mkM _ _ _ b34 (.inl ⟨rfl, rfl⟩) (.inl ⟨rfl, rfl⟩)); (case aF => exact (fun k hk => Nat.le_trans (blk_lt BK3.out) hk)); (case aO => exact (by (with_reducible repeat (first | apply Kd.R_alloc | apply Kd.R_drewN | apply Kd.R_drew)); exact RO.out)); (case aS => exact (blk_lt BK3.out)); (case aL => have := HXL.out; have := HL8.out; have := HQ.out; omega); intro v9_ wv10_ ho hb hg hat; obtain ⟨A9_, c9_, rfl⟩ := Kd.R_slice ho; have n0_ := Aside0.mk (below_weaken HB.out (by have := ORD.out; omega) hb); have n1_ := Aside0.mk (blk_grown BK1.out hg (fun he => by have := HRB.out _ he.symm; have := ORD.out; omega)); have n2_ := Aside0.mk (blk_grown BK2.out hg (fun he => by have := HRB.out _ he.symm; have := ORD.out; omega)); have n3_ := Aside0.mk (blk_grown BK3.out hg (fun he => by have := HRB.out _ he.symm; have := ORD.out; omega)); have n4_ := Aside0.mk (Kd.Fr.typed FR7.out hg HRT.out (by decide)); have n5_ := Aside0.mk (ho); clear HB BK1 BK2 BK3 FR7 RO; have HB := n0_; have BK1 := n1_; have BK2 := n2_; have BK3 := n3_; have FR7 := n4_; have RO := n5_; clear n0_ n1_ n2_ n3_ n4_ n5_; clear ho hb hg hat) | ((with_reducible refine gate_store (t := 32) (p := 43) rfl ?_); refine st_event rfl rfl rfl (g := g3) (j := 22) (by first | rfl | (go_simp; done) | (go_simp; rfl)) (u := (.slice A9_ (xs ++ [b34]).length c9_)) (by first | rfl | (go_simp; done) | (go_simp; rfl)) BK3.out 1 size32 rfl (by simp) (by intro x hx; simp [Value.cells] at hx; rcases hx with rfl <;> rfl) #[.int .i64 a0, .string a1, .string a2, .string a3, .int .i64 a4, .int .i64 a5, .int .i64 a6, .int .i64 a7, .int .i64 a8, .int .i64 a9, .int .i64 a10, .int .i64 a11, .int .i64 a12, .int .i64 a13, .int .i64 a14, .int .i64 a15, .int .i64 a16, .int .i64 a17, .int .i64 a18, .int .i64 a19, .int .i64 a20, (.slice B7 l7.length d7), (.slice A9_ (xs ++ [b34]).length c9_)] rfl ?_; intro wv11_ hbk ho; have n0_ := Aside0.mk (Other.below ho HB.out (by have := ORD.out; omega)); have n1_ := Aside0.mk (Other.blk ho BK1.out (by have := ORD.out; omega)); have n2_ := Aside0.mk (Other.blk ho BK2.out (by have := ORD.out; omega)); have n3_ := Aside0.mk (hbk); have n4_ := Aside0.mk (Kd.Fr.other FR7.out ho (by have := ORD.out; omega)); have n5_ := Aside0.mk (Kd.R_step RO.out (fun k hk_ _ => ho.block k (by have := ORD.out; omega))); clear HB BK1 BK2 BK3 FR7 RO; have HB := n0_; have BK1 := n1_; have BK2 := n2_; have BK3 := n3_; have FR7 := n4_; have RO := n5_; clear n0_ n1_ n2_ n3_ n4_ n5_; clear hbk ho))
      clear HRB HRT
      obtain ⟨_, _, rfl', hlc, _⟩ := Kd.R_reads RO.out
      injection rfl' with e1_ e2_ e3_
      subst e1_ e3_
      clear e2_
      have RO1 := RO.out
      clear RO
      simp only [List.length_append, List.length_singleton] at RO1 hlc BK3
      have HLC := Aside0.mk hlc
      have RO := Aside0.mk RO1
      clear hlc RO1
      go_upto_region 12 with (first | ((with_reducible refine gate_dst (N := 45) rfl ?_); (try (refine gate_guard (by rfl) ?_; dsimp only)); refine ld_event rfl rfl (by first | rfl | (go_simp; done) | (go_simp; rfl)) Try.underlying32 trivial ((.slice A9_ (xs.length + 1) c9_)) ((blk_cell BK3.out 22).trans rfl) ?_) | ((with_reducible refine gate_dst (N := 47) rfl ?_); (try (refine gate_guard (by rfl) ?_; dsimp only)); refine ld_event rfl rfl (by first | rfl | (go_simp; done) | (go_simp; rfl)) Try.underlying32 trivial (.slice (some ad) xs.length c8) ((blk_cell BK1.out 22).trans rfl) ?_) | ((with_reducible refine gate_dst (N := 49) rfl ?_); refine Kd.cut_event rfl 32 34 (.tmp 45) (.tmp 48) rfl Try.underlying32 (by kernel_rfl) (A9_) (_) (c9_) (xs.length) rfl (by first | rfl | (go_simp; done) | (go_simp; rfl)) (by have := HLC.out; omega) ?_) | ((with_reducible refine gate_store (t := 32) (p := 50) rfl ?_); refine st_event rfl rfl rfl (g := g3) (j := 22) (by first | rfl | (go_simp; done) | (go_simp; rfl)) (u := .slice A9_ xs.length c9_) (by first | rfl | (go_simp; done) | (go_simp; rfl)) BK3.out 1 size32 rfl (by simp) (by intro x hx; simp [Value.cells] at hx; rcases hx with rfl <;> rfl) #[.int .i64 a0, .string a1, .string a2, .string a3, .int .i64 a4, .int .i64 a5, .int .i64 a6, .int .i64 a7, .int .i64 a8, .int .i64 a9, .int .i64 a10, .int .i64 a11, .int .i64 a12, .int .i64 a13, .int .i64 a14, .int .i64 a15, .int .i64 a16, .int .i64 a17, .int .i64 a18, .int .i64 a19, .int .i64 a20, (.slice B7 l7.length d7), .slice A9_ xs.length c9_] rfl ?_; intro wv12_ hbk ho; have n0_ := Aside0.mk (Other.below ho HB.out (by have := ORD.out; omega)); have n1_ := Aside0.mk (Other.blk ho BK1.out (by have := ORD.out; omega)); have n2_ := Aside0.mk (Other.blk ho BK2.out (by have := ORD.out; omega)); have n3_ := Aside0.mk (hbk); have n4_ := Aside0.mk (Kd.Fr.other FR7.out ho (by have := ORD.out; omega)); have n5_ := Aside0.mk (Kd.R_step RO.out (fun k hk_ _ => ho.block k (by have := ORD.out; omega))); clear HB BK1 BK2 BK3 FR7 RO; have HB := n0_; have BK1 := n1_; have BK2 := n2_; have BK3 := n3_; have FR7 := n4_; have RO := n5_; clear n0_ n1_ n2_ n3_ n4_ n5_; clear hbk ho))
      go_wp2_with (first | ((with_reducible refine gate_dst (N := 51) rfl ?_); (try (refine gate_guard (by rfl) ?_; dsimp only)); refine ldb_event rfl rfl (by first | rfl | (go_simp; done) | (go_simp; rfl)) Try.underlying34 ⟨_, rfl⟩ BK3.out 23 size34 [.int .i64 a0, .string a1, .string a2, .string a3, .int .i64 a4, .int .i64 a5, .int .i64 a6, .int .i64 a7, .int .i64 a8, .int .i64 a9, .int .i64 a10, .int .i64 a11, .int .i64 a12, .int .i64 a13, .int .i64 a14, .int .i64 a15, .int .i64 a16, .int .i64 a17, .int .i64 a18, .int .i64 a19, .int .i64 a20, (.slice B7 l7.length d7), .slice A9_ xs.length c9_] rfl rfl ?_) | ((with_reducible refine gate_store (t := 34) (p := 2) rfl ?_); refine st_event rfl rfl rfl (g := g2) (j := 0) (by first | rfl | (go_simp; done) | (go_simp; rfl)) (u := .agg #[.int .i64 a0, .string a1, .string a2, .string a3, .int .i64 a4, .int .i64 a5, .int .i64 a6, .int .i64 a7, .int .i64 a8, .int .i64 a9, .int .i64 a10, .int .i64 a11, .int .i64 a12, .int .i64 a13, .int .i64 a14, .int .i64 a15, .int .i64 a16, .int .i64 a17, .int .i64 a18, .int .i64 a19, .int .i64 a20, (.slice B7 l7.length d7), .slice A9_ xs.length c9_]) (by first | rfl | (go_simp; done) | (go_simp; rfl)) BK2.out 23 size34 rfl (by simp) (by intro x hx; simp [Value.cells] at hx; rcases hx with rfl | rfl | rfl | rfl | rfl | rfl | rfl | rfl | rfl | rfl | rfl | rfl | rfl | rfl | rfl | rfl | rfl | rfl | rfl | rfl | rfl | rfl | rfl <;> rfl) #[.int .i64 a0, .string a1, .string a2, .string a3, .int .i64 a4, .int .i64 a5, .int .i64 a6, .int .i64 a7, .int .i64 a8, .int .i64 a9, .int .i64 a10, .int .i64 a11, .int .i64 a12, .int .i64 a13, .int .i64 a14, .int .i64 a15, .int .i64 a16, .int .i64 a17, .int .i64 a18, .int .i64 a19, .int .i64 a20, (.slice B7 l7.length d7), .slice A9_ xs.length c9_] rfl ?_; intro wv13_ hbk ho; have n0_ := Aside0.mk (Other.below ho HB.out (by have := ORD.out; omega)); have n1_ := Aside0.mk (Other.blk ho BK1.out (by have := ORD.out; omega)); have n2_ := Aside0.mk (hbk); have n3_ := Aside0.mk (Other.blk ho BK3.out (by have := ORD.out; omega)); have n4_ := Aside0.mk (Kd.Fr.other FR7.out ho (by have := ORD.out; omega)); have n5_ := Aside0.mk (Kd.R_step RO.out (fun k hk_ _ => ho.block k (by have := ORD.out; omega))); clear HB BK1 BK2 BK3 FR7 RO; have HB := n0_; have BK1 := n1_; have BK2 := n2_; have BK3 := n3_; have FR7 := n4_; have RO := n5_; clear n0_ n1_ n2_ n3_ n4_ n5_; clear hbk ho))
      (try simp only [Exit.inBlock, Exit.then])
      refine bodyPost_ret (results_cell_row rfl _ _ g2 34 #[.int .i64 a0, .string a1, .string a2, .string a3, .int .i64 a4, .int .i64 a5, .int .i64 a6, .int .i64 a7, .int .i64 a8, .int .i64 a9, .int .i64 a10, .int .i64 a11, .int .i64 a12, .int .i64 a13, .int .i64 a14, .int .i64 a15, .int .i64 a16, .int .i64 a17, .int .i64 a18, .int .i64 a19, .int .i64 a20, (.slice B7 l7.length d7), .slice A9_ xs.length c9_] (0, 0) _ rfl BK2.out Try.underlying34 rfl size34) rfl ?_
      exact ⟨_, _, rfl, Kd.Fr.lower FR7.out (by have := ORD.out; omega), Kd.Fr.lower (b := g3 + 1) (Kd.Fr.of (.inr ⟨A9_, c9_, rfl, RO.out⟩)) (by have := ORD.out; omega), HB.out⟩
end Go.Proofs.Ytkfbkjcdngipcaa.PTreeEquals
