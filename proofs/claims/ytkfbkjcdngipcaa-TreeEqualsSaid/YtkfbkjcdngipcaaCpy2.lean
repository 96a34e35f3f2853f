import Derived.Test.YtkfbkjcdngipcaaCpy1
import Derived.Test.YtkfbkjcdngipcaaKinC
namespace Go.Proofs.Ytkfbkjcdngipcaa.PTreeEquals
open Go.RowKit Go.Proofs.YtkfbkjcdngipcaaW.PrintWords Go.Proofs.YtkfbkjcdngipcaaW.PrintLast Go.Proofs.YtkfbkjcdngipcaaW.PrintMore
attribute [local go_sem] nil24 nil25 nil26 nil31 nil32 nnil24 nnil25 nnil26 nnil31 nnil32 max2_int min2_int max_two min_two max_three min_three max_four min_four
set_option linter.unusedVariables false
set_option linter.unusedSimpArgs false
theorem size24 : (Try.prog.info? 24).map (fun i => i.size) = some 1 := by kernel_rfl
theorem size31 : (Try.prog.info? 31).map (fun i => i.size) = some 1 := by kernel_rfl
/-- The copy of a list of expressions. -/
def ExprsOK (l : List S54) : Prop := ∀ (A : Option Addr) (c : Nat) (w : World), Kd.C k54 w A l.length l → l.length ≤ c → Calls Try.prog 34 #[.slice A l.length c] w fun e w' => ∃ v, e = .returned v ∧ Kd.Fr (Kd.sliceB 54 k54B b54) w.heap.size w' l [v] ∧ Below w.heap.size w w'
theorem ExprsOK.calls {l : List S54} (h : ExprsOK l) (A : Option Addr) (c : Nat) (w : World) (hr : Kd.C k54 w A l.length l) (hc : l.length ≤ c) : Calls Try.prog 34 #[.slice A l.length c] w fun e w' => ∃ v, e = .returned v ∧ Kd.Fr (Kd.sliceB 54 k54B b54) w.heap.size w' l [v] ∧ Below w.heap.size w w' := h A c w hr hc
set_option maxHeartbeats 8000000 in
set_option maxRecDepth 100000 in
theorem expr.calls (a0 a1 : Int) (a2 : ByteArray) (l3 : List S23) (l4 : List S54) (hk : ExprsOK l4) (A3 : Option Addr) (c3 : Nat) (A4 : Option Addr) (c4 : Nat) (w : World) (hr3 : Kd.C k23 w A3 l3.length l3) (hc3 : l3.length ≤ c3) (hl3 : l3.length * 24 ≤ 140737488351232) (hr4 : Kd.C k54 w A4 l4.length l4) (hc4 : l4.length ≤ c4) :
    Calls Try.prog 21 #[.agg #[.int .i64 a0, .int .i64 a1, .string a2, .slice A3 l3.length c3, .slice A4 l4.length c4]] w fun e w' => ∃ v3 v4, e = .returned (.agg #[.int .i64 a0, .int .i64 a1, .string a2, v3, v4]) ∧ Kd.Fr (Kd.sliceB 23 k23 b23) w.heap.size w' l3 [v3] ∧ Kd.Fr (Kd.sliceB 54 k54B b54) w.heap.size w' l4 [v4] ∧ Below w.heap.size w w' := by
  have hu54 := Try.underlying54
  have hu24 := Try.underlying24
  have hu31 := Try.underlying31
  have HR3 := Aside0.mk hr3
  have HC3 := Aside0.mk hc3
  have HL3 := Aside0.mk hl3
  have HR4 := Aside0.mk hr4
  have HC4 := Aside0.mk hc4
  clear hr3 hc3 hl3 hr4 hc4
  have HB := Aside0.mk (Below.refl w.heap.size w)
  go_enter Try.func21, Try.ntmps21
  go_upto_region 2 with (first | ((with_reducible refine gate_dst (N := 1) rfl ?_); (try (refine gate_guard (by rfl) ?_; dsimp only)); refine box_event ?hg (N := 1) ?hd (cs := #[.int .i64 a0, .int .i64 a1, .string a2, .slice A3 l3.length c3, .slice A4 l4.length c4]) (t := 54) ?hr ?_; (case hd => rfl); (case hg => rfl); (case hr => first | (go_simp; done) | (go_simp; rfl)); intro g1 hg wv1_ hbox hb; have n0_ := Aside0.mk (below_step HB.out hb); have n1_ := Aside0.mk (hbox); have n2_ := Aside0.mk ((show w.heap.size ≤ g1 by rw [hg]; exact below_size HB.out)); clear HB; have HB := n0_; have BK1 := n1_; have ORD := n2_; clear n0_ n1_ n2_; clear hb hbox hg) | ((with_reducible refine gate_dst (N := 2) rfl ?_); (try (refine gate_guard (by rfl) ?_; dsimp only)); refine box_event ?hg (N := 2) ?hd (cs := #[.int .i64 0, .int .i64 0, .string ⟨#[]⟩, .slice none 0 0, .slice none 0 0]) (t := 54) ?hr ?_; (case hd => rfl); (case hg => rfl); (case hr => first | (go_simp; done) | (go_simp; rfl)); intro g2 hg wv2_ hbox hb; have n0_ := Aside0.mk (below_step HB.out hb); have n1_ := Aside0.mk (blk_below BK1.out hb); have n2_ := Aside0.mk (hbox); have n3_ := Aside0.mk (And.intro ORD.out (show g1 < g2 by rw [hg]; exact blk_lt BK1.out)); clear HB BK1 ORD; have HB := n0_; have BK1 := n1_; have BK2 := n2_; have ORD := n3_; clear n0_ n1_ n2_ n3_; clear hb hbox hg) | ((with_reducible refine gate_dst (N := 4) rfl ?_); (try (refine gate_guard (by rfl) ?_; dsimp only)); refine ldb_event rfl rfl (by first | rfl | (go_simp; done) | (go_simp; rfl)) Try.underlying54 ⟨_, rfl⟩ BK1.out 5 size54 [.int .i64 a0, .int .i64 a1, .string a2, .slice A3 l3.length c3, .slice A4 l4.length c4] rfl rfl ?_) | ((with_reducible refine gate_dst (N := 3) rfl ?_); (try (refine gate_guard (by rfl) ?_; dsimp only)); refine box_event ?hg (N := 3) ?hd (cs := #[.int .i64 0, .int .i64 0, .string ⟨#[]⟩, .slice none 0 0, .slice none 0 0]) (t := 54) ?hr ?_; (case hd => rfl); (case hg => rfl); (case hr => first | (go_simp; done) | (go_simp; rfl)); intro g3 hg wv3_ hbox hb; have n0_ := Aside0.mk (below_step HB.out hb); have n1_ := Aside0.mk (blk_below BK1.out hb); have n2_ := Aside0.mk (blk_below BK2.out hb); have n3_ := Aside0.mk (hbox); have n4_ := Aside0.mk (And.intro ORD.out (show g2 < g3 by rw [hg]; exact blk_lt BK2.out)); clear HB BK1 BK2 ORD; have HB := n0_; have BK1 := n1_; have BK2 := n2_; have BK3 := n3_; have ORD := n4_; clear n0_ n1_ n2_ n3_ n4_; clear hb hbox hg) | ((with_reducible refine gate_store (t := 54) (p := 3) rfl ?_); refine st_event rfl rfl rfl (g := g3) (j := 0) (by first | rfl | (go_simp; done) | (go_simp; rfl)) (u := .agg #[.int .i64 a0, .int .i64 a1, .string a2, .slice A3 l3.length c3, .slice A4 l4.length c4]) (by first | rfl | (go_simp; done) | (go_simp; rfl)) BK3.out 5 size54 rfl (by simp) (by intro x hx; simp [Value.cells] at hx; rcases hx with rfl | rfl | rfl | rfl | rfl <;> rfl) #[.int .i64 a0, .int .i64 a1, .string a2, .slice A3 l3.length c3, .slice A4 l4.length c4] rfl ?_; intro wv4_ hbk ho; have n0_ := Aside0.mk (Other.below ho HB.out (by have := ORD.out; omega)); have n1_ := Aside0.mk (Other.blk ho BK1.out (by have := ORD.out; omega)); have n2_ := Aside0.mk (Other.blk ho BK2.out (by have := ORD.out; omega)); have n3_ := Aside0.mk (hbk); clear HB BK1 BK2 BK3; have HB := n0_; have BK1 := n1_; have BK2 := n2_; have BK3 := n3_; clear n0_ n1_ n2_ n3_; clear hbk ho))
  go_upto_region 3 with (first | ((with_reducible refine gate_dst (N := 6) rfl ?_); (try (refine gate_guard (by rfl) ?_; dsimp only)); refine ld_event rfl rfl (by first | rfl | (go_simp; done) | (go_simp; rfl)) Try.underlying24 trivial (.slice A3 l3.length c3) ((blk_cell BK1.out 3).trans rfl) ?_) | ((with_reducible refine gate_callee (f := 18) rfl ?_); (try (refine gate_guard (by rfl) ?_; dsimp only)); refine goesL_ (some 7) rfl rfl Try.func18 (by kernel_rfl) rfl #[.slice A3 l3.length c3] rfl (by (try simp only [List.map_toArray, List.map_cons, List.map_nil]); first | done | rfl) ?_; (with_reducible refine (dates.calls A3 c3 l3 _ (Kd.C_below HR3.out HB.out) HC3.out HL3.out).mono ?_); rintro e wv5_ ⟨v3, rfl, hF, hb⟩; obtain ⟨B3, d3, rfl, _, _, _⟩ := Kd.sB_read (Kd.Fr.K hF); refine ⟨_, rfl, ?_⟩; have n0_ := Aside0.mk (below_step HB.out hb); have n1_ := Aside0.mk (blk_below BK1.out hb); have n2_ := Aside0.mk (blk_below BK2.out hb); have n3_ := Aside0.mk (blk_below BK3.out hb); have n4_ := Aside0.mk (Kd.Fr.lower (b' := g3 + 1) hF (blk_lt BK3.out)); clear HB BK1 BK2 BK3; have HB := n0_; have BK1 := n1_; have BK2 := n2_; have BK3 := n3_; have FR3 := n4_; clear n0_ n1_ n2_ n3_ n4_; clear hb hF) | ((with_reducible refine gate_store (t := 24) (p := 8) rfl ?_); refine st_event rfl rfl rfl (g := g3) (j := 3) (by first | rfl | (go_simp; done) | (go_simp; rfl)) (u := (.slice B3 l3.length d3)) (by first | rfl | (go_simp; done) | (go_simp; rfl)) BK3.out 1 size24 rfl (by simp) (by intro x hx; simp [Value.cells] at hx; rcases hx with rfl <;> rfl) #[.int .i64 a0, .int .i64 a1, .string a2, (.slice B3 l3.length d3), .slice A4 l4.length c4] rfl ?_; intro wv6_ hbk ho; have n0_ := Aside0.mk (Other.below ho HB.out (by have := ORD.out; omega)); have n1_ := Aside0.mk (Other.blk ho BK1.out (by have := ORD.out; omega)); have n2_ := Aside0.mk (Other.blk ho BK2.out (by have := ORD.out; omega)); have n3_ := Aside0.mk (hbk); have n4_ := Aside0.mk (Kd.Fr.other FR3.out ho (by have := ORD.out; omega)); clear HB BK1 BK2 BK3 FR3; have HB := n0_; have BK1 := n1_; have BK2 := n2_; have BK3 := n3_; have FR3 := n4_; clear n0_ n1_ n2_ n3_ n4_; clear hbk ho))
  go_upto_region 4 with (first | ((with_reducible refine gate_dst (N := 10) rfl ?_); (try (refine gate_guard (by rfl) ?_; dsimp only)); refine ld_event rfl rfl (by first | rfl | (go_simp; done) | (go_simp; rfl)) Try.underlying31 trivial (.slice A4 l4.length c4) ((blk_cell BK1.out 4).trans rfl) ?_) | ((with_reducible refine gate_callee (f := 34) rfl ?_); (try (refine gate_guard (by rfl) ?_; dsimp only)); refine goesL_ (some 11) rfl rfl Try.func34 (by kernel_rfl) rfl #[.slice A4 l4.length c4] rfl (by (try simp only [List.map_toArray, List.map_cons, List.map_nil]); first | done | rfl) ?_; (with_reducible refine (ExprsOK.calls hk A4 c4 _ (Kd.C_below HR4.out HB.out) HC4.out).mono ?_); rintro e wv7_ ⟨v4, rfl, hF, hb⟩; obtain ⟨B4, d4, rfl, _, _, _⟩ := Kd.sB_read (Kd.Fr.K hF); refine ⟨_, rfl, ?_⟩; have n0_ := Aside0.mk (below_step HB.out hb); have n1_ := Aside0.mk (blk_below BK1.out hb); have n2_ := Aside0.mk (blk_below BK2.out hb); have n3_ := Aside0.mk (blk_below BK3.out hb); have n4_ := Aside0.mk (Kd.Fr.below FR3.out hb); have n5_ := Aside0.mk (Kd.Fr.lower (b' := g3 + 1) hF (blk_lt BK3.out)); clear HB BK1 BK2 BK3 FR3; have HB := n0_; have BK1 := n1_; have BK2 := n2_; have BK3 := n3_; have FR3 := n4_; have FR4 := n5_; clear n0_ n1_ n2_ n3_ n4_ n5_; clear hb hF) | ((with_reducible refine gate_store (t := 31) (p := 12) rfl ?_); refine st_event rfl rfl rfl (g := g3) (j := 4) (by first | rfl | (go_simp; done) | (go_simp; rfl)) (u := (.slice B4 l4.length d4)) (by first | rfl | (go_simp; done) | (go_simp; rfl)) BK3.out 1 size31 rfl (by simp) (by intro x hx; simp [Value.cells] at hx; rcases hx with rfl <;> rfl) #[.int .i64 a0, .int .i64 a1, .string a2, (.slice B3 l3.length d3), (.slice B4 l4.length d4)] rfl ?_; intro wv8_ hbk ho; have n0_ := Aside0.mk (Other.below ho HB.out (by have := ORD.out; omega)); have n1_ := Aside0.mk (Other.blk ho BK1.out (by have := ORD.out; omega)); have n2_ := Aside0.mk (Other.blk ho BK2.out (by have := ORD.out; omega)); have n3_ := Aside0.mk (hbk); have n4_ := Aside0.mk (Kd.Fr.other FR3.out ho (by have := ORD.out; omega)); have n5_ := Aside0.mk (Kd.Fr.other FR4.out ho (by have := ORD.out; omega)); clear HB BK1 BK2 BK3 FR3 FR4; have HB := n0_; have BK1 := n1_; have BK2 := n2_; have BK3 := n3_; have FR3 := n4_; have FR4 := n5_; clear n0_ n1_ n2_ n3_ n4_ n5_; clear hbk ho))
  go_wp2_with (first | ((with_reducible refine gate_dst (N := 13) rfl ?_); (try (refine gate_guard (by rfl) ?_; dsimp only)); refine ldb_event rfl rfl (by first | rfl | (go_simp; done) | (go_simp; rfl)) Try.underlying54 ⟨_, rfl⟩ BK3.out 5 size54 [.int .i64 a0, .int .i64 a1, .string a2, (.slice B3 l3.length d3), (.slice B4 l4.length d4)] rfl rfl ?_) | ((with_reducible refine gate_store (t := 54) (p := 2) rfl ?_); refine st_event rfl rfl rfl (g := g2) (j := 0) (by first | rfl | (go_simp; done) | (go_simp; rfl)) (u := .agg #[.int .i64 a0, .int .i64 a1, .string a2, (.slice B3 l3.length d3), (.slice B4 l4.length d4)]) (by first | rfl | (go_simp; done) | (go_simp; rfl)) BK2.out 5 size54 rfl (by simp) (by intro x hx; simp [Value.cells] at hx; rcases hx with rfl | rfl | rfl | rfl | rfl <;> rfl) #[.int .i64 a0, .int .i64 a1, .string a2, (.slice B3 l3.length d3), (.slice B4 l4.length d4)] rfl ?_; intro wv9_ hbk ho; have n0_ := Aside0.mk (Other.below ho HB.out (by have := ORD.out; omega)); have n1_ := Aside0.mk (Other.blk ho BK1.out (by have := ORD.out; omega)); have n2_ := Aside0.mk (hbk); have n3_ := Aside0.mk (Other.blk ho BK3.out (by have := ORD.out; omega)); have n4_ := Aside0.mk (Kd.Fr.other FR3.out ho (by have := ORD.out; omega)); have n5_ := Aside0.mk (Kd.Fr.other FR4.out ho (by have := ORD.out; omega)); clear HB BK1 BK2 BK3 FR3 FR4; have HB := n0_; have BK1 := n1_; have BK2 := n2_; have BK3 := n3_; have FR3 := n4_; have FR4 := n5_; clear n0_ n1_ n2_ n3_ n4_ n5_; clear hbk ho))
  (try simp only [Exit.inBlock, Exit.then])
  refine bodyPost_ret (results_cell_row rfl _ _ g2 54 #[.int .i64 a0, .int .i64 a1, .string a2, (.slice B3 l3.length d3), (.slice B4 l4.length d4)] (0, 0) _ rfl BK2.out Try.underlying54 rfl size54) rfl ?_
  exact ⟨_, _, rfl, Kd.Fr.lower FR3.out (by have := ORD.out; omega), Kd.Fr.lower FR4.out (by have := ORD.out; omega), HB.out⟩
theorem info54 : (Try.prog.info? 54).map (fun i => (i.zero, i.size, i.bytes)) = some (some (.agg #[.int .i64 0, .int .i64 0, .string ⟨#[]⟩, .slice none 0 0, .slice none 0 0]), 5, 80) := by kernel_rfl
theorem take_next {l : List S54} {i : Int} (h0 : 0 ≤ i) (h1 : i < l.length) : l.take i.toNat ++ [rd_T54 l i] = l.take (i + 1).toNat := by
  have h : (i + 1).toNat = i.toNat + 1 := by omega
  have hl : i.toNat < l.length := by omega
  rw [h, List.take_add_one, List.getElem?_eq_getElem hl]
  simp [rd_T54, hl]
set_option maxHeartbeats 8000000 in
set_option maxRecDepth 100000 in
theorem exprs.of (l : List S54) (hl : l.length * 80 ≤ 140737488351232) (hs : ∀ x ∈ l, ExprsOK x.f4 ∧ x.f3.length * 24 ≤ 140737488351232) : ExprsOK l := by
  intro A c w hr hc
  have hu54 := Try.underlying54
  have hu24 := Try.underlying24
  have hu31 := Try.underlying31
  have HR := Aside0.mk hr
  have HL := Aside0.mk hl
  have HS := Aside0.mk hs
  have hn : l.length < 4611686018427387904 := by omega
  have HB := Aside0.mk (Below.refl w.heap.size w)
  cases A with
  | none =>
    have h0 : l = [] := by
      rcases Nat.eq_zero_or_pos l.length with h | h
      · exact List.eq_nil_of_length_eq_zero h
      · obtain ⟨ad, he, _⟩ := hr.2.2 h
        cases he
    clear hr hs
    subst h0
    go_enter Try.func34, Try.ntmps34
    go_wp2
    go_ret
    exact ⟨_, rfl, Kd.Fr.of (ok := fun _ => True) (.inl ⟨rfl, rfl⟩), by repeat (first | (with_reducible first | exact HB.out | apply below_alloc | apply pw_below_drewN | apply below_drew1) | exact HB.out)⟩
  | some ad =>
  clear hr hl hs
  go_enter Try.func34, Try.ntmps34
  go_upto_region 4 with (((with_reducible refine gate_dst (N := 10) rfl ?_); refine Kd.R_make0 k54B (w0 := w) w.heap.size 54 rfl (N := 10) rfl 31 (.const (.int .i64 0)) (.tmp 9) rfl (l.length + 1) rfl (by first | rfl | (go_simp; done) | (go_simp; rfl)) Try.underlying31 (.agg #[.int .i64 0, .int .i64 0, .string ⟨#[]⟩, .slice none 0 0, .slice none 0 0]) 80 info54 (by decide) (by have := HL.out; omega) (by repeat (first | (with_reducible first | exact HB.out | apply below_alloc | apply pw_below_drewN | apply below_drew1) | exact HB.out)) (below_size (by repeat (first | (with_reducible first | exact HB.out | apply below_alloc | apply pw_below_drewN | apply below_drew1) | exact HB.out))) ?_; intro g w3 hg ho hb hb2; have n0_ := Aside0.mk hb; have n1_ := Aside0.mk ho; clear HB; have HB := n0_; have HO := n1_; clear n0_ n1_ hb hb2 ho hg))
  go_wp2
  go_loopg [3, 4] l.length (fun kq v3 v4 w' => ∃ (i_ : Int) (xs : List S54) (u_ : Value), u_ = v3 ∧ v4 = .int .i64 i_ ∧ Aside0 (0 ≤ i_ ∧ i_ + (kq : Int) = (l.length : Int)) ∧ Aside0 (xs = l.take i_.toNat) ∧ Aside0 (Kd.R k54B 54 w' w.heap.size (fun _ => True) u_ xs) ∧ Aside0 (Below w.heap.size w w'))
  case atStart => exact ⟨0, [], _, rfl, rfl, ⟨by omega, by omega⟩, ⟨rfl⟩, HO, HB⟩
  case round =>
    clear HO HB
    obtain ⟨i_, xs, u_, rfl, rfl, HQ, HX, HO, HB⟩ := hrel
    have HXL := Aside0.mk (show xs.length ≤ l.length ∧ (xs.length : Int) = i_ by rw [HX.out, List.length_take]; have := HQ.out; omega)
    have HLT := Aside0.mk (Kd.R_lt HO.out)
    have HSZ := Aside0.mk (below_size HB.out)
    by_cases c_ : i_ < (l.length : Int)
    · have cb : decide (i_ < (l.length : Int)) = true := decide_eq_true c_
      have p_ : 0 ≤ i_ := HQ.out.1
      obtain ⟨ad1, cv_, e_, _, hK_, hc0_⟩ := Kd.C_get HR.out z54 i_ p_ c_
      cases e_
      obtain ⟨B3, d3, B4, d4, rfl, hl3, hi3, hl4, hi4⟩ := k54_open hK_
      have HCS := Aside0.mk (show ∀ j v, ([.int .i64 (rd_T54 l i_).f0, .int .i64 (rd_T54 l i_).f1, .string (rd_T54 l i_).f2, .slice B3 (rd_T54 l i_).f3.length d3, .slice B4 (rd_T54 l i_).f4.length d4] : List Value)[j]? = some v → wr.cell? ((ad.add (i_.toNat * 5)).add j) = some v from fun j v hj => by have h1 := hc0_ j v hj; have h2 := (HB.out.cell (World.block_lt_of_cell? w _ h1)).trans h1; rw [World_add_add]; exact h2)
      have HE3 := Aside0.mk (show Kd.C k23 w B3 (rd_T54 l i_).f3.length (rd_T54 l i_).f3 from hi3)
      have HE3c := Aside0.mk (show (rd_T54 l i_).f3.length ≤ d3 from hl3)
      have HE4 := Aside0.mk (show Kd.C k54 w B4 (rd_T54 l i_).f4.length (rd_T54 l i_).f4 from hi4)
      have HE4c := Aside0.mk (show (rd_T54 l i_).f4.length ≤ d4 from hl4)
      have HM := Aside0.mk (rd_mem54 p_ c_)
      clear hK_ hc0_ hi3 hi4 hl3 hl4
      have HC_ := Aside0.mk c_
      have HTN := Aside0.mk (take_next p_ c_)
      replace p_ := eq_true p_
      replace c_ := eq_true c_
      go_wp2_with (first | ((with_reducible refine gate_dst (N := 21) rfl ?_); refine load_event (t := 54) (p := .tmp 20) (ad := ad.add (i_.toNat * 5)) rfl rfl (by first | rfl | (go_simp; done) | (go_simp; rfl)) Try.underlying54 ⟨_, rfl⟩ [.int .i64 (rd_T54 l i_).f0, .int .i64 (rd_T54 l i_).f1, .string (rd_T54 l i_).f2, .slice B3 (rd_T54 l i_).f3.length d3, .slice B4 (rd_T54 l i_).f4.length d4] size54 HCS.out ?_) | ((with_reducible refine gate_callee (f := 21) rfl ?_); (try (refine gate_guard (by rfl) ?_; dsimp only)); refine goesL_ (some 22) rfl rfl Try.func21 (by kernel_rfl) rfl #[.agg #[.int .i64 (rd_T54 l i_).f0, .int .i64 (rd_T54 l i_).f1, .string (rd_T54 l i_).f2, .slice B3 (rd_T54 l i_).f3.length d3, .slice B4 (rd_T54 l i_).f4.length d4]] rfl (by (try simp only [List.map_toArray, List.map_cons, List.map_nil]); first | done | rfl) ?_; (with_reducible refine (expr.calls _ _ _ (rd_T54 l i_).f3 (rd_T54 l i_).f4 (HS.out _ HM.out).1 B3 d3 B4 d4 _ (Kd.C_below HE3.out HB.out) HE3c.out (HS.out _ HM.out).2 (Kd.C_below HE4.out HB.out) HE4c.out).mono ?_); rintro e wv1_ ⟨u3, u4, rfl, hF3, hF4, hb⟩; have HF3 := Aside0.mk hF3; have HF4 := Aside0.mk hF4; refine ⟨_, rfl, ?_⟩; have n0_ := Aside0.mk (below_step HB.out hb); have n1_ := Aside0.mk (Kd.R_below HO.out hb); clear HB HO; have HB := n0_; have HO := n1_; clear n0_ n1_; clear hb hF3 hF4) | ((with_reducible refine gate_builtin (b := .append) (xs := #[.tmp 17, .tmp 23]) rfl ?_); at_builtin; refine Kd.R_append k54B (w0 := w) w.heap.size rfl (.tmp 17) (.tmp 23) 31 54 (.agg #[.int .i64 0, .int .i64 0, .string ⟨#[]⟩, .slice none 0 0, .slice none 0 0]) 80 rfl Try.underlying31 info54 rfl (by decide) (by decide) u_ xs (rd_T54 l i_) [.int .i64 (rd_T54 l i_).f0, .int .i64 (rd_T54 l i_).f1, .string (rd_T54 l i_).f2, u3, u4] (fun _ => True) (fun k => wr.heap.size ≤ k) rfl (by first | rfl | (go_simp; done) | (go_simp; rfl)) ?aP (fun k hk => ⟨trivial, fun he => by have := HLT.out k he.symm; omega⟩) (fun _ _ => trivial) ?aO ?aB ?aS ?aL ?_; (case aP => exact k54B_mkM _ _ _ (rd_T54 l i_) (Kd.M_lower _ HSZ.out HF3.out) (Kd.M_lower _ HSZ.out HF4.out)); (case aB => exact (by repeat (first | (with_reducible first | exact HB.out | apply below_alloc | apply pw_below_drewN | apply below_drew1) | exact HB.out))); (case aO => exact (by (with_reducible repeat (first | apply Kd.R_alloc | apply Kd.R_drewN | apply Kd.R_drew)); exact HO.out)); (case aS => exact (below_size (by repeat (first | (with_reducible first | exact HB.out | apply below_alloc | apply pw_below_drewN | apply below_drew1) | exact HB.out)))); (case aL => have := HXL.out; have := HL.out; have := HQ.out; omega); intro va_ wa_ ho hb hg hat; have n0_ := Aside0.mk hb; have n1_ := Aside0.mk ho; clear HB; clear HO; have HB := n0_; have HO := n1_; clear n0_ n1_; clear ho hb hg hat))
      go_roundg (gk - 1)
      case measure => have := HQ.out; have := HC_.out; omega
      case rel => exact ⟨i_ + 1, xs ++ [(rd_T54 l i_)], _, rfl, by rw [show wrap64 (i_ + 1) = i_ + 1 from by have := HQ.out; have := HC_.out; unfold wrap64; omega], ⟨by have := HQ.out; have := HC_.out; omega⟩, ⟨by rw [HX.out]; exact HTN.out⟩, HO, HB⟩
    · have cb : decide (i_ < (l.length : Int)) = false := decide_eq_false c_
      have hxe : xs = l := by rw [HX.out, List.take_of_length_le (by have := HQ.out; omega)]
      clear HX c_
      go_upto_region 9 with (((with_reducible refine gate_builtin (b := .append) (xs := #[.tmp 25, .tmp 27]) rfl ?_); at_builtin; refine Kd.R_append k54B (w0 := w) w.heap.size rfl (.tmp 25) (.tmp 27) 31 54 (.agg #[.int .i64 0, .int .i64 0, .string ⟨#[]⟩, .slice none 0 0, .slice none 0 0]) 80 rfl Try.underlying31 info54 rfl (by decide) (by decide) u_ xs b54 [.int .i64 (-5), .int .i64 0, .string ⟨#[]⟩, .slice none 0 0, .slice none 0 0] (fun _ => True) (fun _ => False) rfl (by first | rfl | (go_simp; done) | (go_simp; rfl)) ?aP (fun _ hk => hk.elim) (fun _ _ => trivial) ?aO ?aB ?aS ?aL ?_; (case aP => exact k54B_mkM _ _ _ b54 (.inl ⟨rfl, rfl⟩) (.inl ⟨rfl, rfl⟩)); (case aB => exact (by repeat (first | (with_reducible first | exact HB.out | apply below_alloc | apply pw_below_drewN | apply below_drew1) | exact HB.out))); (case aO => exact (by (with_reducible repeat (first | apply Kd.R_alloc | apply Kd.R_drewN | apply Kd.R_drew)); exact HO.out)); (case aS => exact (below_size (by repeat (first | (with_reducible first | exact HB.out | apply below_alloc | apply pw_below_drewN | apply below_drew1) | exact HB.out)))); (case aL => have := HXL.out; have := HL.out; have := HQ.out; omega); intro va_ wa_ ho hb hg hat; have n0_ := Aside0.mk hb; have n1_ := Aside0.mk ho; clear HB; clear HO; have HB := n0_; have HO := n1_; clear n0_ n1_; clear ho hb hg hat))
      subst hxe
      obtain ⟨A', c', rfl, hlc, _⟩ := Kd.R_reads HO.out
      have HO1 := HO.out
      clear HO
      simp only [List.length_append, List.length_singleton] at HO1 hlc
      go_wp2_with (((with_reducible refine gate_dst (N := 32) rfl ?_); refine Kd.cut_event rfl 31 54 (.tmp 29) (.tmp 31) rfl Try.underlying31 (by kernel_rfl) (A') (_) (c') (l.length) rfl (by first | rfl | (go_simp; done) | (go_simp; rfl)) (by omega) ?_))
      go_ret
      exact ⟨_, rfl, Kd.Fr.of (ok := fun _ => True) (.inr ⟨A', c', rfl, HO1⟩), HB.out⟩
end Go.Proofs.Ytkfbkjcdngipcaa.PTreeEquals
