import Derived.Test.YtkfbkjcdngipcaaKinC
import Derived.Test.YtkfbkjcdngipcaaSo1
namespace Go.Proofs.Ytkfbkjcdngipcaa.PTreeEquals
open Go.RowKit Go.Proofs.YtkfbkjcdngipcaaW.PrintWords Go.Proofs.YtkfbkjcdngipcaaW.PrintLast Go.Proofs.YtkfbkjcdngipcaaW.PrintMore
attribute [local go_sem] nil24 nil25 nil26 nil31 nil32 nnil24 nnil25 nnil26 nnil31 nnil32 max2_int min2_int max_two min_two max_three min_three max_four min_four
set_option linter.unusedVariables false
set_option linter.unusedSimpArgs false
def SndC (x : S34) : Prop := ∀ (cs : List Value) (w : World), k34B.K w x cs → Calls Try.prog 30 #[.agg cs.toArray] w fun e w' => e = .returned (.bool true) ∧ Below w.heap.size w w'
theorem SndC.calls {x : S34} (h : SndC x) (cs : List Value) (w : World) (hk : k34B.K w x cs) : Calls Try.prog 30 #[.agg cs.toArray] w fun e w' => e = .returned (.bool true) ∧ Below w.heap.size w w' := h cs w hk
set_option maxHeartbeats 8000000 in
set_option maxRecDepth 100000 in
theorem soundCon.of (x : S34) (hs : ∀ a ∈ x.f8, SndC a) : SndC x := by
  intro cs w hk
  have hu54 := Try.underlying54
  have hu34 := Try.underlying34
  have hu23 := Try.underlying23
  have HS := Aside0.mk hs
  clear hs
  have HB := Aside0.mk (Below.refl w.heap.size w)
  obtain ⟨v7, v8, rfl, h7, h8⟩ := k34B_open hk
  obtain ⟨A7, c7, rfl, _, _, _⟩ := Kd.sB_read h7
  obtain ⟨A8, c8, rfl, hl, hr, hd⟩ := Kd.sB_read h8
  have H7 := Aside0.mk h7
  clear h7 h8 hk
  rcases hd with ⟨rfl, hx0⟩ | ⟨ad, rfl, hlc, hm⟩
  · rw [hx0]
    clear hr hl hx0
    go_enter Try.func30, Try.ntmps30
    go_wp2_with (first | ((with_reducible refine gate_dst (N := 1) rfl ?_); (try (refine gate_guard (by rfl) ?_; dsimp only)); refine box_event ?hg (N := 1) ?hd (cs := #[.int .i64 x.f0, .string x.f1, .string x.f2, .string x.f3, .int .i64 x.f4, .int .i64 x.f5.f0, .int .i64 x.f5.f1, .int .i64 x.f5.f2, .int .i64 x.f6.f0, .int .i64 x.f6.f1, .int .i64 x.f6.f2, .int .i64 x.f6.f3, .int .i64 x.f6.f4.f0, .int .i64 x.f6.f4.f1, .int .i64 x.f6.f4.f2, .int .i64 x.f6.f5.f0, .int .i64 x.f6.f5.f1, .int .i64 x.f6.f5.f2, .int .i64 x.f6.f6.f0, .int .i64 x.f6.f6.f1, .int .i64 x.f6.f7, .slice A7 x.f7.length c7, .slice none ([] : List S34).length c8]) (t := 34) ?hr ?_; (case hd => rfl); (case hg => rfl); (case hr => first | (go_simp; done) | (go_simp; rfl)); intro g1 hg wv1_ hbox hb; have n0_ := Aside0.mk (below_step HB.out hb); have n1_ := Aside0.mk (hbox); have n2_ := Aside0.mk ((show w.heap.size ≤ g1 by rw [hg]; exact below_size HB.out)); clear HB; have HB := n0_; have BK1 := n1_; have ORD := n2_; clear n0_ n1_ n2_; clear hb hbox hg) | ((with_reducible refine gate_dst (N := 7) rfl ?_); (try (refine gate_guard (by rfl) ?_; dsimp only)); refine ld_event rfl rfl (by first | rfl | (go_simp; done) | (go_simp; rfl)) Try.underlying31 trivial (.slice A7 x.f7.length c7) ((blk_cell BK1.out 21).trans rfl) ?_) | ((with_reducible refine gate_callee (f := 38) rfl ?_); (try (refine gate_guard (by rfl) ?_; dsimp only)); refine goesL_ (some 8) rfl rfl Try.func38 (by kernel_rfl) rfl #[.slice A7 x.f7.length c7] rfl (by (try simp only [List.map_toArray, List.map_cons, List.map_nil]); first | done | rfl) ?_; (with_reducible refine (SndL.calls (soundExprs.all x.f7) A7 c7 _ (Kd.K_below _ HB.out H7.out)).mono ?_); rintro e wv2_ ⟨rfl, hb⟩; refine ⟨_, rfl, ?_⟩; have n0_ := Aside0.mk (below_step HB.out hb); have n1_ := Aside0.mk (blk_below BK1.out hb); clear HB BK1; have HB := n0_; have BK1 := n1_; clear n0_ n1_; clear hb) | ((with_reducible refine gate_dst (N := 12) rfl ?_); (try (refine gate_guard (by rfl) ?_; dsimp only)); refine ld_event rfl rfl (by first | rfl | (go_simp; done) | (go_simp; rfl)) Try.underlying32 trivial (.slice none ([] : List S34).length c8) ((blk_cell BK1.out 22).trans rfl) ?_))
    go_loopg [5] 0 (fun kq v5 w' => v5 = .int .i64 0 ∧ Aside0 (w'.heap[g1]? = some (.cells #[.int .i64 x.f0, .string x.f1, .string x.f2, .string x.f3, .int .i64 x.f4, .int .i64 x.f5.f0, .int .i64 x.f5.f1, .int .i64 x.f5.f2, .int .i64 x.f6.f0, .int .i64 x.f6.f1, .int .i64 x.f6.f2, .int .i64 x.f6.f3, .int .i64 x.f6.f4.f0, .int .i64 x.f6.f4.f1, .int .i64 x.f6.f4.f2, .int .i64 x.f6.f5.f0, .int .i64 x.f6.f5.f1, .int .i64 x.f6.f5.f2, .int .i64 x.f6.f6.f0, .int .i64 x.f6.f6.f1, .int .i64 x.f6.f7, .slice A7 x.f7.length c7, .slice none ([] : List S34).length c8] 34 (0, 0))) ∧ Aside0 (Below w.heap.size w w'))
    case atStart => exact ⟨rfl, BK1, HB⟩
    case round =>
      clear HB BK1
      obtain ⟨rfl, BK1, HB⟩ := hrel
      go_wp2_with (((with_reducible refine gate_dst (N := 31) rfl ?_); (try (refine gate_guard (by rfl) ?_; dsimp only)); refine ld_event rfl rfl (by first | rfl | (go_simp; done) | (go_simp; rfl)) Try.underlying32 trivial (.slice none ([] : List S34).length c8) ((blk_cell BK1.out 22).trans rfl) ?_))
      go_ret
      exact ⟨rfl, HB.out⟩
  obtain ⟨cm, hKm, hcm⟩ := mark_cells (z0 := z34) hm
  obtain ⟨m3, m4, rfl, _, _⟩ := k34B_open hKm
  have HCM := Aside0.mk (show w.cell? (ad.add (x.f8.length * 23)) = some (.int .i64 (-5)) from hcm 0 _ rfl)
  have hmx := Kd.C_max hr
  have HMX := Aside0.mk (Kd.C_max hm)
  have HR := Aside0.mk hr
  have HLC := Aside0.mk hlc
  clear hr hlc hm hKm hcm hl
  have hw_ : wrap64 ((x.f8.length : Int) + 1) = (x.f8.length : Int) + 1 := by (have := HMX.out; unfold wrap64; omega)
  have p_ : (0 ≤ (x.f8.length : Int)) = True := eq_true (by omega)
  have q_ : ((x.f8.length : Int) < (x.f8.length : Int) + 1) = True := eq_true (by omega)
  have q2_ : ((x.f8.length : Int) < ((x.f8.length + 1 : Nat) : Int)) = True := eq_true (by omega)
  go_enter Try.func30, Try.ntmps30
  go_upto_region 6 with (first | ((with_reducible refine gate_dst (N := 1) rfl ?_); (try (refine gate_guard (by rfl) ?_; dsimp only)); refine box_event ?hg (N := 1) ?hd (cs := #[.int .i64 x.f0, .string x.f1, .string x.f2, .string x.f3, .int .i64 x.f4, .int .i64 x.f5.f0, .int .i64 x.f5.f1, .int .i64 x.f5.f2, .int .i64 x.f6.f0, .int .i64 x.f6.f1, .int .i64 x.f6.f2, .int .i64 x.f6.f3, .int .i64 x.f6.f4.f0, .int .i64 x.f6.f4.f1, .int .i64 x.f6.f4.f2, .int .i64 x.f6.f5.f0, .int .i64 x.f6.f5.f1, .int .i64 x.f6.f5.f2, .int .i64 x.f6.f6.f0, .int .i64 x.f6.f6.f1, .int .i64 x.f6.f7, .slice A7 x.f7.length c7, .slice (some ad) x.f8.length c8]) (t := 34) ?hr ?_; (case hd => rfl); (case hg => rfl); (case hr => first | (go_simp; done) | (go_simp; rfl)); intro g1 hg wv1_ hbox hb; have n0_ := Aside0.mk (below_step HB.out hb); have n1_ := Aside0.mk (hbox); have n2_ := Aside0.mk ((show w.heap.size ≤ g1 by rw [hg]; exact below_size HB.out)); clear HB; have HB := n0_; have BK1 := n1_; have ORD := n2_; clear n0_ n1_ n2_; clear hb hbox hg) | ((with_reducible refine gate_dst (N := 7) rfl ?_); (try (refine gate_guard (by rfl) ?_; dsimp only)); refine ld_event rfl rfl (by first | rfl | (go_simp; done) | (go_simp; rfl)) Try.underlying31 trivial (.slice A7 x.f7.length c7) ((blk_cell BK1.out 21).trans rfl) ?_) | ((with_reducible refine gate_callee (f := 38) rfl ?_); (try (refine gate_guard (by rfl) ?_; dsimp only)); refine goesL_ (some 8) rfl rfl Try.func38 (by kernel_rfl) rfl #[.slice A7 x.f7.length c7] rfl (by (try simp only [List.map_toArray, List.map_cons, List.map_nil]); first | done | rfl) ?_; (with_reducible refine (SndL.calls (soundExprs.all x.f7) A7 c7 _ (Kd.K_below _ HB.out H7.out)).mono ?_); rintro e wv2_ ⟨rfl, hb⟩; refine ⟨_, rfl, ?_⟩; have n0_ := Aside0.mk (below_step HB.out hb); have n1_ := Aside0.mk (blk_below BK1.out hb); clear HB BK1; have HB := n0_; have BK1 := n1_; clear n0_ n1_; clear hb) | ((with_reducible refine gate_dst (N := 12) rfl ?_); (try (refine gate_guard (by rfl) ?_; dsimp only)); refine ld_event rfl rfl (by first | rfl | (go_simp; done) | (go_simp; rfl)) Try.underlying32 trivial (.slice (some ad) x.f8.length c8) ((blk_cell BK1.out 22).trans rfl) ?_) | ((with_reducible refine gate_dst (N := 15) rfl ?_); (try (refine gate_guard (by rfl) ?_; dsimp only)); refine ld_event rfl rfl (by first | rfl | (go_simp; done) | (go_simp; rfl)) Try.underlying32 trivial (.slice (some ad) x.f8.length c8) ((blk_cell BK1.out 22).trans rfl) ?_) | ((with_reducible refine gate_dst (N := 17) rfl ?_); (try (refine gate_guard (by rfl) ?_; dsimp only)); refine ld_event rfl rfl (by first | rfl | (go_simp; done) | (go_simp; rfl)) Try.underlying32 trivial (.slice (some ad) x.f8.length c8) ((blk_cell BK1.out 22).trans rfl) ?_) | ((with_reducible refine gate_dst (N := 20) rfl ?_); refine Kd.cut_event rfl 32 34 (.tmp 15) (.tmp 19) rfl Try.underlying32 (by kernel_rfl) ((some ad)) (_) (c8) (x.f8.length + 1) rfl (by first | rfl | (go_simp; done) | (go_simp; rfl)) (by have := HLC.out; omega) ?_))
  go_upto_region 8 with (first | ((with_reducible refine gate_dst (N := 23) rfl ?_); (try (refine gate_guard (by rfl) ?_; dsimp only)); refine ld_event rfl rfl (by first | rfl | (go_simp; done) | (go_simp; rfl)) Try.underlying32 trivial (.slice (some ad) x.f8.length c8) ((blk_cell BK1.out 22).trans rfl) ?_) | ((with_reducible refine gate_dst (N := 27) rfl ?_); refine ld_event rfl rfl (by first | rfl | (go_simp; done) | (go_simp; rfl)) Try.underlying3 trivial (.int .i64 (-5)) ((HB.out.cell (World.block_lt_of_cell? _ _ HCM.out)).trans HCM.out) ?_))
  clear p_ q_ q2_ hw_
  go_wp2
  go_loopg [5] x.f8.length (fun kq v5 w' => ∃ (i_ : Int), v5 = .int .i64 i_ ∧ Aside0 (0 ≤ i_ ∧ i_ + (kq : Int) = (x.f8.length : Int)) ∧ Aside0 (w'.heap[g1]? = some (.cells #[.int .i64 x.f0, .string x.f1, .string x.f2, .string x.f3, .int .i64 x.f4, .int .i64 x.f5.f0, .int .i64 x.f5.f1, .int .i64 x.f5.f2, .int .i64 x.f6.f0, .int .i64 x.f6.f1, .int .i64 x.f6.f2, .int .i64 x.f6.f3, .int .i64 x.f6.f4.f0, .int .i64 x.f6.f4.f1, .int .i64 x.f6.f4.f2, .int .i64 x.f6.f5.f0, .int .i64 x.f6.f5.f1, .int .i64 x.f6.f5.f2, .int .i64 x.f6.f6.f0, .int .i64 x.f6.f6.f1, .int .i64 x.f6.f7, .slice A7 x.f7.length c7, .slice (some ad) x.f8.length c8] 34 (0, 0))) ∧ Aside0 (Below w.heap.size w w'))
  case atStart => exact ⟨0, rfl, ⟨by omega, by omega⟩, BK1, HB⟩
  case round =>
    clear HB BK1
    obtain ⟨i_, rfl, HQ, BK1, HB⟩ := hrel
    by_cases c_ : i_ < (x.f8.length : Int)
    · have cb : decide (i_ < (x.f8.length : Int)) = true := decide_eq_true c_
      have p_ : 0 ≤ i_ := HQ.out.1
      obtain ⟨ad1, cv1_, e_, _, hK1, hc1_⟩ := Kd.C_get HR.out z34 i_ p_ c_
      injection e_ with e_
      subst e_
      have HCS1 := Aside0.mk (show CSat w (ad.add (i_.toNat * 23)) cv1_ from fun j v hj => by rw [World_add_add]; exact hc1_ j v hj)
      have SZ1 := Aside0.mk (show (Try.prog.info? 34).map (fun i => i.size) = some cv1_.length by rw [Kd.K_len _ hK1]; exact size34)
      have hM1 := mem_getD z34 p_ c_
      obtain ⟨x_, hx_⟩ : ∃ q, q = x.f8.getD i_.toNat z34 := ⟨_, rfl⟩
      rw [← hx_] at hK1 hM1
      clear hx_
      have HK1 := Aside0.mk hK1
      have HM1 := Aside0.mk hM1
      clear hK1 hc1_ hM1
      have HC_ := Aside0.mk c_
      replace p_ := eq_true p_
      replace c_ := eq_true c_
      go_wp2_with (first | ((with_reducible refine gate_dst (N := 31) rfl ?_); (try (refine gate_guard (by rfl) ?_; dsimp only)); refine ld_event rfl rfl (by first | rfl | (go_simp; done) | (go_simp; rfl)) Try.underlying32 trivial (.slice (some ad) x.f8.length c8) ((blk_cell BK1.out 22).trans rfl) ?_) | ((with_reducible refine gate_dst (N := 37) rfl ?_); (try (refine gate_guard (by rfl) ?_; dsimp only)); refine ld_event rfl rfl (by first | rfl | (go_simp; done) | (go_simp; rfl)) Try.underlying32 trivial (.slice (some ad) x.f8.length c8) ((blk_cell BK1.out 22).trans rfl) ?_) | ((with_reducible refine gate_dst (N := 40) rfl ?_); refine load_event (t := 34) (p := .tmp 39) (ad := ad.add (i_.toNat * 23)) rfl rfl (by first | rfl | (go_simp; done) | (go_simp; rfl)) Try.underlying34 ⟨_, rfl⟩ cv1_ (SZ1.out) (CSat.below HCS1.out HB.out) ?_) | ((with_reducible refine gate_callee (f := 30) rfl ?_); (try (refine gate_guard (by rfl) ?_; dsimp only)); refine goesL_ (some 41) rfl rfl Try.func30 (by kernel_rfl) rfl #[.agg cv1_.toArray] rfl (by (try simp only [List.map_toArray, List.map_cons, List.map_nil]); first | done | rfl) ?_; (with_reducible refine (SndC.calls (HS.out _ HM1.out) cv1_ _ (Kd.K_below _ HB.out HK1.out)).mono ?_); rintro e wv3_ ⟨rfl, hb⟩; refine ⟨_, rfl, ?_⟩; have n0_ := Aside0.mk (below_step HB.out hb); have n1_ := Aside0.mk (blk_below BK1.out hb); clear HB BK1; have HB := n0_; have BK1 := n1_; clear n0_ n1_; clear hb))
      go_roundg (gk - 1)
      case measure => have := HQ.out; have := HC_.out; omega
      case rel => exact ⟨i_ + 1, by rw [show wrap64 (i_ + 1) = i_ + 1 from by have := HQ.out; have := HC_.out; unfold wrap64; omega], ⟨by have := HQ.out; have := HC_.out; omega⟩, BK1, HB⟩
    · have cb : decide (i_ < (x.f8.length : Int)) = false := decide_eq_false c_
      clear c_
      go_wp2_with (first | ((with_reducible refine gate_dst (N := 31) rfl ?_); (try (refine gate_guard (by rfl) ?_; dsimp only)); refine ld_event rfl rfl (by first | rfl | (go_simp; done) | (go_simp; rfl)) Try.underlying32 trivial (.slice (some ad) x.f8.length c8) ((blk_cell BK1.out 22).trans rfl) ?_))
      go_ret
      exact ⟨rfl, HB.out⟩
theorem soundCon.lt : ∀ (n : Nat) (x : S34), S34.wt x < n → SndC x := by
  intro n
  induction n with
  | zero => intro x h; omega
  | succ n ih =>
    intro x h
    refine soundCon.of x (fun a ha => ih a ?_)
    have h3 := S34.wt_le ha
    have h4 := S34.wt_eq x
    omega
theorem soundCon.all (x : S34) : SndC x := soundCon.lt _ x (Nat.lt_succ_self _)
end Go.Proofs.Ytkfbkjcdngipcaa.PTreeEquals
