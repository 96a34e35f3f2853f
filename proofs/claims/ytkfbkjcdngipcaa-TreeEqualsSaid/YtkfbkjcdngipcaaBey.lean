import Derived.Test.YtkfbkjcdngipcaaTlyX
import Derived.Test.YtkfbkjcdngipcaaCpy4
namespace Go.Proofs.Ytkfbkjcdngipcaa.PTreeEquals
open Go.RowKit Go.Proofs.YtkfbkjcdngipcaaW.PrintWords Go.Proofs.YtkfbkjcdngipcaaW.PrintLast Go.Proofs.YtkfbkjcdngipcaaW.PrintMore
attribute [local go_sem] max2_int min2_int max_two min_two max_three min_three max_four min_four
set_option linter.unusedVariables false
set_option linter.unusedSimpArgs false
theorem add_mid7 (b o j : Nat) : (⟨b, o, none⟩ : Addr).add j = ⟨b, o + j, none⟩ := by unfold Addr.add; split <;> simp_all
set_option maxHeartbeats 8000000 in
set_option maxRecDepth 100000 in
/-- Beyond: some truth or other. -/
theorem Beyond.calls (d0 : ByteArray) (d1 d2 d3 : Int) (l4 : List S23) (l5 : List ByteArray) (l6 : List S56) (a0 : Int) (a1 a2 a3 : ByteArray) (a4 a5 a6 a7 a8 a9 a10 a11 a12 a13 a14 a15 a16 a17 a18 a19 a20 : Int) (l7 : List S54) (l8 : List S34) (A4 : Option Addr) (c4 : Nat) (A5 : Option Addr) (c5 : Nat) (A6 : Option Addr) (c6 : Nat) (A7 : Option Addr) (c7 : Nat) (A8 : Option Addr) (c8 : Nat) (w : World)
    (hr5 : Kd.C Kd.string w A5 l5.length l5) (hc5 : l5.length ≤ c5) (hl5 : l5.length ≤ 9223372036854775807) (hr6 : Kd.C k56 w A6 l6.length l6) (hl6 : l6.length ≤ 9223372036854775807) (hd6 : ∀ x ∈ l6, x.f1.length ≤ 9223372036854775807) (hr7 : Kd.C k54 w A7 l7.length l7) (hr8 : Kd.C k34 w A8 l8.length l8) :
    Calls Try.prog 5 #[.agg #[.string d0, .int .i64 d1, .int .i64 d2, .int .i64 d3, .slice A4 l4.length c4, .slice A5 l5.length c5, .slice A6 l6.length c6, .int .i64 a0, .string a1, .string a2, .string a3, .int .i64 a4, .int .i64 a5, .int .i64 a6, .int .i64 a7, .int .i64 a8, .int .i64 a9, .int .i64 a10, .int .i64 a11, .int .i64 a12, .int .i64 a13, .int .i64 a14, .int .i64 a15, .int .i64 a16, .int .i64 a17, .int .i64 a18, .int .i64 a19, .int .i64 a20, .slice A7 l7.length c7, .slice A8 l8.length c8]] w fun e w' => (∃ r, e = .returned (.bool r)) ∧ Below w.heap.size w w' := by
  have hu36 := Try.underlying36
  have hu56 := Try.underlying56
  have hu54 := Try.underlying54
  have hu34 := Try.underlying34
  have HR5 := Aside0.mk hr5
  have HC5 := Aside0.mk hc5
  have HL5 := Aside0.mk hl5
  have HR6 := Aside0.mk hr6
  have HD6 := Aside0.mk hd6
  have HR7 := Aside0.mk hr7
  have HR8 := Aside0.mk hr8
  clear hr5 hc5 hl5 hr6 hd6 hr7 hr8
  have HB := Aside0.mk (Below.refl w.heap.size w)
  go_enter Try.func5, Try.ntmps5
  go_upto_region 2 with (first | ((with_reducible refine gate_dst (N := 1) rfl ?_); (try (refine gate_guard (by rfl) ?_; dsimp only)); refine box_event ?hg (N := 1) ?hd (cs := #[.string d0, .int .i64 d1, .int .i64 d2, .int .i64 d3, .slice A4 l4.length c4, .slice A5 l5.length c5, .slice A6 l6.length c6, .int .i64 a0, .string a1, .string a2, .string a3, .int .i64 a4, .int .i64 a5, .int .i64 a6, .int .i64 a7, .int .i64 a8, .int .i64 a9, .int .i64 a10, .int .i64 a11, .int .i64 a12, .int .i64 a13, .int .i64 a14, .int .i64 a15, .int .i64 a16, .int .i64 a17, .int .i64 a18, .int .i64 a19, .int .i64 a20, .slice A7 l7.length c7, .slice A8 l8.length c8]) (t := 36) ?hr ?_; (case hd => rfl); (case hg => rfl); (case hr => first | (go_simp; done) | (go_simp; rfl)); intro gb hg w5 hbox hb; have n0_ := Aside0.mk (below_step HB.out hb); clear HB; have HB := n0_; have BK := Aside0.mk hbox; clear n0_ hb hbox hg) | ((with_reducible refine gate_dst (N := 6) rfl ?_); (try (refine gate_guard (by rfl) ?_; dsimp only)); refine box_event ?hg (N := 6) ?hd (cs := #[.int .i64 2147483647, .bool false]) (t := 50) ?hr ?_; (case hd => rfl); (case hg => rfl); (case hr => first | (go_simp; done) | (go_simp; rfl)); intro g hg w6 hbox hb; have n0_ := Aside0.mk (below_step HB.out hb); have n1_ := Aside0.mk (blk_below BK.out hb); have n2_ := Aside0.mk (show IsS50 w w6 g 2147483647 false from ⟨hbox, by rw [hg]; exact HB.out.size⟩); have n3_ := Aside0.mk (show gb ≠ g by rw [hg]; exact Nat.ne_of_lt (blk_lt BK.out)); clear HB BK; have HB := n0_; have BK := n1_; have HI0 := n2_; have NB := n3_; clear n0_ n1_ n2_ n3_ hb hbox hg))
  have hcza_0 : w6.cell? ⟨gb, 0, none⟩ = some (.string d0) := (blk_cell BK.out 0).trans rfl
  have hfza_0 := blk_frozen BK.out 0
  go_upto_region 3 with (fail)
  refine (take_calls g _ _ (d0.size : Int) w _ (by repeat (first | (with_reducible first | exact HI0.out | apply IsS50.alloc | apply IsS50.drewN | apply IsS50.drew | apply IsS50.set_0 | apply IsS50.set_1) | exact HI0.out)) (by repeat (first | (with_reducible first | exact HB.out | apply below_alloc | apply pw_below_drewN | apply below_drew1 | refine below_set ?_ (IsS50.ge HI0.out)) | exact HB.out))).mono ?_
  rintro e w7 ⟨rfl, ⟨q1_, q2_, hi⟩, hb, hk⟩
  try dsimp only
  have n1_ := Aside0.mk hb; have n2_ := Aside0.mk hi; have n3_ := Aside0.mk (hk.blk (by (with_reducible repeat (first | refine blk_far ?_ NB.out _ | refine blk_drewN ?_ _ | refine blk_drew ?_ | refine blk_alloc ?_ _)); exact BK.out) NB.out (by simp)); clear HB HI0 BK; have HB := n1_; have HI0 := n2_; have BK := n3_; clear n1_ n2_ n3_ hb hk hi
  clear hcza_0 hfza_0
  have hczb_4 : w7.cell? ⟨gb, 4, none⟩ = some (.slice A4 l4.length c4) := (blk_cell BK.out 4).trans rfl
  have hfzb_4 := blk_frozen BK.out 4
  go_upto_region 4 with (fail)
  refine (take_calls g _ _ (l4.length : Int) w _ (by repeat (first | (with_reducible first | exact HI0.out | apply IsS50.alloc | apply IsS50.drewN | apply IsS50.drew | apply IsS50.set_0 | apply IsS50.set_1) | exact HI0.out)) (by repeat (first | (with_reducible first | exact HB.out | apply below_alloc | apply pw_below_drewN | apply below_drew1 | refine below_set ?_ (IsS50.ge HI0.out)) | exact HB.out))).mono ?_
  rintro e w8 ⟨rfl, ⟨q1_, q2_, hi⟩, hb, hk⟩
  try dsimp only
  have n1_ := Aside0.mk hb; have n2_ := Aside0.mk hi; have n3_ := Aside0.mk (hk.blk (by (with_reducible repeat (first | refine blk_far ?_ NB.out _ | refine blk_drewN ?_ _ | refine blk_drew ?_ | refine blk_alloc ?_ _)); exact BK.out) NB.out (by simp)); clear HB HI0 BK; have HB := n1_; have HI0 := n2_; have BK := n3_; clear n1_ n2_ n3_ hb hk hi
  clear hczb_4 hfzb_4
  have hczc_5 : w8.cell? ⟨gb, 5, none⟩ = some (.slice A5 l5.length c5) := (blk_cell BK.out 5).trans rfl
  have hfzc_5 := blk_frozen BK.out 5
  go_upto_region 5 with (fail)
  refine (texts_calls g _ _ A5 c5 l5 w _ (by repeat (first | (with_reducible first | exact HI0.out | apply IsS50.alloc | apply IsS50.drewN | apply IsS50.drew | apply IsS50.set_0 | apply IsS50.set_1) | exact HI0.out)) (by repeat (first | (with_reducible first | exact HB.out | apply below_alloc | apply pw_below_drewN | apply below_drew1 | refine below_set ?_ (IsS50.ge HI0.out)) | exact HB.out)) HR5.out HC5.out HL5.out).mono ?_
  rintro e w9 ⟨rfl, ⟨q1_, q2_, hi⟩, hb, hk⟩
  try dsimp only
  have n1_ := Aside0.mk hb; have n2_ := Aside0.mk hi; have n3_ := Aside0.mk (hk.blk (by (with_reducible repeat (first | refine blk_far ?_ NB.out _ | refine blk_drewN ?_ _ | refine blk_drew ?_ | refine blk_alloc ?_ _)); exact BK.out) NB.out (by simp)); clear HB HI0 BK; have HB := n1_; have HI0 := n2_; have BK := n3_; clear n1_ n2_ n3_ hb hk hi
  clear hczc_5 hfzc_5
  go_wp2
  go_loopg [4] l6.length (fun kq v6 w' => ∃ (i_ : Int) (x_ : Int) (y_ : Bool), v6 = .int .i64 i_ ∧ Aside0 (0 ≤ i_ ∧ i_ + (kq : Int) = (l6.length : Int)) ∧ Aside0 (IsS50 w w' g x_ y_) ∧ Aside0 (Below w.heap.size w w') ∧ Aside0 (w'.heap[gb]? = some (.cells #[.string d0, .int .i64 d1, .int .i64 d2, .int .i64 d3, .slice A4 l4.length c4, .slice A5 l5.length c5, .slice A6 l6.length c6, .int .i64 a0, .string a1, .string a2, .string a3, .int .i64 a4, .int .i64 a5, .int .i64 a6, .int .i64 a7, .int .i64 a8, .int .i64 a9, .int .i64 a10, .int .i64 a11, .int .i64 a12, .int .i64 a13, .int .i64 a14, .int .i64 a15, .int .i64 a16, .int .i64 a17, .int .i64 a18, .int .i64 a19, .int .i64 a20, .slice A7 l7.length c7, .slice A8 l8.length c8] 36 (0, 0))))
  case atStart => exact ⟨0, _, _, rfl, ⟨by omega, by omega⟩, ⟨by repeat (first | (with_reducible first | exact HI0.out | apply IsS50.alloc | apply IsS50.drewN | apply IsS50.drew | apply IsS50.set_0 | apply IsS50.set_1) | exact HI0.out)⟩, ⟨by repeat (first | (with_reducible first | exact HB.out | apply below_alloc | apply pw_below_drewN | apply below_drew1 | refine below_set ?_ (IsS50.ge HI0.out)) | exact HB.out)⟩, ⟨by (with_reducible repeat (first | refine blk_far ?_ NB.out _ | refine blk_drewN ?_ _ | refine blk_drew ?_ | refine blk_alloc ?_ _)); exact BK.out⟩⟩
  case round =>
    obtain ⟨i_, s2_, s3_, rfl, HQ, HI0, HB, BK⟩ := hrel
    go_upto_region 6 with (fail)
    go_cut [32] (fun v35 wc => ∃ (b_ : Bool) (x_ : Int) (y_ : Bool), v35 = .bool b_ ∧ Aside0 (b_ = true → i_ < (l6.length : Int)) ∧ Aside0 (IsS50 w wc g x_ y_) ∧ Aside0 (Below w.heap.size w wc) ∧ Aside0 (wc.heap[gb]? = some (.cells #[.string d0, .int .i64 d1, .int .i64 d2, .int .i64 d3, .slice A4 l4.length c4, .slice A5 l5.length c5, .slice A6 l6.length c6, .int .i64 a0, .string a1, .string a2, .string a3, .int .i64 a4, .int .i64 a5, .int .i64 a6, .int .i64 a7, .int .i64 a8, .int .i64 a9, .int .i64 a10, .int .i64 a11, .int .i64 a12, .int .i64 a13, .int .i64 a14, .int .i64 a15, .int .i64 a16, .int .i64 a17, .int .i64 a18, .int .i64 a19, .int .i64 a20, .slice A7 l7.length c7, .slice A8 l8.length c8] 36 (0, 0))))
    case first =>
      by_cases c : i_ < (l6.length : Int)
      · have cb : decide (i_ < (l6.length : Int)) = true := decide_eq_true c
        obtain ⟨HG2, hg2⟩ := HI0.out
        have hcs2_0 := cellS50_0 HG2
        have hcs2_1 := cellS50_1 HG2
        have hfs2_0 := blk_frozen HG2 0
        have hfs2_1 := blk_frozen HG2 1
        clear HG2 hg2
        have hczd_6 : wr.cell? ⟨gb, 6, none⟩ = some (.slice A6 l6.length c6) := (blk_cell BK.out 6).trans rfl
        have hfzd_6 := blk_frozen BK.out 6
        go_wp2
        go_meet
        case rel => exact ⟨!s3_, s2_, s3_, rfl, ⟨fun _ => c⟩, ⟨by repeat (first | (with_reducible first | exact HI0.out | apply IsS50.alloc | apply IsS50.drewN | apply IsS50.drew | apply IsS50.set_0 | apply IsS50.set_1) | exact HI0.out)⟩, ⟨by repeat (first | (with_reducible first | exact HB.out | apply below_alloc | apply pw_below_drewN | apply below_drew1 | refine below_set ?_ (IsS50.ge HI0.out)) | exact HB.out)⟩, ⟨by (with_reducible repeat (first | refine blk_far ?_ NB.out _ | refine blk_drewN ?_ _ | refine blk_drew ?_ | refine blk_alloc ?_ _)); exact BK.out⟩⟩
      · have cb : decide (i_ < (l6.length : Int)) = false := decide_eq_false c
        have hczd_6 : wr.cell? ⟨gb, 6, none⟩ = some (.slice A6 l6.length c6) := (blk_cell BK.out 6).trans rfl
        have hfzd_6 := blk_frozen BK.out 6
        go_wp2
        go_meet
        case rel => exact ⟨false, s2_, s3_, rfl, ⟨fun h => by cases h⟩, ⟨by repeat (first | (with_reducible first | exact HI0.out | apply IsS50.alloc | apply IsS50.drewN | apply IsS50.drew | apply IsS50.set_0 | apply IsS50.set_1) | exact HI0.out)⟩, ⟨by repeat (first | (with_reducible first | exact HB.out | apply below_alloc | apply pw_below_drewN | apply below_drew1 | refine below_set ?_ (IsS50.ge HI0.out)) | exact HB.out)⟩, ⟨by (with_reducible repeat (first | refine blk_far ?_ NB.out _ | refine blk_drewN ?_ _ | refine blk_drew ?_ | refine blk_alloc ?_ _)); exact BK.out⟩⟩
    case rest =>
      clear HI0 HB BK
      obtain ⟨b_, s4_, s5_, rfl, HC, HI0, HB, BK⟩ := hcut
      cases b_ with
      | false =>
        go_upto_region 11 with (fail)
        cases s5_ with
        | true =>
          obtain ⟨HG3, hg3⟩ := HI0.out
          have hcs3_0 := cellS50_0 HG3
          have hcs3_1 := cellS50_1 HG3
          have hfs3_0 := blk_frozen HG3 0
          have hfs3_1 := blk_frozen HG3 1
          clear HG3 hg3
          go_wp2
          go_ret
          exact ⟨⟨_, rfl⟩, by repeat (first | (with_reducible first | exact HB.out | apply below_alloc | apply pw_below_drewN | apply below_drew1 | refine below_set ?_ (IsS50.ge HI0.out)) | exact HB.out)⟩
        | false =>
          obtain ⟨HG3, hg3⟩ := HI0.out
          have hcs3_0 := cellS50_0 HG3
          have hcs3_1 := cellS50_1 HG3
          have hfs3_0 := blk_frozen HG3 0
          have hfs3_1 := blk_frozen HG3 1
          clear HG3 hg3
          have HCS := Aside0.mk (show ∀ j v, ([.int .i64 a0, .string a1, .string a2, .string a3, .int .i64 a4, .int .i64 a5, .int .i64 a6, .int .i64 a7, .int .i64 a8, .int .i64 a9, .int .i64 a10, .int .i64 a11, .int .i64 a12, .int .i64 a13, .int .i64 a14, .int .i64 a15, .int .i64 a16, .int .i64 a17, .int .i64 a18, .int .i64 a19, .int .i64 a20, .slice A7 l7.length c7, .slice A8 l8.length c8] : List Value)[j]? = some v → wc.cell? ((⟨gb, 7, none⟩ : Addr).add j) = some v from fun j v hj => by rw [show (⟨gb, 7, none⟩ : Addr).add j = ⟨gb, 7 + j, none⟩ from add_mid7 _ _ _, blk_cell BK.out]; rw [show ([.int .i64 a0, .string a1, .string a2, .string a3, .int .i64 a4, .int .i64 a5, .int .i64 a6, .int .i64 a7, .int .i64 a8, .int .i64 a9, .int .i64 a10, .int .i64 a11, .int .i64 a12, .int .i64 a13, .int .i64 a14, .int .i64 a15, .int .i64 a16, .int .i64 a17, .int .i64 a18, .int .i64 a19, .int .i64 a20, .slice A7 l7.length c7, .slice A8 l8.length c8] : List Value) = ([.string d0, .int .i64 d1, .int .i64 d2, .int .i64 d3, .slice A4 l4.length c4, .slice A5 l5.length c5, .slice A6 l6.length c6, .int .i64 a0, .string a1, .string a2, .string a3, .int .i64 a4, .int .i64 a5, .int .i64 a6, .int .i64 a7, .int .i64 a8, .int .i64 a9, .int .i64 a10, .int .i64 a11, .int .i64 a12, .int .i64 a13, .int .i64 a14, .int .i64 a15, .int .i64 a16, .int .i64 a17, .int .i64 a18, .int .i64 a19, .int .i64 a20, .slice A7 l7.length c7, .slice A8 l8.length c8] : List Value).drop 7 from rfl, List.getElem?_drop] at hj; rw [List.getElem?_toArray]; exact hj)
          go_upto_region 13 with ((with_reducible refine gate_dst (N := 67) rfl ?_); (try (refine gate_guard (by rfl) ?_; dsimp only)); refine load_event (t := 34) (p := .tmp 66) (ad := ⟨gb, 7, none⟩) ?hg ?ho ?hp hu34 ⟨_, rfl⟩ ([.int .i64 a0, .string a1, .string a2, .string a3, .int .i64 a4, .int .i64 a5, .int .i64 a6, .int .i64 a7, .int .i64 a8, .int .i64 a9, .int .i64 a10, .int .i64 a11, .int .i64 a12, .int .i64 a13, .int .i64 a14, .int .i64 a15, .int .i64 a16, .int .i64 a17, .int .i64 a18, .int .i64 a19, .int .i64 a20, .slice A7 l7.length c7, .slice A8 l8.length c8]) ?hs HCS.out ?_; (case ho => rfl); (case hs => exact size34); (case hg => rfl); (case hp => first | (go_simp; done) | (go_simp; rfl)))
          refine (Tally_con.calls (S54.wts l7 + S34.wts l8 + 1) _ _ _ _ _ _ _ _ _ _ _ _ _ _ _ _ _ _ _ _ _ l7 l8 (Nat.lt_succ_self _) g _ _ A7 c7 A8 c8 _ w _ (by repeat (first | (with_reducible first | exact HI0.out | apply IsS50.alloc | apply IsS50.drewN | apply IsS50.drew | apply IsS50.set_0 | apply IsS50.set_1) | exact HI0.out)) (by repeat (first | (with_reducible first | exact HB.out | apply below_alloc | apply pw_below_drewN | apply below_drew1 | refine below_set ?_ (IsS50.ge HI0.out)) | exact HB.out)) HR7.out HR8.out).mono ?_
          rintro e w9 ⟨rfl, ⟨q1_, q2_, hi⟩, hb, hk⟩
          try dsimp only
          have n1_ := Aside0.mk hb; have n2_ := Aside0.mk hi; have n3_ := Aside0.mk (hk.blk (by (with_reducible repeat (first | refine blk_far ?_ NB.out _ | refine blk_drewN ?_ _ | refine blk_drew ?_ | refine blk_alloc ?_ _)); exact BK.out) NB.out (by simp)); clear HB HI0 BK; have HB := n1_; have HI0 := n2_; have BK := n3_; clear n1_ n2_ n3_ hb hk hi
          obtain ⟨HG4, hg4⟩ := HI0.out
          have hcs4_0 := cellS50_0 HG4
          have hcs4_1 := cellS50_1 HG4
          have hfs4_0 := blk_frozen HG4 0
          have hfs4_1 := blk_frozen HG4 1
          clear HG4 hg4
          go_wp2
          go_ret
          exact ⟨⟨_, rfl⟩, by repeat (first | (with_reducible first | exact HB.out | apply below_alloc | apply pw_below_drewN | apply below_drew1 | refine below_set ?_ (IsS50.ge HI0.out)) | exact HB.out)⟩
      | true =>
        have c_ := HC.out rfl
        have p_ : 0 ≤ i_ := HQ.out.1
        have q_ : i_ < (l6.length : Int) := c_
        obtain ⟨ad, B1, e1, B5, e5, B6, e6, e_, hx0, hx1, hx2, hx3, hx4, hx5, hx6, hl1, hi1, hl5, hi5, hl6_, hi6⟩ := at_T56 HR6.out i_ p_ q_
        cases e_
        have HX0 := Aside0.mk hx0
        have HX1 := Aside0.mk hx1
        have HX2 := Aside0.mk hx2
        have HX3 := Aside0.mk hx3
        have HX4 := Aside0.mk hx4
        have HX5 := Aside0.mk hx5
        have HX6 := Aside0.mk hx6
        clear hx0 hx1 hx2 hx3 hx4 hx5 hx6
        have HS1 := Aside0.mk hi1
        have HT1 := Aside0.mk hl1
        have HS6 := Aside0.mk hi6
        clear hi1 hl1 hl5 hi5 hl6_ hi6
        have HM := Aside0.mk (HD6.out _ (rd_mem56 p_ q_))
        replace p_ := eq_true p_
        replace q_ := eq_true q_
        have hcze_6 : wc.cell? ⟨gb, 6, none⟩ = some (.slice (some ad) l6.length c6) := (blk_cell BK.out 6).trans rfl
        have hfze_6 := blk_frozen BK.out 6
        have hxe_0 := (HB.out.cell (World.block_lt_of_cell? w _ HX0.out)).trans HX0.out
        have hxe_1 := (HB.out.cell (World.block_lt_of_cell? w _ HX1.out)).trans HX1.out
        have hxe_2 := (HB.out.cell (World.block_lt_of_cell? w _ HX2.out)).trans HX2.out
        have hxe_3 := (HB.out.cell (World.block_lt_of_cell? w _ HX3.out)).trans HX3.out
        have hxe_4 := (HB.out.cell (World.block_lt_of_cell? w _ HX4.out)).trans HX4.out
        have hxe_5 := (HB.out.cell (World.block_lt_of_cell? w _ HX5.out)).trans HX5.out
        have hxe_6 := (HB.out.cell (World.block_lt_of_cell? w _ HX6.out)).trans HX6.out
        go_upto_region 9 with (fail)
        refine (take_calls g _ _ ((rd_T56 l6 i_).f0.size : Int) w _ (by repeat (first | (with_reducible first | exact HI0.out | apply IsS50.alloc | apply IsS50.drewN | apply IsS50.drew | apply IsS50.set_0 | apply IsS50.set_1) | exact HI0.out)) (by repeat (first | (with_reducible first | exact HB.out | apply below_alloc | apply pw_below_drewN | apply below_drew1 | refine below_set ?_ (IsS50.ge HI0.out)) | exact HB.out))).mono ?_
        rintro e w20 ⟨rfl, ⟨q1_, q2_, hi⟩, hb, hk⟩
        try dsimp only
        have n1_ := Aside0.mk hb; have n2_ := Aside0.mk hi; have n3_ := Aside0.mk (hk.blk (by (with_reducible repeat (first | refine blk_far ?_ NB.out _ | refine blk_drewN ?_ _ | refine blk_drew ?_ | refine blk_alloc ?_ _)); exact BK.out) NB.out (by simp)); clear HB HI0 BK; have HB := n1_; have HI0 := n2_; have BK := n3_; clear n1_ n2_ n3_ hb hk hi
        clear hcze_6 hfze_6
        clear hxe_0 hxe_1 hxe_2 hxe_3 hxe_4 hxe_5 hxe_6
        have hczf_6 : w20.cell? ⟨gb, 6, none⟩ = some (.slice (some ad) l6.length c6) := (blk_cell BK.out 6).trans rfl
        have hfzf_6 := blk_frozen BK.out 6
        have hxf_0 := (HB.out.cell (World.block_lt_of_cell? w _ HX0.out)).trans HX0.out
        have hxf_1 := (HB.out.cell (World.block_lt_of_cell? w _ HX1.out)).trans HX1.out
        have hxf_2 := (HB.out.cell (World.block_lt_of_cell? w _ HX2.out)).trans HX2.out
        have hxf_3 := (HB.out.cell (World.block_lt_of_cell? w _ HX3.out)).trans HX3.out
        have hxf_4 := (HB.out.cell (World.block_lt_of_cell? w _ HX4.out)).trans HX4.out
        have hxf_5 := (HB.out.cell (World.block_lt_of_cell? w _ HX5.out)).trans HX5.out
        have hxf_6 := (HB.out.cell (World.block_lt_of_cell? w _ HX6.out)).trans HX6.out
        go_upto_region 10 with (fail)
        refine (texts_calls g _ _ B1 e1 (rd_T56 l6 i_).f1 w _ (by repeat (first | (with_reducible first | exact HI0.out | apply IsS50.alloc | apply IsS50.drewN | apply IsS50.drew | apply IsS50.set_0 | apply IsS50.set_1) | exact HI0.out)) (by repeat (first | (with_reducible first | exact HB.out | apply below_alloc | apply pw_below_drewN | apply below_drew1 | refine below_set ?_ (IsS50.ge HI0.out)) | exact HB.out)) HS1.out HT1.out HM.out).mono ?_
        rintro e w21 ⟨rfl, ⟨q1_, q2_, hi⟩, hb, hk⟩
        try dsimp only
        have n1_ := Aside0.mk hb; have n2_ := Aside0.mk hi; have n3_ := Aside0.mk (hk.blk (by (with_reducible repeat (first | refine blk_far ?_ NB.out _ | refine blk_drewN ?_ _ | refine blk_drew ?_ | refine blk_alloc ?_ _)); exact BK.out) NB.out (by simp)); clear HB HI0 BK; have HB := n1_; have HI0 := n2_; have BK := n3_; clear n1_ n2_ n3_ hb hk hi
        clear hczf_6 hfzf_6
        clear hxf_0 hxf_1 hxf_2 hxf_3 hxf_4 hxf_5 hxf_6
        have hczg_6 : w21.cell? ⟨gb, 6, none⟩ = some (.slice (some ad) l6.length c6) := (blk_cell BK.out 6).trans rfl
        have hfzg_6 := blk_frozen BK.out 6
        have hxg_0 := (HB.out.cell (World.block_lt_of_cell? w _ HX0.out)).trans HX0.out
        have hxg_1 := (HB.out.cell (World.block_lt_of_cell? w _ HX1.out)).trans HX1.out
        have hxg_2 := (HB.out.cell (World.block_lt_of_cell? w _ HX2.out)).trans HX2.out
        have hxg_3 := (HB.out.cell (World.block_lt_of_cell? w _ HX3.out)).trans HX3.out
        have hxg_4 := (HB.out.cell (World.block_lt_of_cell? w _ HX4.out)).trans HX4.out
        have hxg_5 := (HB.out.cell (World.block_lt_of_cell? w _ HX5.out)).trans HX5.out
        have hxg_6 := (HB.out.cell (World.block_lt_of_cell? w _ HX6.out)).trans HX6.out
        go_upto_region 7 with (fail)
        refine (Tally_expr.calls (S54.wts (rd_T56 l6 i_).f2.f4 + 1) _ _ _ _ (rd_T56 l6 i_).f2.f4 (Nat.lt_succ_self _) g _ _ B5 e5 B6 e6 _ w _ (by repeat (first | (with_reducible first | exact HI0.out | apply IsS50.alloc | apply IsS50.drewN | apply IsS50.drew | apply IsS50.set_0 | apply IsS50.set_1) | exact HI0.out)) (by repeat (first | (with_reducible first | exact HB.out | apply below_alloc | apply pw_below_drewN | apply below_drew1 | refine below_set ?_ (IsS50.ge HI0.out)) | exact HB.out)) HS6.out).mono ?_
        rintro e w22 ⟨rfl, ⟨q1_, q2_, hi⟩, hb, hk⟩
        try dsimp only
        have n1_ := Aside0.mk hb; have n2_ := Aside0.mk hi; have n3_ := Aside0.mk (hk.blk (by (with_reducible repeat (first | refine blk_far ?_ NB.out _ | refine blk_drewN ?_ _ | refine blk_drew ?_ | refine blk_alloc ?_ _)); exact BK.out) NB.out (by simp)); clear HB HI0 BK; have HB := n1_; have HI0 := n2_; have BK := n3_; clear n1_ n2_ n3_ hb hk hi
        go_wp2
        go_roundg (gk - 1)
        case measure => have := HQ.out; have := c_; omega
        case rel => exact ⟨i_ + 1, q1_, q2_, by rw [show wrap64 (i_ + 1) = i_ + 1 from by have := HQ.out; have := c_; unfold wrap64; omega], ⟨by have := HQ.out; have := c_; omega⟩, ⟨by repeat (first | (with_reducible first | exact HI0.out | apply IsS50.alloc | apply IsS50.drewN | apply IsS50.drew | apply IsS50.set_0 | apply IsS50.set_1) | exact HI0.out)⟩, ⟨by repeat (first | (with_reducible first | exact HB.out | apply below_alloc | apply pw_below_drewN | apply below_drew1 | refine below_set ?_ (IsS50.ge HI0.out)) | exact HB.out)⟩, ⟨by (with_reducible repeat (first | refine blk_far ?_ NB.out _ | refine blk_drewN ?_ _ | refine blk_drew ?_ | refine blk_alloc ?_ _)); exact BK.out⟩⟩
end Go.Proofs.Ytkfbkjcdngipcaa.PTreeEquals
