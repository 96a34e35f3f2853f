import Derived.Test.YtkfbkjcdngipcaaTlyE
import Derived.Test.YtkfbkjcdngipcaaLoadW
namespace Go.Proofs.Ytkfbkjcdngipcaa.PTreeEquals
open Go.RowKit Go.Proofs.YtkfbkjcdngipcaaW.PrintWords Go.Proofs.YtkfbkjcdngipcaaW.PrintLast Go.Proofs.YtkfbkjcdngipcaaW.PrintMore
attribute [local go_sem] max2_int min2_int max_two min_two max_three min_three max_four min_four
set_option linter.unusedVariables false
set_option linter.unusedSimpArgs false
mutual
/-- How many parts a contract has. -/
def S34.wt : S34 → Nat
  | ⟨_, _, _, _, _, _, _, l, m⟩ => 1 + S54.wts l + S34.wts m
def S34.wts : List S34 → Nat
  | [] => 0
  | x :: r => x.wt + S34.wts r
end
theorem World_add_add (a : Addr) (m n : Nat) : (a.add m).add n = a.add (m + n) := by
  unfold Addr.add; by_cases hm : m = 0 <;> by_cases hn : n = 0 <;> simp [hm, hn, Nat.add_assoc]
theorem S34.wt_eq (x : S34) : x.wt = 1 + S54.wts x.f7 + S34.wts x.f8 := by cases x; simp [S34.wt]
theorem S34.wt_le {x : S34} : ∀ {l : List S34}, x ∈ l → x.wt ≤ S34.wts l
  | [], h => by simp at h
  | y :: r, h => by
    simp only [S34.wts]
    rcases List.mem_cons.1 h with rfl | h
    · omega
    · have := S34.wt_le h; omega
theorem S34.len_le : ∀ l : List S34, l.length ≤ S34.wts l
  | [] => by simp [S34.wts]
  | x :: r => by
    have := S34.len_le r
    simp only [S34.wts, List.length_cons, S34.wt_eq x]; omega
theorem rd_mem34 {l : List S34} {i : Int} (h0 : 0 ≤ i) (h1 : i < l.length) : rd_T34 l i ∈ l := by
  unfold rd_T34
  rw [List.getD_eq_getElem?_getD, List.getElem?_eq_getElem (show i.toNat < l.length by omega)]
  exact List.getElem_mem _
set_option maxHeartbeats 8000000 in
set_option maxRecDepth 100000 in
/-- Tally.con: some state or other. -/
theorem Tally_con.calls (N : Nat) : ∀ (a0 : Int) (a1 a2 a3 : ByteArray) (a4 a5 a6 a7 a8 a9 a10 a11 a12 a13 a14 a15 a16 a17 a18 a19 a20 : Int) (l7 : List S54) (l8 : List S34) (hx : S54.wts l7 + S34.wts l8 < N) (g : Nat) (s0 : Int) (s1 : Bool) (A7 : Option Addr) (c7 : Nat) (A8 : Option Addr) (c8 : Nat) (n : Int) (w0 w : World) (hI : IsS50 w0 w g s0 s1) (hB : Below w0.heap.size w0 w) (hr7 : Kd.C k54 w0 A7 l7.length l7) (hr8 : Kd.C k34 w0 A8 l8.length l8),
    Calls Try.prog 17 #[.pointer (some ⟨g, 0, none⟩), .agg #[.int .i64 a0, .string a1, .string a2, .string a3, .int .i64 a4, .int .i64 a5, .int .i64 a6, .int .i64 a7, .int .i64 a8, .int .i64 a9, .int .i64 a10, .int .i64 a11, .int .i64 a12, .int .i64 a13, .int .i64 a14, .int .i64 a15, .int .i64 a16, .int .i64 a17, .int .i64 a18, .int .i64 a19, .int .i64 a20, .slice A7 l7.length c7, .slice A8 l8.length c8], .int .i64 n] w fun e w' => e = .returned (.tuple #[]) ∧ (∃ r1 r2, IsS50 w0 w' g r1 r2) ∧ Below w0.heap.size w0 w' ∧ KeepBut w w' g none := by
  induction N with
  | zero => intros; omega
  | succ N ih =>
  replace ih := Aside0.mk ih
  intro a0 a1 a2 a3 a4 a5 a6 a7 a8 a9 a10 a11 a12 a13 a14 a15 a16 a17 a18 a19 a20 l7 l8 hx g s0 s1 A7 c7 A8 c8 n w0 w hI hB hr7 hr8
  have hu54 := Try.underlying54
  have hu34 := Try.underlying34
  have HR7 := Aside0.mk hr7
  have HR8 := Aside0.mk hr8
  clear hr7 hr8
  have HX := Aside0.mk hx
  have HL7 : (l7.length : Int) ≤ 9223372036854775807 := by have := Kd.C_max HR7.out; omega
  have HL8 : (l8.length : Int) ≤ 9223372036854775807 := by have := Kd.C_max HR8.out; omega
  clear hx
  have HI0 := Aside0.mk hI
  have HK := Aside0.mk (KeepBut.refl w g none)
  clear hI
  have HB := Aside0.mk hB
  clear hB
  go_enter Try.func17, Try.ntmps17
  go_upto_region 1 with (((with_reducible refine gate_dst (N := 4) rfl ?_); (try (refine gate_guard (by rfl) ?_; dsimp only)); refine box_event ?hg (N := 4) ?hd (cs := #[.int .i64 a0, .string a1, .string a2, .string a3, .int .i64 a4, .int .i64 a5, .int .i64 a6, .int .i64 a7, .int .i64 a8, .int .i64 a9, .int .i64 a10, .int .i64 a11, .int .i64 a12, .int .i64 a13, .int .i64 a14, .int .i64 a15, .int .i64 a16, .int .i64 a17, .int .i64 a18, .int .i64 a19, .int .i64 a20, .slice A7 l7.length c7, .slice A8 l8.length c8]) (t := 34) ?hr ?_; (case hd => rfl); (case hg => rfl); (case hr => first | (go_simp; done) | (go_simp; rfl)); intro gb hg w5 hbox hb; have n0_ := Aside0.mk (below_step HB.out hb); have n1_ := Aside0.mk (HI0.out.below hb); have n2_ := Aside0.mk (HK.out.trans (KeepBut.of_below hb g none) (.inl rfl)); have n3_ := Aside0.mk (show gb ≠ g by rw [hg]; exact Nat.ne_of_gt HI0.out.lt); have n4_ := Aside0.mk (show w.heap.size ≤ gb by rw [hg]; exact HK.out.1); clear HB HI0 HK; have HB := n0_; have HI0 := n1_; have HK := n2_; have NB := n3_; have GE := n4_; have BK := Aside0.mk hbox; clear n0_ n1_ n2_ n3_ n4_ hb hbox hg))
  (try simp only [Act.put, List.setIfInBounds_toArray, List.set_cons_zero, List.set_cons_succ])
  go_cut [9] (fun v8 wc => ∃ (b_ : Bool) (x_ : Int) (y_ : Bool), v8 = .bool b_ ∧ Aside0 (IsS50 w0 wc g x_ y_) ∧ Aside0 (KeepBut w wc g none) ∧ Aside0 (Below w0.heap.size w0 wc) ∧ Aside0 (wc.heap[gb]? = some (.cells #[.int .i64 a0, .string a1, .string a2, .string a3, .int .i64 a4, .int .i64 a5, .int .i64 a6, .int .i64 a7, .int .i64 a8, .int .i64 a9, .int .i64 a10, .int .i64 a11, .int .i64 a12, .int .i64 a13, .int .i64 a14, .int .i64 a15, .int .i64 a16, .int .i64 a17, .int .i64 a18, .int .i64 a19, .int .i64 a20, .slice A7 l7.length c7, .slice A8 l8.length c8] 34 (0, 0))))
  case first =>
    go_wp2
    go_meet
    case rel => exact ⟨_, s0, s1, rfl, ⟨by repeat (first | (with_reducible first | exact HI0.out | apply IsS50.alloc | apply IsS50.drewN | apply IsS50.drew | apply IsS50.set_0 | apply IsS50.set_1) | exact HI0.out)⟩, ⟨by repeat (first | (with_reducible first | exact HK.out | apply KeepBut.set_ | apply keep_drewN | apply keep_drew | apply keep_alloc) | exact HK.out)⟩, ⟨by repeat (first | (with_reducible first | exact HB.out | apply below_alloc | apply pw_below_drewN | apply below_drew1 | refine below_set ?_ (IsS50.ge HI0.out)) | exact HB.out)⟩, ⟨by (with_reducible repeat (first | refine blk_far ?_ NB.out _ | refine blk_drewN ?_ _ | refine blk_drew ?_ | refine blk_alloc ?_ _)); exact BK.out⟩⟩
  case rest =>
  rename_i K0 hK0 K1 hK1
  clear HI0 HK HB BK
  obtain ⟨b_, s0, s1, rfl, HI0, HK, HB, BK⟩ := hcut
  apply hK1
  clear hK1 K1
  go_cut [] (fun wc => ∃ (x_ : Int) (y_ : Bool), Aside0 (IsS50 w0 wc g x_ y_) ∧ Aside0 (KeepBut w wc g none) ∧ Aside0 (Below w0.heap.size w0 wc) ∧ Aside0 (wc.heap[gb]? = some (.cells #[.int .i64 a0, .string a1, .string a2, .string a3, .int .i64 a4, .int .i64 a5, .int .i64 a6, .int .i64 a7, .int .i64 a8, .int .i64 a9, .int .i64 a10, .int .i64 a11, .int .i64 a12, .int .i64 a13, .int .i64 a14, .int .i64 a15, .int .i64 a16, .int .i64 a17, .int .i64 a18, .int .i64 a19, .int .i64 a20, .slice A7 l7.length c7, .slice A8 l8.length c8] 34 (0, 0))))
  case first =>
    by_cases c : b_ = true
    · subst c
      obtain ⟨HG1, hg1⟩ := HI0.out
      have hcs1_0 := cellS50_0 HG1
      have hcs1_1 := cellS50_1 HG1
      have hfs1_0 := blk_frozen HG1 0
      have hfs1_1 := blk_frozen HG1 1
      clear HG1 hg1
      go_wp2
      go_meet
      case rel => exact ⟨s0, true, ⟨by repeat (first | (with_reducible first | exact HI0.out | apply IsS50.alloc | apply IsS50.drewN | apply IsS50.drew | apply IsS50.set_0 | apply IsS50.set_1) | exact HI0.out)⟩, ⟨by repeat (first | (with_reducible first | exact HK.out | apply KeepBut.set_ | apply keep_drewN | apply keep_drew | apply keep_alloc) | exact HK.out)⟩, ⟨by repeat (first | (with_reducible first | exact HB.out | apply below_alloc | apply pw_below_drewN | apply below_drew1 | refine below_set ?_ (IsS50.ge HI0.out)) | exact HB.out)⟩, ⟨by (with_reducible repeat (first | refine blk_far ?_ NB.out _ | refine blk_drewN ?_ _ | refine blk_drew ?_ | refine blk_alloc ?_ _)); exact BK.out⟩⟩
    · replace c := Bool.eq_false_iff.mpr c
      subst c
      go_wp2
      go_meet
      case rel => exact ⟨s0, s1, ⟨by repeat (first | (with_reducible first | exact HI0.out | apply IsS50.alloc | apply IsS50.drewN | apply IsS50.drew | apply IsS50.set_0 | apply IsS50.set_1) | exact HI0.out)⟩, ⟨by repeat (first | (with_reducible first | exact HK.out | apply KeepBut.set_ | apply keep_drewN | apply keep_drew | apply keep_alloc) | exact HK.out)⟩, ⟨by repeat (first | (with_reducible first | exact HB.out | apply below_alloc | apply pw_below_drewN | apply below_drew1 | refine below_set ?_ (IsS50.ge HI0.out)) | exact HB.out)⟩, ⟨by (with_reducible repeat (first | refine blk_far ?_ NB.out _ | refine blk_drewN ?_ _ | refine blk_drew ?_ | refine blk_alloc ?_ _)); exact BK.out⟩⟩
  case rest =>
    clear HI0 HK HB BK
    obtain ⟨s0_, s1_, HI0, HK, HB, BK⟩ := hcut
    go_upto_region 4 with (fail)
    refine (take_calls g _ _ 1 w0 _ (by repeat (first | (with_reducible first | exact HI0.out | apply IsS50.alloc | apply IsS50.drewN | apply IsS50.drew | apply IsS50.set_0 | apply IsS50.set_1) | exact HI0.out)) (by repeat (first | (with_reducible first | exact HB.out | apply below_alloc | apply pw_below_drewN | apply below_drew1 | refine below_set ?_ (IsS50.ge HI0.out)) | exact HB.out))).mono ?_
    rintro e w6 ⟨rfl, ⟨q1_, q2_, hi⟩, hb, hk⟩
    try dsimp only
    have n0_ := Aside0.mk (KeepBut.trans (by repeat (first | (with_reducible first | exact HK.out | apply KeepBut.set_ | apply keep_drewN | apply keep_drew | apply keep_alloc) | exact HK.out)) hk (.inl rfl)); have n1_ := Aside0.mk hb; have n2_ := Aside0.mk hi; have n3_ := Aside0.mk (hk.blk (by (with_reducible repeat (first | refine blk_far ?_ NB.out _ | refine blk_drewN ?_ _ | refine blk_drew ?_ | refine blk_alloc ?_ _)); exact BK.out) NB.out (by simp)); clear HK HB HI0 BK; have HK := n0_; have HB := n1_; have HI0 := n2_; have BK := n3_; clear n0_ n1_ n2_ n3_ hb hk hi
    have hczx_1 : w6.cell? ⟨gb, 1, none⟩ = some (.string a1) := (blk_cell BK.out 1).trans rfl
    have hfzx_1 := blk_frozen BK.out 1
    go_upto_region 5 with (fail)
    refine (take_calls g _ _ (a1.size : Int) w0 _ (by repeat (first | (with_reducible first | exact HI0.out | apply IsS50.alloc | apply IsS50.drewN | apply IsS50.drew | apply IsS50.set_0 | apply IsS50.set_1) | exact HI0.out)) (by repeat (first | (with_reducible first | exact HB.out | apply below_alloc | apply pw_below_drewN | apply below_drew1 | refine below_set ?_ (IsS50.ge HI0.out)) | exact HB.out))).mono ?_
    rintro e w7 ⟨rfl, ⟨q1_, q2_, hi⟩, hb, hk⟩
    try dsimp only
    have n0_ := Aside0.mk (KeepBut.trans (by repeat (first | (with_reducible first | exact HK.out | apply KeepBut.set_ | apply keep_drewN | apply keep_drew | apply keep_alloc) | exact HK.out)) hk (.inl rfl)); have n1_ := Aside0.mk hb; have n2_ := Aside0.mk hi; have n3_ := Aside0.mk (hk.blk (by (with_reducible repeat (first | refine blk_far ?_ NB.out _ | refine blk_drewN ?_ _ | refine blk_drew ?_ | refine blk_alloc ?_ _)); exact BK.out) NB.out (by simp)); clear HK HB HI0 BK; have HK := n0_; have HB := n1_; have HI0 := n2_; have BK := n3_; clear n0_ n1_ n2_ n3_ hb hk hi
    clear hczx_1 hfzx_1
    have hczy_2 : w7.cell? ⟨gb, 2, none⟩ = some (.string a2) := (blk_cell BK.out 2).trans rfl
    have hfzy_2 := blk_frozen BK.out 2
    go_upto_region 6 with (fail)
    refine (take_calls g _ _ (a2.size : Int) w0 _ (by repeat (first | (with_reducible first | exact HI0.out | apply IsS50.alloc | apply IsS50.drewN | apply IsS50.drew | apply IsS50.set_0 | apply IsS50.set_1) | exact HI0.out)) (by repeat (first | (with_reducible first | exact HB.out | apply below_alloc | apply pw_below_drewN | apply below_drew1 | refine below_set ?_ (IsS50.ge HI0.out)) | exact HB.out))).mono ?_
    rintro e w8 ⟨rfl, ⟨q1_, q2_, hi⟩, hb, hk⟩
    try dsimp only
    have n0_ := Aside0.mk (KeepBut.trans (by repeat (first | (with_reducible first | exact HK.out | apply KeepBut.set_ | apply keep_drewN | apply keep_drew | apply keep_alloc) | exact HK.out)) hk (.inl rfl)); have n1_ := Aside0.mk hb; have n2_ := Aside0.mk hi; have n3_ := Aside0.mk (hk.blk (by (with_reducible repeat (first | refine blk_far ?_ NB.out _ | refine blk_drewN ?_ _ | refine blk_drew ?_ | refine blk_alloc ?_ _)); exact BK.out) NB.out (by simp)); clear HK HB HI0 BK; have HK := n0_; have HB := n1_; have HI0 := n2_; have BK := n3_; clear n0_ n1_ n2_ n3_ hb hk hi
    clear hczy_2 hfzy_2
    have hczz_3 : w8.cell? ⟨gb, 3, none⟩ = some (.string a3) := (blk_cell BK.out 3).trans rfl
    have hfzz_3 := blk_frozen BK.out 3
    go_upto_region 7 with (fail)
    refine (take_calls g _ _ (a3.size : Int) w0 _ (by repeat (first | (with_reducible first | exact HI0.out | apply IsS50.alloc | apply IsS50.drewN | apply IsS50.drew | apply IsS50.set_0 | apply IsS50.set_1) | exact HI0.out)) (by repeat (first | (with_reducible first | exact HB.out | apply below_alloc | apply pw_below_drewN | apply below_drew1 | refine below_set ?_ (IsS50.ge HI0.out)) | exact HB.out))).mono ?_
    rintro e w9 ⟨rfl, ⟨q1_, q2_, hi⟩, hb, hk⟩
    try dsimp only
    have n0_ := Aside0.mk (KeepBut.trans (by repeat (first | (with_reducible first | exact HK.out | apply KeepBut.set_ | apply keep_drewN | apply keep_drew | apply keep_alloc) | exact HK.out)) hk (.inl rfl)); have n1_ := Aside0.mk hb; have n2_ := Aside0.mk hi; have n3_ := Aside0.mk (hk.blk (by (with_reducible repeat (first | refine blk_far ?_ NB.out _ | refine blk_drewN ?_ _ | refine blk_drew ?_ | refine blk_alloc ?_ _)); exact BK.out) NB.out (by simp)); clear HK HB HI0 BK; have HK := n0_; have HB := n1_; have HI0 := n2_; have BK := n3_; clear n0_ n1_ n2_ n3_ hb hk hi
    clear hczz_3 hfzz_3
    go_wp2
    go_loopg [6] l7.length (fun kq v6 w' => ∃ (i_ : Int) (x_ : Int) (y_ : Bool), v6 = .int .i64 i_ ∧ Aside0 (0 ≤ i_ ∧ i_ + (kq : Int) = (l7.length : Int)) ∧ Aside0 (IsS50 w0 w' g x_ y_) ∧ Aside0 (KeepBut w w' g none) ∧ Aside0 (Below w0.heap.size w0 w') ∧ Aside0 (w'.heap[gb]? = some (.cells #[.int .i64 a0, .string a1, .string a2, .string a3, .int .i64 a4, .int .i64 a5, .int .i64 a6, .int .i64 a7, .int .i64 a8, .int .i64 a9, .int .i64 a10, .int .i64 a11, .int .i64 a12, .int .i64 a13, .int .i64 a14, .int .i64 a15, .int .i64 a16, .int .i64 a17, .int .i64 a18, .int .i64 a19, .int .i64 a20, .slice A7 l7.length c7, .slice A8 l8.length c8] 34 (0, 0))))
    case atStart => exact ⟨0, _, _, rfl, ⟨by omega, by omega⟩, ⟨by repeat (first | (with_reducible first | exact HI0.out | apply IsS50.alloc | apply IsS50.drewN | apply IsS50.drew | apply IsS50.set_0 | apply IsS50.set_1) | exact HI0.out)⟩, ⟨by repeat (first | (with_reducible first | exact HK.out | apply KeepBut.set_ | apply keep_drewN | apply keep_drew | apply keep_alloc) | exact HK.out)⟩, ⟨by repeat (first | (with_reducible first | exact HB.out | apply below_alloc | apply pw_below_drewN | apply below_drew1 | refine below_set ?_ (IsS50.ge HI0.out)) | exact HB.out)⟩, ⟨by (with_reducible repeat (first | refine blk_far ?_ NB.out _ | refine blk_drewN ?_ _ | refine blk_drew ?_ | refine blk_alloc ?_ _)); exact BK.out⟩⟩
    case round =>
      obtain ⟨i_, s2_, s3_, rfl, HQ, HI0, HK, HB, BK⟩ := hrel
      go_upto_region 8 with (fail)
      go_cut [41] (fun v35 wc => ∃ (b_ : Bool) (x_ : Int) (y_ : Bool), v35 = .bool b_ ∧ Aside0 (b_ = true → i_ < (l7.length : Int)) ∧ Aside0 (IsS50 w0 wc g x_ y_) ∧ Aside0 (KeepBut w wc g none) ∧ Aside0 (Below w0.heap.size w0 wc) ∧ Aside0 (wc.heap[gb]? = some (.cells #[.int .i64 a0, .string a1, .string a2, .string a3, .int .i64 a4, .int .i64 a5, .int .i64 a6, .int .i64 a7, .int .i64 a8, .int .i64 a9, .int .i64 a10, .int .i64 a11, .int .i64 a12, .int .i64 a13, .int .i64 a14, .int .i64 a15, .int .i64 a16, .int .i64 a17, .int .i64 a18, .int .i64 a19, .int .i64 a20, .slice A7 l7.length c7, .slice A8 l8.length c8] 34 (0, 0))))
      case first =>
        by_cases c : i_ < (l7.length : Int)
        · have cb : decide (i_ < (l7.length : Int)) = true := decide_eq_true c
          obtain ⟨HG2, hg2⟩ := HI0.out
          have hcs2_0 := cellS50_0 HG2
          have hcs2_1 := cellS50_1 HG2
          have hfs2_0 := blk_frozen HG2 0
          have hfs2_1 := blk_frozen HG2 1
          clear HG2 hg2
          have hczd_21 : wr.cell? ⟨gb, 21, none⟩ = some (.slice A7 l7.length c7) := (blk_cell BK.out 21).trans rfl
          have hfzd_21 := blk_frozen BK.out 21
          go_wp2
          go_meet
          case rel => exact ⟨!s3_, s2_, s3_, rfl, ⟨fun _ => c⟩, ⟨by repeat (first | (with_reducible first | exact HI0.out | apply IsS50.alloc | apply IsS50.drewN | apply IsS50.drew | apply IsS50.set_0 | apply IsS50.set_1) | exact HI0.out)⟩, ⟨by repeat (first | (with_reducible first | exact HK.out | apply KeepBut.set_ | apply keep_drewN | apply keep_drew | apply keep_alloc) | exact HK.out)⟩, ⟨by repeat (first | (with_reducible first | exact HB.out | apply below_alloc | apply pw_below_drewN | apply below_drew1 | refine below_set ?_ (IsS50.ge HI0.out)) | exact HB.out)⟩, ⟨by (with_reducible repeat (first | refine blk_far ?_ NB.out _ | refine blk_drewN ?_ _ | refine blk_drew ?_ | refine blk_alloc ?_ _)); exact BK.out⟩⟩
        · have cb : decide (i_ < (l7.length : Int)) = false := decide_eq_false c
          have hczd_21 : wr.cell? ⟨gb, 21, none⟩ = some (.slice A7 l7.length c7) := (blk_cell BK.out 21).trans rfl
          have hfzd_21 := blk_frozen BK.out 21
          go_wp2
          go_meet
          case rel => exact ⟨false, s2_, s3_, rfl, ⟨fun h => by cases h⟩, ⟨by repeat (first | (with_reducible first | exact HI0.out | apply IsS50.alloc | apply IsS50.drewN | apply IsS50.drew | apply IsS50.set_0 | apply IsS50.set_1) | exact HI0.out)⟩, ⟨by repeat (first | (with_reducible first | exact HK.out | apply KeepBut.set_ | apply keep_drewN | apply keep_drew | apply keep_alloc) | exact HK.out)⟩, ⟨by repeat (first | (with_reducible first | exact HB.out | apply below_alloc | apply pw_below_drewN | apply below_drew1 | refine below_set ?_ (IsS50.ge HI0.out)) | exact HB.out)⟩, ⟨by (with_reducible repeat (first | refine blk_far ?_ NB.out _ | refine blk_drewN ?_ _ | refine blk_drew ?_ | refine blk_alloc ?_ _)); exact BK.out⟩⟩
      case rest =>
        clear HI0 HK HB BK
        obtain ⟨b_, s4_, s5_, rfl, HC, HI0, HK, HB, BK⟩ := hcut
        cases b_ with
        | false =>
          go_wp2
          go_loopg [7] l8.length (fun kq v6 w' => ∃ (i_ : Int) (x_ : Int) (y_ : Bool), v6 = .int .i64 i_ ∧ Aside0 (0 ≤ i_ ∧ i_ + (kq : Int) = (l8.length : Int)) ∧ Aside0 (IsS50 w0 w' g x_ y_) ∧ Aside0 (KeepBut w w' g none) ∧ Aside0 (Below w0.heap.size w0 w') ∧ Aside0 (w'.heap[gb]? = some (.cells #[.int .i64 a0, .string a1, .string a2, .string a3, .int .i64 a4, .int .i64 a5, .int .i64 a6, .int .i64 a7, .int .i64 a8, .int .i64 a9, .int .i64 a10, .int .i64 a11, .int .i64 a12, .int .i64 a13, .int .i64 a14, .int .i64 a15, .int .i64 a16, .int .i64 a17, .int .i64 a18, .int .i64 a19, .int .i64 a20, .slice A7 l7.length c7, .slice A8 l8.length c8] 34 (0, 0))))
          case atStart => exact ⟨0, _, _, rfl, ⟨by omega, by omega⟩, ⟨by repeat (first | (with_reducible first | exact HI0.out | apply IsS50.alloc | apply IsS50.drewN | apply IsS50.drew | apply IsS50.set_0 | apply IsS50.set_1) | exact HI0.out)⟩, ⟨by repeat (first | (with_reducible first | exact HK.out | apply KeepBut.set_ | apply keep_drewN | apply keep_drew | apply keep_alloc) | exact HK.out)⟩, ⟨by repeat (first | (with_reducible first | exact HB.out | apply below_alloc | apply pw_below_drewN | apply below_drew1 | refine below_set ?_ (IsS50.ge HI0.out)) | exact HB.out)⟩, ⟨by (with_reducible repeat (first | refine blk_far ?_ NB.out _ | refine blk_drewN ?_ _ | refine blk_drew ?_ | refine blk_alloc ?_ _)); exact BK.out⟩⟩
          case round =>
            obtain ⟨i_, s2_, s3_, rfl, HQ, HI0, HK, HB, BK⟩ := hrel
            go_upto_region 12 with (fail)
            go_cut [64] (fun v35 wc => ∃ (b_ : Bool) (x_ : Int) (y_ : Bool), v35 = .bool b_ ∧ Aside0 (b_ = true → i_ < (l8.length : Int)) ∧ Aside0 (IsS50 w0 wc g x_ y_) ∧ Aside0 (KeepBut w wc g none) ∧ Aside0 (Below w0.heap.size w0 wc) ∧ Aside0 (wc.heap[gb]? = some (.cells #[.int .i64 a0, .string a1, .string a2, .string a3, .int .i64 a4, .int .i64 a5, .int .i64 a6, .int .i64 a7, .int .i64 a8, .int .i64 a9, .int .i64 a10, .int .i64 a11, .int .i64 a12, .int .i64 a13, .int .i64 a14, .int .i64 a15, .int .i64 a16, .int .i64 a17, .int .i64 a18, .int .i64 a19, .int .i64 a20, .slice A7 l7.length c7, .slice A8 l8.length c8] 34 (0, 0))))
            case first =>
              by_cases c : i_ < (l8.length : Int)
              · have cb : decide (i_ < (l8.length : Int)) = true := decide_eq_true c
                obtain ⟨HG2, hg2⟩ := HI0.out
                have hcs2_0 := cellS50_0 HG2
                have hcs2_1 := cellS50_1 HG2
                have hfs2_0 := blk_frozen HG2 0
                have hfs2_1 := blk_frozen HG2 1
                clear HG2 hg2
                have hczd_22 : wr.cell? ⟨gb, 22, none⟩ = some (.slice A8 l8.length c8) := (blk_cell BK.out 22).trans rfl
                have hfzd_22 := blk_frozen BK.out 22
                go_wp2
                go_meet
                case rel => exact ⟨!s3_, s2_, s3_, rfl, ⟨fun _ => c⟩, ⟨by repeat (first | (with_reducible first | exact HI0.out | apply IsS50.alloc | apply IsS50.drewN | apply IsS50.drew | apply IsS50.set_0 | apply IsS50.set_1) | exact HI0.out)⟩, ⟨by repeat (first | (with_reducible first | exact HK.out | apply KeepBut.set_ | apply keep_drewN | apply keep_drew | apply keep_alloc) | exact HK.out)⟩, ⟨by repeat (first | (with_reducible first | exact HB.out | apply below_alloc | apply pw_below_drewN | apply below_drew1 | refine below_set ?_ (IsS50.ge HI0.out)) | exact HB.out)⟩, ⟨by (with_reducible repeat (first | refine blk_far ?_ NB.out _ | refine blk_drewN ?_ _ | refine blk_drew ?_ | refine blk_alloc ?_ _)); exact BK.out⟩⟩
              · have cb : decide (i_ < (l8.length : Int)) = false := decide_eq_false c
                have hczd_22 : wr.cell? ⟨gb, 22, none⟩ = some (.slice A8 l8.length c8) := (blk_cell BK.out 22).trans rfl
                have hfzd_22 := blk_frozen BK.out 22
                go_wp2
                go_meet
                case rel => exact ⟨false, s2_, s3_, rfl, ⟨fun h => by cases h⟩, ⟨by repeat (first | (with_reducible first | exact HI0.out | apply IsS50.alloc | apply IsS50.drewN | apply IsS50.drew | apply IsS50.set_0 | apply IsS50.set_1) | exact HI0.out)⟩, ⟨by repeat (first | (with_reducible first | exact HK.out | apply KeepBut.set_ | apply keep_drewN | apply keep_drew | apply keep_alloc) | exact HK.out)⟩, ⟨by repeat (first | (with_reducible first | exact HB.out | apply below_alloc | apply pw_below_drewN | apply below_drew1 | refine below_set ?_ (IsS50.ge HI0.out)) | exact HB.out)⟩, ⟨by (with_reducible repeat (first | refine blk_far ?_ NB.out _ | refine blk_drewN ?_ _ | refine blk_drew ?_ | refine blk_alloc ?_ _)); exact BK.out⟩⟩
            case rest =>
              clear HI0 HK HB BK
              obtain ⟨b_, s4_, s5_, rfl, HC, HI0, HK, HB, BK⟩ := hcut
              cases b_ with
              | false =>
                go_wp2
                first | go_end0 | ((try simp only [Exit.inBlock, Exit.then]); refine bodyPost_ret (results_none rfl _ _ _) rfl ?_)
                exact ⟨rfl, ⟨s4_, s5_, by repeat (first | (with_reducible first | exact HI0.out | apply IsS50.alloc | apply IsS50.drewN | apply IsS50.drew | apply IsS50.set_0 | apply IsS50.set_1) | exact HI0.out)⟩, by repeat (first | (with_reducible first | exact HB.out | apply below_alloc | apply pw_below_drewN | apply below_drew1 | refine below_set ?_ (IsS50.ge HI0.out)) | exact HB.out), by repeat (first | (with_reducible first | exact HK.out | apply KeepBut.set_ | apply keep_drewN | apply keep_drew | apply keep_alloc) | exact HK.out)⟩
              | true =>
                have c_ := HC.out rfl
                have p_ : 0 ≤ i_ := HQ.out.1
                have q_ : i_ < (l8.length : Int) := c_
                obtain ⟨ad, cv_, e_, _, hK_, hc0_⟩ := Kd.C_get HR8.out z34 i_ p_ q_
                cases e_
                obtain ⟨B7, d7, B8, d8, rfl, hl7, hi7, hl8, hi8⟩ := k34_open hK_
                have HCS := Aside0.mk (show ∀ j v, (([.int .i64 (rd_T34 l8 i_).f0, .string (rd_T34 l8 i_).f1, .string (rd_T34 l8 i_).f2, .string (rd_T34 l8 i_).f3, .int .i64 (rd_T34 l8 i_).f4, .int .i64 (rd_T34 l8 i_).f5.f0, .int .i64 (rd_T34 l8 i_).f5.f1, .int .i64 (rd_T34 l8 i_).f5.f2, .int .i64 (rd_T34 l8 i_).f6.f0, .int .i64 (rd_T34 l8 i_).f6.f1, .int .i64 (rd_T34 l8 i_).f6.f2, .int .i64 (rd_T34 l8 i_).f6.f3, .int .i64 (rd_T34 l8 i_).f6.f4.f0, .int .i64 (rd_T34 l8 i_).f6.f4.f1, .int .i64 (rd_T34 l8 i_).f6.f4.f2, .int .i64 (rd_T34 l8 i_).f6.f5.f0, .int .i64 (rd_T34 l8 i_).f6.f5.f1, .int .i64 (rd_T34 l8 i_).f6.f5.f2, .int .i64 (rd_T34 l8 i_).f6.f6.f0, .int .i64 (rd_T34 l8 i_).f6.f6.f1, .int .i64 (rd_T34 l8 i_).f6.f7, .slice B7 (rd_T34 l8 i_).f7.length d7, .slice B8 (rd_T34 l8 i_).f8.length d8] : List Value))[j]? = some v → wc.cell? ((ad.add (i_.toNat * 23)).add j) = some v from fun j v hj => by have h1 := hc0_ j v hj; have h2 := (HB.out.cell (World.block_lt_of_cell? w0 _ h1)).trans h1; rw [World_add_add]; exact h2)
                have HR5 := Aside0.mk hi7
                have HR6 := Aside0.mk hi8
                clear hl7 hi7 hl8 hi8 hK_ hc0_
                have HM := Aside0.mk (rd_mem34 p_ q_)
                replace p_ := eq_true p_
                replace q_ := eq_true q_
                have hcze_22 : wc.cell? ⟨gb, 22, none⟩ = some (.slice (some ad) l8.length c8) := (blk_cell BK.out 22).trans rfl
                have hfze_22 := blk_frozen BK.out 22
                go_upto_region 13 with ((with_reducible refine gate_dst (N := 72) rfl ?_); (try (refine gate_guard (by rfl) ?_; dsimp only)); refine load_event (t := 34) (p := .tmp 71) (ad := ad.add (i_.toNat * 23)) ?hg ?ho ?hp hu34 ⟨_, rfl⟩ ([.int .i64 (rd_T34 l8 i_).f0, .string (rd_T34 l8 i_).f1, .string (rd_T34 l8 i_).f2, .string (rd_T34 l8 i_).f3, .int .i64 (rd_T34 l8 i_).f4, .int .i64 (rd_T34 l8 i_).f5.f0, .int .i64 (rd_T34 l8 i_).f5.f1, .int .i64 (rd_T34 l8 i_).f5.f2, .int .i64 (rd_T34 l8 i_).f6.f0, .int .i64 (rd_T34 l8 i_).f6.f1, .int .i64 (rd_T34 l8 i_).f6.f2, .int .i64 (rd_T34 l8 i_).f6.f3, .int .i64 (rd_T34 l8 i_).f6.f4.f0, .int .i64 (rd_T34 l8 i_).f6.f4.f1, .int .i64 (rd_T34 l8 i_).f6.f4.f2, .int .i64 (rd_T34 l8 i_).f6.f5.f0, .int .i64 (rd_T34 l8 i_).f6.f5.f1, .int .i64 (rd_T34 l8 i_).f6.f5.f2, .int .i64 (rd_T34 l8 i_).f6.f6.f0, .int .i64 (rd_T34 l8 i_).f6.f6.f1, .int .i64 (rd_T34 l8 i_).f6.f7, .slice B7 (rd_T34 l8 i_).f7.length d7, .slice B8 (rd_T34 l8 i_).f8.length d8]) ?hs HCS.out ?_; (case ho => rfl); (case hs => exact size34); (case hg => rfl); (case hp => first | (go_simp; done) | (go_simp; rfl)))
                refine (ih.out _ _ _ _ _ _ _ _ _ _ _ _ _ _ _ _ _ _ _ _ _ (rd_T34 l8 i_).f7 (rd_T34 l8 i_).f8 (by have := S34.wt_le HM.out; have := S34.wt_eq (rd_T34 l8 i_); have := HX.out; omega) g _ _ B7 d7 B8 d8 _ w0 _ (by repeat (first | (with_reducible first | exact HI0.out | apply IsS50.alloc | apply IsS50.drewN | apply IsS50.drew | apply IsS50.set_0 | apply IsS50.set_1) | exact HI0.out)) (by repeat (first | (with_reducible first | exact HB.out | apply below_alloc | apply pw_below_drewN | apply below_drew1 | refine below_set ?_ (IsS50.ge HI0.out)) | exact HB.out)) HR5.out HR6.out).mono ?_
                rintro e w9 ⟨rfl, ⟨q1_, q2_, hi⟩, hb, hk⟩
                try dsimp only
                have n0_ := Aside0.mk (KeepBut.trans (by repeat (first | (with_reducible first | exact HK.out | apply KeepBut.set_ | apply keep_drewN | apply keep_drew | apply keep_alloc) | exact HK.out)) hk (.inl rfl)); have n1_ := Aside0.mk hb; have n2_ := Aside0.mk hi; have n3_ := Aside0.mk (hk.blk (by (with_reducible repeat (first | refine blk_far ?_ NB.out _ | refine blk_drewN ?_ _ | refine blk_drew ?_ | refine blk_alloc ?_ _)); exact BK.out) NB.out (by simp)); clear HK HB HI0 BK; have HK := n0_; have HB := n1_; have HI0 := n2_; have BK := n3_; clear n0_ n1_ n2_ n3_ hb hk hi
                go_wp2
                go_roundg (gk - 1)
                case measure => have := HQ.out; have := c_; omega
                case rel => exact ⟨i_ + 1, q1_, q2_, by rw [show wrap64 (i_ + 1) = i_ + 1 from by have := HQ.out; have := c_; unfold wrap64; omega], ⟨by have := HQ.out; have := c_; omega⟩, ⟨by repeat (first | (with_reducible first | exact HI0.out | apply IsS50.alloc | apply IsS50.drewN | apply IsS50.drew | apply IsS50.set_0 | apply IsS50.set_1) | exact HI0.out)⟩, ⟨by repeat (first | (with_reducible first | exact HK.out | apply KeepBut.set_ | apply keep_drewN | apply keep_drew | apply keep_alloc) | exact HK.out)⟩, ⟨by repeat (first | (with_reducible first | exact HB.out | apply below_alloc | apply pw_below_drewN | apply below_drew1 | refine below_set ?_ (IsS50.ge HI0.out)) | exact HB.out)⟩, ⟨by (with_reducible repeat (first | refine blk_far ?_ NB.out _ | refine blk_drewN ?_ _ | refine blk_drew ?_ | refine blk_alloc ?_ _)); exact BK.out⟩⟩
        | true =>
          have c_ := HC.out rfl
          have p_ : 0 ≤ i_ := HQ.out.1
          have q_ : i_ < (l7.length : Int) := c_
          obtain ⟨ad, B3, d3, B4, d4, e_, hx0, hx1, hx2, hx3, hx4, hl3, hi3, hl4, hi4⟩ := at_T54 HR7.out i_ p_ q_
          cases e_
          replace hx0 := (HB.out.cell (World.block_lt_of_cell? w0 _ hx0)).trans hx0
          replace hx1 := (HB.out.cell (World.block_lt_of_cell? w0 _ hx1)).trans hx1
          replace hx2 := (HB.out.cell (World.block_lt_of_cell? w0 _ hx2)).trans hx2
          replace hx3 := (HB.out.cell (World.block_lt_of_cell? w0 _ hx3)).trans hx3
          replace hx4 := (HB.out.cell (World.block_lt_of_cell? w0 _ hx4)).trans hx4
          have HR5 := Aside0.mk hi4
          clear hi3 hl3 hl4 hi4
          have HM := Aside0.mk (rd_mem54 p_ q_)
          replace p_ := eq_true p_
          replace q_ := eq_true q_
          have hcze_21 : wc.cell? ⟨gb, 21, none⟩ = some (.slice (some ad) l7.length c7) := (blk_cell BK.out 21).trans rfl
          have hfze_21 := blk_frozen BK.out 21
          go_upto_region 9 with (fail)
          refine (Tally_expr.calls (S54.wts (rd_T54 l7 i_).f4 + 1) _ _ _ _ (rd_T54 l7 i_).f4 (Nat.lt_succ_self _) g _ _ B3 d3 B4 d4 _ w0 _ (by repeat (first | (with_reducible first | exact HI0.out | apply IsS50.alloc | apply IsS50.drewN | apply IsS50.drew | apply IsS50.set_0 | apply IsS50.set_1) | exact HI0.out)) (by repeat (first | (with_reducible first | exact HB.out | apply below_alloc | apply pw_below_drewN | apply below_drew1 | refine below_set ?_ (IsS50.ge HI0.out)) | exact HB.out)) HR5.out).mono ?_
          rintro e w9 ⟨rfl, ⟨q1_, q2_, hi⟩, hb, hk⟩
          try dsimp only
          have n0_ := Aside0.mk (KeepBut.trans (by repeat (first | (with_reducible first | exact HK.out | apply KeepBut.set_ | apply keep_drewN | apply keep_drew | apply keep_alloc) | exact HK.out)) hk (.inl rfl)); have n1_ := Aside0.mk hb; have n2_ := Aside0.mk hi; have n3_ := Aside0.mk (hk.blk (by (with_reducible repeat (first | refine blk_far ?_ NB.out _ | refine blk_drewN ?_ _ | refine blk_drew ?_ | refine blk_alloc ?_ _)); exact BK.out) NB.out (by simp)); clear HK HB HI0 BK; have HK := n0_; have HB := n1_; have HI0 := n2_; have BK := n3_; clear n0_ n1_ n2_ n3_ hb hk hi
          go_wp2
          go_roundg (gk - 1)
          case measure => have := HQ.out; have := c_; omega
          case rel => exact ⟨i_ + 1, q1_, q2_, by rw [show wrap64 (i_ + 1) = i_ + 1 from by have := HQ.out; have := c_; unfold wrap64; omega], ⟨by have := HQ.out; have := c_; omega⟩, ⟨by repeat (first | (with_reducible first | exact HI0.out | apply IsS50.alloc | apply IsS50.drewN | apply IsS50.drew | apply IsS50.set_0 | apply IsS50.set_1) | exact HI0.out)⟩, ⟨by repeat (first | (with_reducible first | exact HK.out | apply KeepBut.set_ | apply keep_drewN | apply keep_drew | apply keep_alloc) | exact HK.out)⟩, ⟨by repeat (first | (with_reducible first | exact HB.out | apply below_alloc | apply pw_below_drewN | apply below_drew1 | refine below_set ?_ (IsS50.ge HI0.out)) | exact HB.out)⟩, ⟨by (with_reducible repeat (first | refine blk_far ?_ NB.out _ | refine blk_drewN ?_ _ | refine blk_drew ?_ | refine blk_alloc ?_ _)); exact BK.out⟩⟩
end Go.Proofs.Ytkfbkjcdngipcaa.PTreeEquals
