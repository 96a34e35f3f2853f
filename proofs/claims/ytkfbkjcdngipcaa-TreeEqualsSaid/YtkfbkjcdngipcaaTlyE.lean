import Derived.Test.YtkfbkjcdngipcaaPTreeEqualsx2
import Derived.Test.YtkfbkjcdngipcaaPTreeEqualsx4
namespace Go.Proofs.Ytkfbkjcdngipcaa.PTreeEquals
open Go.RowKit Go.Proofs.YtkfbkjcdngipcaaW.PrintWords Go.Proofs.YtkfbkjcdngipcaaW.PrintLast Go.Proofs.YtkfbkjcdngipcaaW.PrintMore
attribute [local go_sem] max2_int min2_int max_two min_two max_three min_three max_four min_four
set_option linter.unusedVariables false
set_option linter.unusedSimpArgs false
mutual
/-- How many parts an expression has. -/
def S54.wt : S54 → Nat
  | ⟨_, _, _, _, l⟩ => 1 + S54.wts l
def S54.wts : List S54 → Nat
  | [] => 0
  | x :: r => x.wt + S54.wts r
end
theorem S54.wt_eq (x : S54) : x.wt = 1 + S54.wts x.f4 := by cases x; simp [S54.wt]
theorem S54.wt_le {x : S54} : ∀ {l : List S54}, x ∈ l → x.wt ≤ S54.wts l
  | [], h => by simp at h
  | y :: r, h => by
    simp only [S54.wts]
    rcases List.mem_cons.1 h with rfl | h
    · omega
    · have := S54.wt_le h; omega
theorem S54.len_le : ∀ l : List S54, l.length ≤ S54.wts l
  | [] => by simp [S54.wts]
  | x :: r => by
    have := S54.len_le r
    simp only [S54.wts, List.length_cons, S54.wt_eq x]; omega
theorem rd_mem54 {l : List S54} {i : Int} (h0 : 0 ≤ i) (h1 : i < l.length) : rd_T54 l i ∈ l := by
  unfold rd_T54
  rw [List.getD_eq_getElem?_getD, List.getElem?_eq_getElem (show i.toNat < l.length by omega)]
  exact List.getElem_mem _
theorem take_any (s0 : Int) (s1 : Bool) (a : Int) : ∃ r1 r2, payoffref07_Tally_take.f s0 s1 a = some (r1, r2) := by
  unfold payoffref07_Tally_take.f; split <;> exact ⟨_, _, rfl⟩
/-- Tally.take: some state or other. -/
theorem take_calls (g : Nat) (s0 : Int) (s1 : Bool) (a1 : Int) (w0 w : World) (hI : IsS50 w0 w g s0 s1) (hB : Below w0.heap.size w0 w) :
    Calls Try.prog 14 #[.pointer (some ⟨g, 0, none⟩), .int .i64 a1] w fun e w' => e = .returned (.tuple #[]) ∧ (∃ r1 r2, IsS50 w0 w' g r1 r2) ∧ Below w0.heap.size w0 w' ∧ KeepBut w w' g none := by
  obtain ⟨r1, r2, h⟩ := take_any s0 s1 a1
  refine (payoffref07_Tally_take.calls g s0 s1 a1 r1 r2 w0 w hI hB h).mono ?_
  rintro e w' ⟨h1, h2, h3, h4⟩
  exact ⟨h1, ⟨r1, r2, h2⟩, h3, h4⟩
set_option maxHeartbeats 8000000 in
set_option maxRecDepth 100000 in
/-- Tally.expr: some state or other. -/
theorem Tally_expr.calls (N : Nat) : ∀ (a0 a1 : Int) (a2 : ByteArray) (l3 : List S23) (l4 : List S54) (hx : S54.wts l4 < N) (g : Nat) (s0 : Int) (s1 : Bool) (A3 : Option Addr) (c3 : Nat) (A4 : Option Addr) (c4 : Nat) (n : Int) (w0 w : World) (hI : IsS50 w0 w g s0 s1) (hB : Below w0.heap.size w0 w) (hr4 : Kd.C k54 w0 A4 l4.length l4),
    Calls Try.prog 16 #[.pointer (some ⟨g, 0, none⟩), .agg #[.int .i64 a0, .int .i64 a1, .string a2, .slice A3 l3.length c3, .slice A4 l4.length c4], .int .i64 n] w fun e w' => e = .returned (.tuple #[]) ∧ (∃ r1 r2, IsS50 w0 w' g r1 r2) ∧ Below w0.heap.size w0 w' ∧ KeepBut w w' g none := by
  induction N with
  | zero => intro a0 a1 a2 l3 l4 hx; omega
  | succ N ih =>
  replace ih := Aside0.mk ih
  intro a0 a1 a2 l3 l4 hx g s0 s1 A3 c3 A4 c4 n w0 w hI hB hr4
  have hu54 := Try.underlying54
  have HR4 := Aside0.mk hr4
  clear hr4
  have HX := Aside0.mk hx
  have HLN : (l4.length : Int) ≤ 9223372036854775807 := by have := Kd.C_max HR4.out; omega
  clear hx
  have HI0 := Aside0.mk hI
  have HK := Aside0.mk (KeepBut.refl w g none)
  clear hI
  have HB := Aside0.mk hB
  clear hB
  go_enter Try.func16, Try.ntmps16
  go_upto_region 1 with (((with_reducible refine gate_dst (N := 4) rfl ?_); (try (refine gate_guard (by rfl) ?_; dsimp only)); refine box_event ?hg (N := 4) ?hd (cs := #[.int .i64 a0, .int .i64 a1, .string a2, .slice A3 l3.length c3, .slice A4 l4.length c4]) (t := 54) ?hr ?_; (case hd => rfl); (case hg => rfl); (case hr => first | (go_simp; done) | (go_simp; rfl)); intro gb hg w5 hbox hb; have n0_ := Aside0.mk (below_step HB.out hb); have n1_ := Aside0.mk (HI0.out.below hb); have n2_ := Aside0.mk (HK.out.trans (KeepBut.of_below hb g none) (.inl rfl)); have n3_ := Aside0.mk (show gb ≠ g by rw [hg]; exact Nat.ne_of_gt HI0.out.lt); have n4_ := Aside0.mk (show w.heap.size ≤ gb by rw [hg]; exact HK.out.1); clear HB HI0 HK; have HB := n0_; have HI0 := n1_; have HK := n2_; have NB := n3_; have GE := n4_; have BK := Aside0.mk hbox; clear n0_ n1_ n2_ n3_ n4_ hb hbox hg))
  (try simp only [Act.put, List.setIfInBounds_toArray, List.set_cons_zero, List.set_cons_succ])
  go_cut [8] (fun v8 wc => ∃ (b_ : Bool) (x_ : Int) (y_ : Bool), v8 = .bool b_ ∧ Aside0 (IsS50 w0 wc g x_ y_) ∧ Aside0 (KeepBut w wc g none) ∧ Aside0 (Below w0.heap.size w0 wc) ∧ Aside0 (wc.heap[gb]? = some (.cells #[.int .i64 a0, .int .i64 a1, .string a2, .slice A3 l3.length c3, .slice A4 l4.length c4] 54 (0, 0))))
  case first =>
    go_wp2
    go_meet
    case rel => exact ⟨_, s0, s1, rfl, ⟨by repeat (first | (with_reducible first | exact HI0.out | apply IsS50.alloc | apply IsS50.drewN | apply IsS50.drew | apply IsS50.set_0 | apply IsS50.set_1) | exact HI0.out)⟩, ⟨by repeat (first | (with_reducible first | exact HK.out | apply KeepBut.set_ | apply keep_drewN | apply keep_drew | apply keep_alloc) | exact HK.out)⟩, ⟨by repeat (first | (with_reducible first | exact HB.out | apply below_alloc | apply pw_below_drewN | apply below_drew1 | refine below_set ?_ (IsS50.ge HI0.out)) | exact HB.out)⟩, ⟨by (with_reducible repeat (first | refine blk_far ?_ NB.out _ | refine blk_drewN ?_ _ | refine blk_drew ?_ | refine blk_alloc ?_ _)); exact BK.out⟩⟩
  case rest =>
  rename_i K0 hK0 K1 hK1
  clear HI0 HK HB BK
  obtain ⟨b_, s0, s1, rfl, HI0, HK, HB, BK⟩ := hcut
  apply hK1
  clear hK1 K1
  go_cut [] (fun wc => ∃ (x_ : Int) (y_ : Bool), Aside0 (IsS50 w0 wc g x_ y_) ∧ Aside0 (KeepBut w wc g none) ∧ Aside0 (Below w0.heap.size w0 wc) ∧ Aside0 (wc.heap[gb]? = some (.cells #[.int .i64 a0, .int .i64 a1, .string a2, .slice A3 l3.length c3, .slice A4 l4.length c4] 54 (0, 0))))
  case first =>
    by_cases c : b_ = true
    · subst c
      obtain ⟨HG1, hg1⟩ := HI0.out
      have hcs1_0 := cellS50_0 HG1
      have hcs1_1 := cellS50_1 HG1
      have hfs1_0 := blk_frozen HG1 0
      have hfs1_1 := blk_frozen HG1 1
      clear HG1 hg1
      go_wp2
      go_meet
      case rel => exact ⟨s0, true, ⟨by repeat (first | (with_reducible first | exact HI0.out | apply IsS50.alloc | apply IsS50.drewN | apply IsS50.drew | apply IsS50.set_0 | apply IsS50.set_1) | exact HI0.out)⟩, ⟨by repeat (first | (with_reducible first | exact HK.out | apply KeepBut.set_ | apply keep_drewN | apply keep_drew | apply keep_alloc) | exact HK.out)⟩, ⟨by repeat (first | (with_reducible first | exact HB.out | apply below_alloc | apply pw_below_drewN | apply below_drew1 | refine below_set ?_ (IsS50.ge HI0.out)) | exact HB.out)⟩, ⟨by (with_reducible repeat (first | refine blk_far ?_ NB.out _ | refine blk_drewN ?_ _ | refine blk_drew ?_ | refine blk_alloc ?_ _)); exact BK.out⟩⟩
    · replace c := Bool.eq_false_iff.mpr c
      subst c
      go_wp2
      go_meet
      case rel => exact ⟨s0, s1, ⟨by repeat (first | (with_reducible first | exact HI0.out | apply IsS50.alloc | apply IsS50.drewN | apply IsS50.drew | apply IsS50.set_0 | apply IsS50.set_1) | exact HI0.out)⟩, ⟨by repeat (first | (with_reducible first | exact HK.out | apply KeepBut.set_ | apply keep_drewN | apply keep_drew | apply keep_alloc) | exact HK.out)⟩, ⟨by repeat (first | (with_reducible first | exact HB.out | apply below_alloc | apply pw_below_drewN | apply below_drew1 | refine below_set ?_ (IsS50.ge HI0.out)) | exact HB.out)⟩, ⟨by (with_reducible repeat (first | refine blk_far ?_ NB.out _ | refine blk_drewN ?_ _ | refine blk_drew ?_ | refine blk_alloc ?_ _)); exact BK.out⟩⟩
  case rest =>
    obtain ⟨s0_, s1_, HI0, HK, HB, BK⟩ := hcut
    go_upto_region 4 with (fail)
    refine (take_calls g _ _ 1 w0 _ (by repeat (first | (with_reducible first | exact HI0.out | apply IsS50.alloc | apply IsS50.drewN | apply IsS50.drew | apply IsS50.set_0 | apply IsS50.set_1) | exact HI0.out)) (by repeat (first | (with_reducible first | exact HB.out | apply below_alloc | apply pw_below_drewN | apply below_drew1 | refine below_set ?_ (IsS50.ge HI0.out)) | exact HB.out))).mono ?_
    rintro e w6 ⟨rfl, ⟨q1_, q2_, hi⟩, hb, hk⟩
    try dsimp only
    have n0_ := Aside0.mk (KeepBut.trans (by repeat (first | (with_reducible first | exact HK.out | apply KeepBut.set_ | apply keep_drewN | apply keep_drew | apply keep_alloc) | exact HK.out)) hk (.inl rfl)); have n1_ := Aside0.mk hb; have n2_ := Aside0.mk hi; have n3_ := Aside0.mk (hk.blk (by (with_reducible repeat (first | refine blk_far ?_ NB.out _ | refine blk_drewN ?_ _ | refine blk_drew ?_ | refine blk_alloc ?_ _)); exact BK.out) NB.out (by simp)); clear HK HB HI0 BK; have HK := n0_; have HB := n1_; have HI0 := n2_; have BK := n3_; clear n0_ n1_ n2_ n3_ hb hk hi
    have hcza_0 : w6.cell? ⟨gb, 0, none⟩ = some (.int .i64 a0) := (blk_cell BK.out 0).trans rfl
    have hcza_1 : w6.cell? ⟨gb, 1, none⟩ = some (.int .i64 a1) := (blk_cell BK.out 1).trans rfl
    have hcza_2 : w6.cell? ⟨gb, 2, none⟩ = some (.string a2) := (blk_cell BK.out 2).trans rfl
    have hcza_3 : w6.cell? ⟨gb, 3, none⟩ = some (.slice A3 l3.length c3) := (blk_cell BK.out 3).trans rfl
    have hcza_4 : w6.cell? ⟨gb, 4, none⟩ = some (.slice A4 l4.length c4) := (blk_cell BK.out 4).trans rfl
    have hfza_0 := blk_frozen BK.out 0
    have hfza_1 := blk_frozen BK.out 1
    have hfza_2 := blk_frozen BK.out 2
    have hfza_3 := blk_frozen BK.out 3
    have hfza_4 := blk_frozen BK.out 4
    go_upto_region 5 with (fail)
    refine (take_calls g _ _ (a2.size : Int) w0 _ (by repeat (first | (with_reducible first | exact HI0.out | apply IsS50.alloc | apply IsS50.drewN | apply IsS50.drew | apply IsS50.set_0 | apply IsS50.set_1) | exact HI0.out)) (by repeat (first | (with_reducible first | exact HB.out | apply below_alloc | apply pw_below_drewN | apply below_drew1 | refine below_set ?_ (IsS50.ge HI0.out)) | exact HB.out))).mono ?_
    rintro e w7 ⟨rfl, ⟨q1_, q2_, hi⟩, hb, hk⟩
    try dsimp only
    have n0_ := Aside0.mk (KeepBut.trans (by repeat (first | (with_reducible first | exact HK.out | apply KeepBut.set_ | apply keep_drewN | apply keep_drew | apply keep_alloc) | exact HK.out)) hk (.inl rfl)); have n1_ := Aside0.mk hb; have n2_ := Aside0.mk hi; have n3_ := Aside0.mk (hk.blk (by (with_reducible repeat (first | refine blk_far ?_ NB.out _ | refine blk_drewN ?_ _ | refine blk_drew ?_ | refine blk_alloc ?_ _)); exact BK.out) NB.out (by simp)); clear HK HB HI0 BK; have HK := n0_; have HB := n1_; have HI0 := n2_; have BK := n3_; clear n0_ n1_ n2_ n3_ hb hk hi
    clear hcza_0 hfza_0 hcza_1 hfza_1 hcza_2 hfza_2 hcza_3 hfza_3 hcza_4 hfza_4
    have hczb_0 : w7.cell? ⟨gb, 0, none⟩ = some (.int .i64 a0) := (blk_cell BK.out 0).trans rfl
    have hczb_1 : w7.cell? ⟨gb, 1, none⟩ = some (.int .i64 a1) := (blk_cell BK.out 1).trans rfl
    have hczb_2 : w7.cell? ⟨gb, 2, none⟩ = some (.string a2) := (blk_cell BK.out 2).trans rfl
    have hczb_3 : w7.cell? ⟨gb, 3, none⟩ = some (.slice A3 l3.length c3) := (blk_cell BK.out 3).trans rfl
    have hczb_4 : w7.cell? ⟨gb, 4, none⟩ = some (.slice A4 l4.length c4) := (blk_cell BK.out 4).trans rfl
    have hfzb_0 := blk_frozen BK.out 0
    have hfzb_1 := blk_frozen BK.out 1
    have hfzb_2 := blk_frozen BK.out 2
    have hfzb_3 := blk_frozen BK.out 3
    have hfzb_4 := blk_frozen BK.out 4
    go_upto_region 6 with (fail)
    refine (take_calls g _ _ (l3.length : Int) w0 _ (by repeat (first | (with_reducible first | exact HI0.out | apply IsS50.alloc | apply IsS50.drewN | apply IsS50.drew | apply IsS50.set_0 | apply IsS50.set_1) | exact HI0.out)) (by repeat (first | (with_reducible first | exact HB.out | apply below_alloc | apply pw_below_drewN | apply below_drew1 | refine below_set ?_ (IsS50.ge HI0.out)) | exact HB.out))).mono ?_
    rintro e w8 ⟨rfl, ⟨q1_, q2_, hi⟩, hb, hk⟩
    try dsimp only
    have n0_ := Aside0.mk (KeepBut.trans (by repeat (first | (with_reducible first | exact HK.out | apply KeepBut.set_ | apply keep_drewN | apply keep_drew | apply keep_alloc) | exact HK.out)) hk (.inl rfl)); have n1_ := Aside0.mk hb; have n2_ := Aside0.mk hi; have n3_ := Aside0.mk (hk.blk (by (with_reducible repeat (first | refine blk_far ?_ NB.out _ | refine blk_drewN ?_ _ | refine blk_drew ?_ | refine blk_alloc ?_ _)); exact BK.out) NB.out (by simp)); clear HK HB HI0 BK; have HK := n0_; have HB := n1_; have HI0 := n2_; have BK := n3_; clear n0_ n1_ n2_ n3_ hb hk hi
    clear hczb_0 hfzb_0 hczb_1 hfzb_1 hczb_2 hfzb_2 hczb_3 hfzb_3 hczb_4 hfzb_4
    go_wp2
    go_loopg [6] l4.length (fun kq v6 w' => ∃ (i_ : Int) (x_ : Int) (y_ : Bool), v6 = .int .i64 i_ ∧ Aside0 (0 ≤ i_ ∧ i_ + (kq : Int) = (l4.length : Int)) ∧ Aside0 (IsS50 w0 w' g x_ y_) ∧ Aside0 (KeepBut w w' g none) ∧ Aside0 (Below w0.heap.size w0 w') ∧ Aside0 (w'.heap[gb]? = some (.cells #[.int .i64 a0, .int .i64 a1, .string a2, .slice A3 l3.length c3, .slice A4 l4.length c4] 54 (0, 0))))
    case atStart => exact ⟨0, q1_, q2_, rfl, ⟨by omega, by omega⟩, ⟨by repeat (first | (with_reducible first | exact HI0.out | apply IsS50.alloc | apply IsS50.drewN | apply IsS50.drew | apply IsS50.set_0 | apply IsS50.set_1) | exact HI0.out)⟩, ⟨by repeat (first | (with_reducible first | exact HK.out | apply KeepBut.set_ | apply keep_drewN | apply keep_drew | apply keep_alloc) | exact HK.out)⟩, ⟨by repeat (first | (with_reducible first | exact HB.out | apply below_alloc | apply pw_below_drewN | apply below_drew1 | refine below_set ?_ (IsS50.ge HI0.out)) | exact HB.out)⟩, ⟨by (with_reducible repeat (first | refine blk_far ?_ NB.out _ | refine blk_drewN ?_ _ | refine blk_drew ?_ | refine blk_alloc ?_ _)); exact BK.out⟩⟩
    case round =>
      obtain ⟨i_, s2_, s3_, rfl, HQ, HI0, HK, HB, BK⟩ := hrel
      go_upto_region 7 with (fail)
      go_cut [35] (fun v35 wc => ∃ (b_ : Bool) (x_ : Int) (y_ : Bool), v35 = .bool b_ ∧ Aside0 (b_ = true → i_ < (l4.length : Int)) ∧ Aside0 (IsS50 w0 wc g x_ y_) ∧ Aside0 (KeepBut w wc g none) ∧ Aside0 (Below w0.heap.size w0 wc) ∧ Aside0 (wc.heap[gb]? = some (.cells #[.int .i64 a0, .int .i64 a1, .string a2, .slice A3 l3.length c3, .slice A4 l4.length c4] 54 (0, 0))))
      case first =>
        by_cases c : i_ < (l4.length : Int)
        · have cb : decide (i_ < (l4.length : Int)) = true := decide_eq_true c
          obtain ⟨HG2, hg2⟩ := HI0.out
          have hcs2_0 := cellS50_0 HG2
          have hcs2_1 := cellS50_1 HG2
          have hfs2_0 := blk_frozen HG2 0
          have hfs2_1 := blk_frozen HG2 1
          clear HG2 hg2
          have hczd_0 : wr.cell? ⟨gb, 0, none⟩ = some (.int .i64 a0) := (blk_cell BK.out 0).trans rfl
          have hczd_1 : wr.cell? ⟨gb, 1, none⟩ = some (.int .i64 a1) := (blk_cell BK.out 1).trans rfl
          have hczd_2 : wr.cell? ⟨gb, 2, none⟩ = some (.string a2) := (blk_cell BK.out 2).trans rfl
          have hczd_3 : wr.cell? ⟨gb, 3, none⟩ = some (.slice A3 l3.length c3) := (blk_cell BK.out 3).trans rfl
          have hczd_4 : wr.cell? ⟨gb, 4, none⟩ = some (.slice A4 l4.length c4) := (blk_cell BK.out 4).trans rfl
          have hfzd_0 := blk_frozen BK.out 0
          have hfzd_1 := blk_frozen BK.out 1
          have hfzd_2 := blk_frozen BK.out 2
          have hfzd_3 := blk_frozen BK.out 3
          have hfzd_4 := blk_frozen BK.out 4
          go_wp2
          go_meet
          case rel => exact ⟨!s3_, s2_, s3_, rfl, ⟨fun _ => c⟩, ⟨by repeat (first | (with_reducible first | exact HI0.out | apply IsS50.alloc | apply IsS50.drewN | apply IsS50.drew | apply IsS50.set_0 | apply IsS50.set_1) | exact HI0.out)⟩, ⟨by repeat (first | (with_reducible first | exact HK.out | apply KeepBut.set_ | apply keep_drewN | apply keep_drew | apply keep_alloc) | exact HK.out)⟩, ⟨by repeat (first | (with_reducible first | exact HB.out | apply below_alloc | apply pw_below_drewN | apply below_drew1 | refine below_set ?_ (IsS50.ge HI0.out)) | exact HB.out)⟩, ⟨by (with_reducible repeat (first | refine blk_far ?_ NB.out _ | refine blk_drewN ?_ _ | refine blk_drew ?_ | refine blk_alloc ?_ _)); exact BK.out⟩⟩
        · have cb : decide (i_ < (l4.length : Int)) = false := decide_eq_false c
          have hczd_0 : wr.cell? ⟨gb, 0, none⟩ = some (.int .i64 a0) := (blk_cell BK.out 0).trans rfl
          have hczd_1 : wr.cell? ⟨gb, 1, none⟩ = some (.int .i64 a1) := (blk_cell BK.out 1).trans rfl
          have hczd_2 : wr.cell? ⟨gb, 2, none⟩ = some (.string a2) := (blk_cell BK.out 2).trans rfl
          have hczd_3 : wr.cell? ⟨gb, 3, none⟩ = some (.slice A3 l3.length c3) := (blk_cell BK.out 3).trans rfl
          have hczd_4 : wr.cell? ⟨gb, 4, none⟩ = some (.slice A4 l4.length c4) := (blk_cell BK.out 4).trans rfl
          have hfzd_0 := blk_frozen BK.out 0
          have hfzd_1 := blk_frozen BK.out 1
          have hfzd_2 := blk_frozen BK.out 2
          have hfzd_3 := blk_frozen BK.out 3
          have hfzd_4 := blk_frozen BK.out 4
          go_wp2
          go_meet
          case rel => exact ⟨false, s2_, s3_, rfl, ⟨fun h => by cases h⟩, ⟨by repeat (first | (with_reducible first | exact HI0.out | apply IsS50.alloc | apply IsS50.drewN | apply IsS50.drew | apply IsS50.set_0 | apply IsS50.set_1) | exact HI0.out)⟩, ⟨by repeat (first | (with_reducible first | exact HK.out | apply KeepBut.set_ | apply keep_drewN | apply keep_drew | apply keep_alloc) | exact HK.out)⟩, ⟨by repeat (first | (with_reducible first | exact HB.out | apply below_alloc | apply pw_below_drewN | apply below_drew1 | refine below_set ?_ (IsS50.ge HI0.out)) | exact HB.out)⟩, ⟨by (with_reducible repeat (first | refine blk_far ?_ NB.out _ | refine blk_drewN ?_ _ | refine blk_drew ?_ | refine blk_alloc ?_ _)); exact BK.out⟩⟩
      case rest =>
        clear HI0 HK HB BK
        obtain ⟨b_, s4_, s5_, rfl, HC, HI0, HK, HB, BK⟩ := hcut
        cases b_ with
        | false =>
          go_wp2
          first | go_end0 | ((try simp only [Exit.inBlock, Exit.then]); refine bodyPost_ret (results_none rfl _ _ _) rfl ?_)
          exact ⟨rfl, ⟨s4_, s5_, by repeat (first | (with_reducible first | exact HI0.out | apply IsS50.alloc | apply IsS50.drewN | apply IsS50.drew | apply IsS50.set_0 | apply IsS50.set_1) | exact HI0.out)⟩, by repeat (first | (with_reducible first | exact HB.out | apply below_alloc | apply pw_below_drewN | apply below_drew1 | refine below_set ?_ (IsS50.ge HI0.out)) | exact HB.out), by repeat (first | (with_reducible first | exact HK.out | apply KeepBut.set_ | apply keep_drewN | apply keep_drew | apply keep_alloc) | exact HK.out)⟩
        | true =>
          have c_ := HC.out rfl
          have p_ : 0 ≤ i_ := HQ.out.1
          have q_ : i_ < (l4.length : Int) := c_
          obtain ⟨ad, B3, d3, B4, d4, e_, hx0, hx1, hx2, hx3, hx4, hl3, hi3, hl4, hi4⟩ := at_T54 HR4.out i_ p_ q_
          cases e_
          replace hx0 := (HB.out.cell (World.block_lt_of_cell? w0 _ hx0)).trans hx0
          replace hx1 := (HB.out.cell (World.block_lt_of_cell? w0 _ hx1)).trans hx1
          replace hx2 := (HB.out.cell (World.block_lt_of_cell? w0 _ hx2)).trans hx2
          replace hx3 := (HB.out.cell (World.block_lt_of_cell? w0 _ hx3)).trans hx3
          replace hx4 := (HB.out.cell (World.block_lt_of_cell? w0 _ hx4)).trans hx4
          have HR5 := Aside0.mk hi4
          clear hi3 hl3 hl4 hi4
          have HM := Aside0.mk (rd_mem54 p_ q_)
          replace p_ := eq_true p_
          replace q_ := eq_true q_
          have hcze_0 : wc.cell? ⟨gb, 0, none⟩ = some (.int .i64 a0) := (blk_cell BK.out 0).trans rfl
          have hcze_1 : wc.cell? ⟨gb, 1, none⟩ = some (.int .i64 a1) := (blk_cell BK.out 1).trans rfl
          have hcze_2 : wc.cell? ⟨gb, 2, none⟩ = some (.string a2) := (blk_cell BK.out 2).trans rfl
          have hcze_3 : wc.cell? ⟨gb, 3, none⟩ = some (.slice A3 l3.length c3) := (blk_cell BK.out 3).trans rfl
          have hcze_4 : wc.cell? ⟨gb, 4, none⟩ = some (.slice (some ad) l4.length c4) := (blk_cell BK.out 4).trans rfl
          have hfze_0 := blk_frozen BK.out 0
          have hfze_1 := blk_frozen BK.out 1
          have hfze_2 := blk_frozen BK.out 2
          have hfze_3 := blk_frozen BK.out 3
          have hfze_4 := blk_frozen BK.out 4
          go_upto_region 8 with (fail)
          refine (ih.out _ _ _ _ (rd_T54 l4 i_).f4 (by have := S54.wt_le HM.out; have := S54.wt_eq (rd_T54 l4 i_); have := HX.out; omega) g _ _ B3 d3 B4 d4 _ w0 _ (by repeat (first | (with_reducible first | exact HI0.out | apply IsS50.alloc | apply IsS50.drewN | apply IsS50.drew | apply IsS50.set_0 | apply IsS50.set_1) | exact HI0.out)) (by repeat (first | (with_reducible first | exact HB.out | apply below_alloc | apply pw_below_drewN | apply below_drew1 | refine below_set ?_ (IsS50.ge HI0.out)) | exact HB.out)) HR5.out).mono ?_
          rintro e w9 ⟨rfl, ⟨q1_, q2_, hi⟩, hb, hk⟩
          try dsimp only
          have n0_ := Aside0.mk (KeepBut.trans (by repeat (first | (with_reducible first | exact HK.out | apply KeepBut.set_ | apply keep_drewN | apply keep_drew | apply keep_alloc) | exact HK.out)) hk (.inl rfl)); have n1_ := Aside0.mk hb; have n2_ := Aside0.mk hi; have n3_ := Aside0.mk (hk.blk (by (with_reducible repeat (first | refine blk_far ?_ NB.out _ | refine blk_drewN ?_ _ | refine blk_drew ?_ | refine blk_alloc ?_ _)); exact BK.out) NB.out (by simp)); clear HK HB HI0 BK; have HK := n0_; have HB := n1_; have HI0 := n2_; have BK := n3_; clear n0_ n1_ n2_ n3_ hb hk hi
          go_wp2
          go_roundg (gk - 1)
          case measure => have := HQ.out; have := c_; omega
          case rel => exact ⟨i_ + 1, q1_, q2_, by rw [show wrap64 (i_ + 1) = i_ + 1 from by have := HQ.out; have := c_; unfold wrap64; omega], ⟨by have := HQ.out; have := c_; omega⟩, ⟨by repeat (first | (with_reducible first | exact HI0.out | apply IsS50.alloc | apply IsS50.drewN | apply IsS50.drew | apply IsS50.set_0 | apply IsS50.set_1) | exact HI0.out)⟩, ⟨by repeat (first | (with_reducible first | exact HK.out | apply KeepBut.set_ | apply keep_drewN | apply keep_drew | apply keep_alloc) | exact HK.out)⟩, ⟨by repeat (first | (with_reducible first | exact HB.out | apply below_alloc | apply pw_below_drewN | apply below_drew1 | refine below_set ?_ (IsS50.ge HI0.out)) | exact HB.out)⟩, ⟨by (with_reducible repeat (first | refine blk_far ?_ NB.out _ | refine blk_drewN ?_ _ | refine blk_drew ?_ | refine blk_alloc ?_ _)); exact BK.out⟩⟩
end Go.Proofs.Ytkfbkjcdngipcaa.PTreeEquals
