import Derived.Test.YtkfbkjcdngipcaaTfd
import Derived.Laws.Cells
section
namespace Go.Proofs.Ytkfbkjcdngipcaa.PTreeEquals
open Go.RowKit Go.Proofs.YtkfbkjcdngipcaaW.PrintWords Go.Proofs.YtkfbkjcdngipcaaW.PrintLast Go.Proofs.YtkfbkjcdngipcaaW.PrintMore
set_option linter.unusedVariables false
section
variable {P : Program} {ops : Array Oper} {rest : List Oper} {o : Oper} {a : Act} {Q : Exit → Act → World → Prop}
theorem load_event {W : World} (hgd : o.guard = none) {t : TypeId} {p : Operand} (ho : o.op = .load t p) {ad : Addr} (hp : a.eval p = .pointer (some ad)) {d : TypeDesc} (hu : P.underlying t = some d) (hd : ∃ fs, d = .struct fs) (cs : List Value) (hi0 : (P.info? t).map (fun i => i.size) = some cs.length) (hcs : ∀ j v, cs[j]? = some v → W.cell? (ad.add j) = some v)
    (h : wpList P ops Q rest (a.put o.dst (.agg cs.toArray)) W) : wpList P ops Q (o :: rest) a W := by
  obtain ⟨fs, rfl⟩ := hd
  obtain ⟨i, hi, hs⟩ := Option.map_eq_some_iff.1 hi0
  refine Kd.event_run hgd ?_ h
  have hl := run_loadCells_list (P := P) W ad cs hcs
  simp [execOp, ho, hp, Instr.loadAt, loadVar, isAgg, run_underlying hu, sizeOf, typeInfo, hi, hs, hl, Instr.sureAddr, Result.andThen]
end
theorem size34 : (Try.prog.info? 34).map (fun i => i.size) = some 23 := by kernel_rfl
theorem size54 : (Try.prog.info? 54).map (fun i => i.size) = some 5 := by kernel_rfl
end Go.Proofs.Ytkfbkjcdngipcaa.PTreeEquals
end
section
namespace Go.Proofs.Ytkfbkjcdngipcaa.PTreeEquals
open Go.RowKit Go.Proofs.YtkfbkjcdngipcaaW.PrintWords Go.Proofs.YtkfbkjcdngipcaaW.PrintLast Go.Proofs.YtkfbkjcdngipcaaW.PrintMore
attribute [local go_sem] max2_int min2_int max_two min_two max_three min_three max_four min_four
set_option linter.unusedVariables false
set_option linter.unusedSimpArgs false
mutual
def S34.wt : S34 → Nat
  | ⟨_, _, _, _, _, _, _, l, m⟩ => 1 + S54.wts l + S34.wts m
def S34.wts : List S34 → Nat
  | [] => 0
  | x :: r => x.wt + S34.wts r
end
theorem World_add_add (a : Addr) (m n : Nat) : (a.add m).add n = a.add (m + n) := by
  unfold Addr.add; by_cases hm : m = 0 <;> by_cases hn : n = 0 <;> simp [hm, hn, Nat.add_assoc]
theorem S34.wt_eq (x : S34) : x.wt = 1 + S54.wts x.f7 + S34.wts x.f8 := by cases x; simp [S34.wt]
theorem S34.wt_le {x : S34} : ∀ {l : List S34}, x ∈ l → x.wt ≤ S34.wts l
  | [], h => by simp at h
  | y :: r, h => by
    simp only [S34.wts]
    rcases List.mem_cons.1 h with rfl | h
    · omega
    · have := S34.wt_le h; omega
theorem rd_mem34 {l : List S34} {i : Int} (h0 : 0 ≤ i) (h1 : i < l.length) : rd_T34 l i ∈ l := by
  unfold rd_T34
  rw [List.getD_eq_getElem?_getD, List.getElem?_eq_getElem (show i.toNat < l.length by omega)]
  exact List.getElem_mem _
set_option maxHeartbeats 8000000 in
set_option maxRecDepth 100000 in
theorem Tally_con.calls (N : Nat) : ∀ (a0 : Int) (a1 a2 a3 : ByteArray) (a4 a5 a6 a7 a8 a9 a10 a11 a12 a13 a14 a15 a16 a17 a18 a19 a20 : Int) (l7 : List S54) (l8 : List S34) (hx : S54.wts l7 + S34.wts l8 < N) (g : Nat) (s0 : Int) (s1 : Bool) (A7 : Option Addr) (c7 : Nat) (A8 : Option Addr) (c8 : Nat) (n : Int) (w0 w : World) (hI : IsS50 w0 w g s0 s1) (hB : Below w0.heap.size w0 w) (hr7 : Kd.C k54 w0 A7 l7.length l7) (hr8 : Kd.C k34 w0 A8 l8.length l8),
    Calls Try.prog 17 #[.pointer (some ⟨g, 0, none⟩), .agg #[.int .i64 a0, .string a1, .string a2, .string a3, .int .i64 a4, .int .i64 a5, .int .i64 a6, .int .i64 a7, .int .i64 a8, .int .i64 a9, .int .i64 a10, .int .i64 a11, .int .i64 a12, .int .i64 a13, .int .i64 a14, .int .i64 a15, .int .i64 a16, .int .i64 a17, .int .i64 a18, .int .i64 a19, .int .i64 a20, .slice A7 l7.length c7, .slice A8 l8.length c8], .int .i64 n] w fun e w' => e = .returned (.tuple #[]) ∧ (∃ r1 r2, IsS50 w0 w' g r1 r2) ∧ Below w0.heap.size w0 w' ∧ KeepBut w w' g none := by
  induction N with
  | zero => intros; omega
  | succ N ih =>
  replace ih := Aside0.mk ih
  intro a0 a1 a2 a3 a4 a5 a6 a7 a8 a9 a10 a11 a12 a13 a14 a15 a16 a17 a18 a19 a20 l7 l8 hx g s0 s1 A7 c7 A8 c8 n w0 w hI hB hr7 hr8
  have hu54 := Try.underlying54
  have hu34 := Try.underlying34
  have HR7 := Aside0.mk hr7
  have HR8 := Aside0.mk hr8
  clear hr7 hr8
  have HX := Aside0.mk hx
  have HL7 : (l7.length : Int) ≤ 9223372036854775807 := by have := Kd.C_max HR7.out; omega
  have HL8 : (l8.length : Int) ≤ 9223372036854775807 := by have := Kd.C_max HR8.out; omega
  clear hx
  have HI0 := Aside0.mk hI
  have HK := Aside0.mk (KeepBut.refl w g none)
  clear hI
  have HB := Aside0.mk hB
  clear hB
  go_enter Try.func17, Try.ntmps17
  go_upto_region 1 with (((with_reducible refine gate_dst (N := 4) rfl ?_); (try (refine gate_guard (by rfl) ?_; dsimp only)); refine box_event ?hg (N := 4) ?hd (cs := #[.int .i64 a0, .string a1, .string a2, .string a3, .int .i64 a4, .int .i64 a5, .int .i64 a6, .int .i64 a7, .int .i64 a8, .int .i64 a9, .int .i64 a10, .int .i64 a11, .int .i64 a12, .int .i64 a13, .int .i64 a14, .int .i64 a15, .int .i64 a16, .int .i64 a17, .int .i64 a18, .int .i64 a19, .int .i64 a20, .slice A7 l7.length c7, .slice A8 l8.length c8]) (t := 34) ?hr ?_; (case hd => rfl); (case hg => rfl); (case hr => first | (go_simp; done) | (go_simp; rfl)); intro gb hg w5 hbox hb; have n0_ := Aside0.mk (below_step HB.out hb); have n1_ := Aside0.mk (HI0.out.below hb); have n2_ := Aside0.mk (HK.out.trans (KeepBut.of_below hb g none) (.inl rfl)); have n3_ := Aside0.mk (show gb ≠ g by rw [hg]; exact Nat.ne_of_gt HI0.out.lt); have n4_ := Aside0.mk (show w.heap.size ≤ gb by rw [hg]; exact HK.out.1); clear HB HI0 HK; have HB := n0_; have HI0 := n1_; have HK := n2_; have NB := n3_; have GE := n4_; have BK := Aside0.mk hbox; clear n0_ n1_ n2_ n3_ n4_ hb hbox hg))
  (try simp only [Act.put, List.setIfInBounds_toArray, List.set_cons_zero, List.set_cons_succ])
  go_cut [9] (fun v8 wc => ∃ (b_ : Bool) (x_ : Int) (y_ : Bool), v8 = .bool b_ ∧ Aside0 (IsS50 w0 wc g x_ y_) ∧ Aside0 (KeepBut w wc g none) ∧ Aside0 (Below w0.heap.size w0 wc) ∧ Aside0 (wc.heap[gb]? = some (.cells #[.int .i64 a0, .string a1, .string a2, .string a3, .int .i64 a4, .int .i64 a5, .int .i64 a6, .int .i64 a7, .int .i64 a8, .int .i64 a9, .int .i64 a10, .int .i64 a11, .int .i64 a12, .int .i64 a13, .int .i64 a14, .int .i64 a15, .int .i64 a16, .int .i64 a17, .int .i64 a18, .int .i64 a19, .int .i64 a20, .slice A7 l7.length c7, .slice A8 l8.length c8] 34 (0, 0))))
  case first =>
    go_wp2
    go_meet
    case rel => exact ⟨_, s0, s1, rfl, ⟨by repeat (first | (with_reducible first | exact HI0.out | apply IsS50.alloc | apply IsS50.drewN | apply IsS50.drew | apply IsS50.set_0 | apply IsS50.set_1) | exact HI0.out)⟩, ⟨by repeat (first | (with_reducible first | exact HK.out | apply KeepBut.set_ | apply keep_drewN | apply keep_drew | apply keep_alloc) | exact HK.out)⟩, ⟨by repeat (first | (with_reducible first | exact HB.out | apply below_alloc | apply pw_below_drewN | apply below_drew1 | refine below_set ?_ (IsS50.ge HI0.out)) | exact HB.out)⟩, ⟨by (with_reducible repeat (first | refine blk_far ?_ NB.out _ | refine blk_drewN ?_ _ | refine blk_drew ?_ | refine blk_alloc ?_ _)); exact BK.out⟩⟩
  case rest =>
  rename_i K0 hK0 K1 hK1
  clear HI0 HK HB BK
  obtain ⟨b_, s0, s1, rfl, HI0, HK, HB, BK⟩ := hcut
  apply hK1
  clear hK1 K1
  go_cut [] (fun wc => ∃ (x_ : Int) (y_ : Bool), Aside0 (IsS50 w0 wc g x_ y_) ∧ Aside0 (KeepBut w wc g none) ∧ Aside0 (Below w0.heap.size w0 wc) ∧ Aside0 (wc.heap[gb]? = some (.cells #[.int .i64 a0, .string a1, .string a2, .string a3, .int .i64 a4, .int .i64 a5, .int .i64 a6, .int .i64 a7, .int .i64 a8, .int .i64 a9, .int .i64 a10, .int .i64 a11, .int .i64 a12, .int .i64 a13, .int .i64 a14, .int .i64 a15, .int .i64 a16, .int .i64 a17, .int .i64 a18, .int .i64 a19, .int .i64 a20, .slice A7 l7.length c7, .slice A8 l8.length c8] 34 (0, 0))))
  case first =>
    by_cases c : b_ = true
    · subst c
      obtain ⟨HG1, hg1⟩ := HI0.out
      have hcs1_0 := cellS50_0 HG1
      have hcs1_1 := cellS50_1 HG1
      have hfs1_0 := blk_frozen HG1 0
      have hfs1_1 := blk_frozen HG1 1
      clear HG1 hg1
      go_wp2
      go_meet
      case rel => exact ⟨s0, true, ⟨by repeat (first | (with_reducible first | exact HI0.out | apply IsS50.alloc | apply IsS50.drewN | apply IsS50.drew | apply IsS50.set_0 | apply IsS50.set_1) | exact HI0.out)⟩, ⟨by repeat (first | (with_reducible first | exact HK.out | apply KeepBut.set_ | apply keep_drewN | apply keep_drew | apply keep_alloc) | exact HK.out)⟩, ⟨by repeat (first | (with_reducible first | exact HB.out | apply below_alloc | apply pw_below_drewN | apply below_drew1 | refine below_set ?_ (IsS50.ge HI0.out)) | exact HB.out)⟩, ⟨by (with_reducible repeat (first | refine blk_far ?_ NB.out _ | refine blk_drewN ?_ _ | refine blk_drew ?_ | refine blk_alloc ?_ _)); exact BK.out⟩⟩
    · replace c := Bool.eq_false_iff.mpr c
      subst c
      go_wp2
      go_meet
      case rel => exact ⟨s0, s1, ⟨by repeat (first | (with_reducible first | exact HI0.out | apply IsS50.alloc | apply IsS50.drewN | apply IsS50.drew | apply IsS50.set_0 | apply IsS50.set_1) | exact HI0.out)⟩, ⟨by repeat (first | (with_reducible first | exact HK.out | apply KeepBut.set_ | apply keep_drewN | apply keep_drew | apply keep_alloc) | exact HK.out)⟩, ⟨by repeat (first | (with_reducible first | exact HB.out | apply below_alloc | apply pw_below_drewN | apply below_drew1 | refine below_set ?_ (IsS50.ge HI0.out)) | exact HB.out)⟩, ⟨by (with_reducible repeat (first | refine blk_far ?_ NB.out _ | refine blk_drewN ?_ _ | refine blk_drew ?_ | refine blk_alloc ?_ _)); exact BK.out⟩⟩
  case rest =>
    clear HI0 HK HB BK
    obtain ⟨s0_, s1_, HI0, HK, HB, BK⟩ := hcut
    go_upto_region 4 with (fail)
    refine (take_calls g _ _ 1 w0 _ (by repeat (first | (with_reducible first | exact HI0.out | apply IsS50.alloc | apply IsS50.drewN | apply IsS50.drew | apply IsS50.set_0 | apply IsS50.set_1) | exact HI0.out)) (by repeat (first | (with_reducible first | exact HB.out | apply below_alloc | apply pw_below_drewN | apply below_drew1 | refine below_set ?_ (IsS50.ge HI0.out)) | exact HB.out))).mono ?_
    rintro e w6 ⟨rfl, ⟨q1_, q2_, hi⟩, hb, hk⟩
    try dsimp only
    have n0_ := Aside0.mk (KeepBut.trans (by repeat (first | (with_reducible first | exact HK.out | apply KeepBut.set_ | apply keep_drewN | apply keep_drew | apply keep_alloc) | exact HK.out)) hk (.inl rfl)); have n1_ := Aside0.mk hb; have n2_ := Aside0.mk hi; have n3_ := Aside0.mk (hk.blk (by (with_reducible repeat (first | refine blk_far ?_ NB.out _ | refine blk_drewN ?_ _ | refine blk_drew ?_ | refine blk_alloc ?_ _)); exact BK.out) NB.out (by simp)); clear HK HB HI0 BK; have HK := n0_; have HB := n1_; have HI0 := n2_; have BK := n3_; clear n0_ n1_ n2_ n3_ hb hk hi
    have hczx_1 : w6.cell? ⟨gb, 1, none⟩ = some (.string a1) := (blk_cell BK.out 1).trans rfl
    have hfzx_1 := blk_frozen BK.out 1
    go_upto_region 5 with (fail)
    refine (take_calls g _ _ (a1.size : Int) w0 _ (by repeat (first | (with_reducible first | exact HI0.out | apply IsS50.alloc | apply IsS50.drewN | apply IsS50.drew | apply IsS50.set_0 | apply IsS50.set_1) | exact HI0.out)) (by repeat (first | (with_reducible first | exact HB.out | apply below_alloc | apply pw_below_drewN | apply below_drew1 | refine below_set ?_ (IsS50.ge HI0.out)) | exact HB.out))).mono ?_
    rintro e w7 ⟨rfl, ⟨q1_, q2_, hi⟩, hb, hk⟩
    try dsimp only
    have n0_ := Aside0.mk (KeepBut.trans (by repeat (first | (with_reducible first | exact HK.out | apply KeepBut.set_ | apply keep_drewN | apply keep_drew | apply keep_alloc) | exact HK.out)) hk (.inl rfl)); have n1_ := Aside0.mk hb; have n2_ := Aside0.mk hi; have n3_ := Aside0.mk (hk.blk (by (with_reducible repeat (first | refine blk_far ?_ NB.out _ | refine blk_drewN ?_ _ | refine blk_drew ?_ | refine blk_alloc ?_ _)); exact BK.out) NB.out (by simp)); clear HK HB HI0 BK; have HK := n0_; have HB := n1_; have HI0 := n2_; have BK := n3_; clear n0_ n1_ n2_ n3_ hb hk hi
    clear hczx_1 hfzx_1
    have hczy_2 : w7.cell? ⟨gb, 2, none⟩ = some (.string a2) := (blk_cell BK.out 2).trans rfl
    have hfzy_2 := blk_frozen BK.out 2
    go_upto_region 6 with (fail)
    refine (take_calls g _ _ (a2.size : Int) w0 _ (by repeat (first | (with_reducible first | exact HI0.out | apply IsS50.alloc | apply IsS50.drewN | apply IsS50.drew | apply IsS50.set_0 | apply IsS50.set_1) | exact HI0.out)) (by repeat (first | (with_reducible first | exact HB.out | apply below_alloc | apply pw_below_drewN | apply below_drew1 | refine below_set ?_ (IsS50.ge HI0.out)) | exact HB.out))).mono ?_
    rintro e w8 ⟨rfl, ⟨q1_, q2_, hi⟩, hb, hk⟩
    try dsimp only
    have n0_ := Aside0.mk (KeepBut.trans (by repeat (first | (with_reducible first | exact HK.out | apply KeepBut.set_ | apply keep_drewN | apply keep_drew | apply keep_alloc) | exact HK.out)) hk (.inl rfl)); have n1_ := Aside0.mk hb; have n2_ := Aside0.mk hi; have n3_ := Aside0.mk (hk.blk (by (with_reducible repeat (first | refine blk_far ?_ NB.out _ | refine blk_drewN ?_ _ | refine blk_drew ?_ | refine blk_alloc ?_ _)); exact BK.out) NB.out (by simp)); clear HK HB HI0 BK; have HK := n0_; have HB := n1_; have HI0 := n2_; have BK := n3_; clear n0_ n1_ n2_ n3_ hb hk hi
    clear hczy_2 hfzy_2
    have hczz_3 : w8.cell? ⟨gb, 3, none⟩ = some (.string a3) := (blk_cell BK.out 3).trans rfl
    have hfzz_3 := blk_frozen BK.out 3
    go_upto_region 7 with (fail)
    refine (take_calls g _ _ (a3.size : Int) w0 _ (by repeat (first | (with_reducible first | exact HI0.out | apply IsS50.alloc | apply IsS50.drewN | apply IsS50.drew | apply IsS50.set_0 | apply IsS50.set_1) | exact HI0.out)) (by repeat (first | (with_reducible first | exact HB.out | apply below_alloc | apply pw_below_drewN | apply below_drew1 | refine below_set ?_ (IsS50.ge HI0.out)) | exact HB.out))).mono ?_
    rintro e w9 ⟨rfl, ⟨q1_, q2_, hi⟩, hb, hk⟩
    try dsimp only
    have n0_ := Aside0.mk (KeepBut.trans (by repeat (first | (with_reducible first | exact HK.out | apply KeepBut.set_ | apply keep_drewN | apply keep_drew | apply keep_alloc) | exact HK.out)) hk (.inl rfl)); have n1_ := Aside0.mk hb; have n2_ := Aside0.mk hi; have n3_ := Aside0.mk (hk.blk (by (with_reducible repeat (first | refine blk_far ?_ NB.out _ | refine blk_drewN ?_ _ | refine blk_drew ?_ | refine blk_alloc ?_ _)); exact BK.out) NB.out (by simp)); clear HK HB HI0 BK; have HK := n0_; have HB := n1_; have HI0 := n2_; have BK := n3_; clear n0_ n1_ n2_ n3_ hb hk hi
    clear hczz_3 hfzz_3
    go_wp2
    go_loopg [6] l7.length (fun kq v6 w' => ∃ (i_ : Int) (x_ : Int) (y_ : Bool), v6 = .int .i64 i_ ∧ Aside0 (0 ≤ i_ ∧ i_ + (kq : Int) = (l7.length : Int)) ∧ Aside0 (IsS50 w0 w' g x_ y_) ∧ Aside0 (KeepBut w w' g none) ∧ Aside0 (Below w0.heap.size w0 w') ∧ Aside0 (w'.heap[gb]? = some (.cells #[.int .i64 a0, .string a1, .string a2, .string a3, .int .i64 a4, .int .i64 a5, .int .i64 a6, .int .i64 a7, .int .i64 a8, .int .i64 a9, .int .i64 a10, .int .i64 a11, .int .i64 a12, .int .i64 a13, .int .i64 a14, .int .i64 a15, .int .i64 a16, .int .i64 a17, .int .i64 a18, .int .i64 a19, .int .i64 a20, .slice A7 l7.length c7, .slice A8 l8.length c8] 34 (0, 0))))
    case atStart => exact ⟨0, _, _, rfl, ⟨by omega, by omega⟩, ⟨by repeat (first | (with_reducible first | exact HI0.out | apply IsS50.alloc | apply IsS50.drewN | apply IsS50.drew | apply IsS50.set_0 | apply IsS50.set_1) | exact HI0.out)⟩, ⟨by repeat (first | (with_reducible first | exact HK.out | apply KeepBut.set_ | apply keep_drewN | apply keep_drew | apply keep_alloc) | exact HK.out)⟩, ⟨by repeat (first | (with_reducible first | exact HB.out | apply below_alloc | apply pw_below_drewN | apply below_drew1 | refine below_set ?_ (IsS50.ge HI0.out)) | exact HB.out)⟩, ⟨by (with_reducible repeat (first | refine blk_far ?_ NB.out _ | refine blk_drewN ?_ _ | refine blk_drew ?_ | refine blk_alloc ?_ _)); exact BK.out⟩⟩
    case round =>
      obtain ⟨i_, s2_, s3_, rfl, HQ, HI0, HK, HB, BK⟩ := hrel
      go_upto_region 8 with (fail)
      go_cut [41] (fun v35 wc => ∃ (b_ : Bool) (x_ : Int) (y_ : Bool), v35 = .bool b_ ∧ Aside0 (b_ = true → i_ < (l7.length : Int)) ∧ Aside0 (IsS50 w0 wc g x_ y_) ∧ Aside0 (KeepBut w wc g none) ∧ Aside0 (Below w0.heap.size w0 wc) ∧ Aside0 (wc.heap[gb]? = some (.cells #[.int .i64 a0, .string a1, .string a2, .string a3, .int .i64 a4, .int .i64 a5, .int .i64 a6, .int .i64 a7, .int .i64 a8, .int .i64 a9, .int .i64 a10, .int .i64 a11, .int .i64 a12, .int .i64 a13, .int .i64 a14, .int .i64 a15, .int .i64 a16, .int .i64 a17, .int .i64 a18, .int .i64 a19, .int .i64 a20, .slice A7 l7.length c7, .slice A8 l8.length c8] 34 (0, 0))))
      case first =>
        by_cases c : i_ < (l7.length : Int)
        · have cb : decide (i_ < (l7.length : Int)) = true := decide_eq_true c
          obtain ⟨HG2, hg2⟩ := HI0.out
          have hcs2_0 := cellS50_0 HG2
          have hcs2_1 := cellS50_1 HG2
          have hfs2_0 := blk_frozen HG2 0
          have hfs2_1 := blk_frozen HG2 1
          clear HG2 hg2
          have hczd_21 : wr.cell? ⟨gb, 21, none⟩ = some (.slice A7 l7.length c7) := (blk_cell BK.out 21).trans rfl
          have hfzd_21 := blk_frozen BK.out 21
          go_wp2
          go_meet
          case rel => exact ⟨!s3_, s2_, s3_, rfl, ⟨fun _ => c⟩, ⟨by repeat (first | (with_reducible first | exact HI0.out | apply IsS50.alloc | apply IsS50.drewN | apply IsS50.drew | apply IsS50.set_0 | apply IsS50.set_1) | exact HI0.out)⟩, ⟨by repeat (first | (with_reducible first | exact HK.out | apply KeepBut.set_ | apply keep_drewN | apply keep_drew | apply keep_alloc) | exact HK.out)⟩, ⟨by repeat (first | (with_reducible first | exact HB.out | apply below_alloc | apply pw_below_drewN | apply below_drew1 | refine below_set ?_ (IsS50.ge HI0.out)) | exact HB.out)⟩, ⟨by (with_reducible repeat (first | refine blk_far ?_ NB.out _ | refine blk_drewN ?_ _ | refine blk_drew ?_ | refine blk_alloc ?_ _)); exact BK.out⟩⟩
        · have cb : decide (i_ < (l7.length : Int)) = false := decide_eq_false c
          have hczd_21 : wr.cell? ⟨gb, 21, none⟩ = some (.slice A7 l7.length c7) := (blk_cell BK.out 21).trans rfl
          have hfzd_21 := blk_frozen BK.out 21
          go_wp2
          go_meet
          case rel => exact ⟨false, s2_, s3_, rfl, ⟨fun h => by cases h⟩, ⟨by repeat (first | (with_reducible first | exact HI0.out | apply IsS50.alloc | apply IsS50.drewN | apply IsS50.drew | apply IsS50.set_0 | apply IsS50.set_1) | exact HI0.out)⟩, ⟨by repeat (first | (with_reducible first | exact HK.out | apply KeepBut.set_ | apply keep_drewN | apply keep_drew | apply keep_alloc) | exact HK.out)⟩, ⟨by repeat (first | (with_reducible first | exact HB.out | apply below_alloc | apply pw_below_drewN | apply below_drew1 | refine below_set ?_ (IsS50.ge HI0.out)) | exact HB.out)⟩, ⟨by (with_reducible repeat (first | refine blk_far ?_ NB.out _ | refine blk_drewN ?_ _ | refine blk_drew ?_ | refine blk_alloc ?_ _)); exact BK.out⟩⟩
      case rest =>
        clear HI0 HK HB BK
        obtain ⟨b_, s4_, s5_, rfl, HC, HI0, HK, HB, BK⟩ := hcut
        cases b_ with
        | false =>
          go_wp2
          go_loopg [7] l8.length (fun kq v6 w' => ∃ (i_ : Int) (x_ : Int) (y_ : Bool), v6 = .int .i64 i_ ∧ Aside0 (0 ≤ i_ ∧ i_ + (kq : Int) = (l8.length : Int)) ∧ Aside0 (IsS50 w0 w' g x_ y_) ∧ Aside0 (KeepBut w w' g none) ∧ Aside0 (Below w0.heap.size w0 w') ∧ Aside0 (w'.heap[gb]? = some (.cells #[.int .i64 a0, .string a1, .string a2, .string a3, .int .i64 a4, .int .i64 a5, .int .i64 a6, .int .i64 a7, .int .i64 a8, .int .i64 a9, .int .i64 a10, .int .i64 a11, .int .i64 a12, .int .i64 a13, .int .i64 a14, .int .i64 a15, .int .i64 a16, .int .i64 a17, .int .i64 a18, .int .i64 a19, .int .i64 a20, .slice A7 l7.length c7, .slice A8 l8.length c8] 34 (0, 0))))
          case atStart => exact ⟨0, _, _, rfl, ⟨by omega, by omega⟩, ⟨by repeat (first | (with_reducible first | exact HI0.out | apply IsS50.alloc | apply IsS50.drewN | apply IsS50.drew | apply IsS50.set_0 | apply IsS50.set_1) | exact HI0.out)⟩, ⟨by repeat (first | (with_reducible first | exact HK.out | apply KeepBut.set_ | apply keep_drewN | apply keep_drew | apply keep_alloc) | exact HK.out)⟩, ⟨by repeat (first | (with_reducible first | exact HB.out | apply below_alloc | apply pw_below_drewN | apply below_drew1 | refine below_set ?_ (IsS50.ge HI0.out)) | exact HB.out)⟩, ⟨by (with_reducible repeat (first | refine blk_far ?_ NB.out _ | refine blk_drewN ?_ _ | refine blk_drew ?_ | refine blk_alloc ?_ _)); exact BK.out⟩⟩
          case round =>
            obtain ⟨i_, s2_, s3_, rfl, HQ, HI0, HK, HB, BK⟩ := hrel
            go_upto_region 12 with (fail)
            go_cut [64] (fun v35 wc => ∃ (b_ : Bool) (x_ : Int) (y_ : Bool), v35 = .bool b_ ∧ Aside0 (b_ = true → i_ < (l8.length : Int)) ∧ Aside0 (IsS50 w0 wc g x_ y_) ∧ Aside0 (KeepBut w wc g none) ∧ Aside0 (Below w0.heap.size w0 wc) ∧ Aside0 (wc.heap[gb]? = some (.cells #[.int .i64 a0, .string a1, .string a2, .string a3, .int .i64 a4, .int .i64 a5, .int .i64 a6, .int .i64 a7, .int .i64 a8, .int .i64 a9, .int .i64 a10, .int .i64 a11, .int .i64 a12, .int .i64 a13, .int .i64 a14, .int .i64 a15, .int .i64 a16, .int .i64 a17, .int .i64 a18, .int .i64 a19, .int .i64 a20, .slice A7 l7.length c7, .slice A8 l8.length c8] 34 (0, 0))))
            case first =>
              by_cases c : i_ < (l8.length : Int)
              · have cb : decide (i_ < (l8.length : Int)) = true := decide_eq_true c
                obtain ⟨HG2, hg2⟩ := HI0.out
                have hcs2_0 := cellS50_0 HG2
                have hcs2_1 := cellS50_1 HG2
                have hfs2_0 := blk_frozen HG2 0
                have hfs2_1 := blk_frozen HG2 1
                clear HG2 hg2
                have hczd_22 : wr.cell? ⟨gb, 22, none⟩ = some (.slice A8 l8.length c8) := (blk_cell BK.out 22).trans rfl
                have hfzd_22 := blk_frozen BK.out 22
                go_wp2
                go_meet
                case rel => exact ⟨!s3_, s2_, s3_, rfl, ⟨fun _ => c⟩, ⟨by repeat (first | (with_reducible first | exact HI0.out | apply IsS50.alloc | apply IsS50.drewN | apply IsS50.drew | apply IsS50.set_0 | apply IsS50.set_1) | exact HI0.out)⟩, ⟨by repeat (first | (with_reducible first | exact HK.out | apply KeepBut.set_ | apply keep_drewN | apply keep_drew | apply keep_alloc) | exact HK.out)⟩, ⟨by repeat (first | (with_reducible first | exact HB.out | apply below_alloc | apply pw_below_drewN | apply below_drew1 | refine below_set ?_ (IsS50.ge HI0.out)) | exact HB.out)⟩, ⟨by (with_reducible repeat (first | refine blk_far ?_ NB.out _ | refine blk_drewN ?_ _ | refine blk_drew ?_ | refine blk_alloc ?_ _)); exact BK.out⟩⟩
              · have cb : decide (i_ < (l8.length : Int)) = false := decide_eq_false c
                have hczd_22 : wr.cell? ⟨gb, 22, none⟩ = some (.slice A8 l8.length c8) := (blk_cell BK.out 22).trans rfl
                have hfzd_22 := blk_frozen BK.out 22
                go_wp2
                go_meet
                case rel => exact ⟨false, s2_, s3_, rfl, ⟨fun h => by cases h⟩, ⟨by repeat (first | (with_reducible first | exact HI0.out | apply IsS50.alloc | apply IsS50.drewN | apply IsS50.drew | apply IsS50.set_0 | apply IsS50.set_1) | exact HI0.out)⟩, ⟨by repeat (first | (with_reducible first | exact HK.out | apply KeepBut.set_ | apply keep_drewN | apply keep_drew | apply keep_alloc) | exact HK.out)⟩, ⟨by repeat (first | (with_reducible first | exact HB.out | apply below_alloc | apply pw_below_drewN | apply below_drew1 | refine below_set ?_ (IsS50.ge HI0.out)) | exact HB.out)⟩, ⟨by (with_reducible repeat (first | refine blk_far ?_ NB.out _ | refine blk_drewN ?_ _ | refine blk_drew ?_ | refine blk_alloc ?_ _)); exact BK.out⟩⟩
            case rest =>
              clear HI0 HK HB BK
              obtain ⟨b_, s4_, s5_, rfl, HC, HI0, HK, HB, BK⟩ := hcut
              cases b_ with
              | false =>
                go_wp2
                first | go_end0 | ((try simp only [Exit.inBlock, Exit.then]); refine bodyPost_ret (results_none rfl _ _ _) rfl ?_)
                exact ⟨rfl, ⟨s4_, s5_, by repeat (first | (with_reducible first | exact HI0.out | apply IsS50.alloc | apply IsS50.drewN | apply IsS50.drew | apply IsS50.set_0 | apply IsS50.set_1) | exact HI0.out)⟩, by repeat (first | (with_reducible first | exact HB.out | apply below_alloc | apply pw_below_drewN | apply below_drew1 | refine below_set ?_ (IsS50.ge HI0.out)) | exact HB.out), by repeat (first | (with_reducible first | exact HK.out | apply KeepBut.set_ | apply keep_drewN | apply keep_drew | apply keep_alloc) | exact HK.out)⟩
              | true =>
                have c_ := HC.out rfl
                have p_ : 0 ≤ i_ := HQ.out.1
                have q_ : i_ < (l8.length : Int) := c_
                obtain ⟨ad, cv_, e_, _, hK_, hc0_⟩ := Kd.C_get HR8.out z34 i_ p_ q_
                cases e_
                obtain ⟨B7, d7, B8, d8, rfl, hl7, hi7, hl8, hi8⟩ := k34_open hK_
                have HCS := Aside0.mk (show ∀ j v, (([.int .i64 (rd_T34 l8 i_).f0, .string (rd_T34 l8 i_).f1, .string (rd_T34 l8 i_).f2, .string (rd_T34 l8 i_).f3, .int .i64 (rd_T34 l8 i_).f4, .int .i64 (rd_T34 l8 i_).f5.f0, .int .i64 (rd_T34 l8 i_).f5.f1, .int .i64 (rd_T34 l8 i_).f5.f2, .int .i64 (rd_T34 l8 i_).f6.f0, .int .i64 (rd_T34 l8 i_).f6.f1, .int .i64 (rd_T34 l8 i_).f6.f2, .int .i64 (rd_T34 l8 i_).f6.f3, .int .i64 (rd_T34 l8 i_).f6.f4.f0, .int .i64 (rd_T34 l8 i_).f6.f4.f1, .int .i64 (rd_T34 l8 i_).f6.f4.f2, .int .i64 (rd_T34 l8 i_).f6.f5.f0, .int .i64 (rd_T34 l8 i_).f6.f5.f1, .int .i64 (rd_T34 l8 i_).f6.f5.f2, .int .i64 (rd_T34 l8 i_).f6.f6.f0, .int .i64 (rd_T34 l8 i_).f6.f6.f1, .int .i64 (rd_T34 l8 i_).f6.f7, .slice B7 (rd_T34 l8 i_).f7.length d7, .slice B8 (rd_T34 l8 i_).f8.length d8] : List Value))[j]? = some v → wc.cell? ((ad.add (i_.toNat * 23)).add j) = some v from fun j v hj => by have h1 := hc0_ j v hj; have h2 := (HB.out.cell (World.block_lt_of_cell? w0 _ h1)).trans h1; rw [World_add_add]; exact h2)
                have HR5 := Aside0.mk hi7
                have HR6 := Aside0.mk hi8
                clear hl7 hi7 hl8 hi8 hK_ hc0_
                have HM := Aside0.mk (rd_mem34 p_ q_)
                replace p_ := eq_true p_
                replace q_ := eq_true q_
                have hcze_22 : wc.cell? ⟨gb, 22, none⟩ = some (.slice (some ad) l8.length c8) := (blk_cell BK.out 22).trans rfl
                have hfze_22 := blk_frozen BK.out 22
                go_upto_region 13 with ((with_reducible refine gate_dst (N := 72) rfl ?_); (try (refine gate_guard (by rfl) ?_; dsimp only)); refine load_event (t := 34) (p := .tmp 71) (ad := ad.add (i_.toNat * 23)) ?hg ?ho ?hp hu34 ⟨_, rfl⟩ ([.int .i64 (rd_T34 l8 i_).f0, .string (rd_T34 l8 i_).f1, .string (rd_T34 l8 i_).f2, .string (rd_T34 l8 i_).f3, .int .i64 (rd_T34 l8 i_).f4, .int .i64 (rd_T34 l8 i_).f5.f0, .int .i64 (rd_T34 l8 i_).f5.f1, .int .i64 (rd_T34 l8 i_).f5.f2, .int .i64 (rd_T34 l8 i_).f6.f0, .int .i64 (rd_T34 l8 i_).f6.f1, .int .i64 (rd_T34 l8 i_).f6.f2, .int .i64 (rd_T34 l8 i_).f6.f3, .int .i64 (rd_T34 l8 i_).f6.f4.f0, .int .i64 (rd_T34 l8 i_).f6.f4.f1, .int .i64 (rd_T34 l8 i_).f6.f4.f2, .int .i64 (rd_T34 l8 i_).f6.f5.f0, .int .i64 (rd_T34 l8 i_).f6.f5.f1, .int .i64 (rd_T34 l8 i_).f6.f5.f2, .int .i64 (rd_T34 l8 i_).f6.f6.f0, .int .i64 (rd_T34 l8 i_).f6.f6.f1, .int .i64 (rd_T34 l8 i_).f6.f7, .slice B7 (rd_T34 l8 i_).f7.length d7, .slice B8 (rd_T34 l8 i_).f8.length d8]) ?hs HCS.out ?_; (case ho => rfl); (case hs => exact size34); (case hg => rfl); (case hp => first | (go_simp; done) | (go_simp; rfl)))
                refine (ih.out _ _ _ _ _ _ _ _ _ _ _ _ _ _ _ _ _ _ _ _ _ (rd_T34 l8 i_).f7 (rd_T34 l8 i_).f8 (by have := S34.wt_le HM.out; have := S34.wt_eq (rd_T34 l8 i_); have := HX.out; omega) g _ _ B7 d7 B8 d8 _ w0 _ (by repeat (first | (with_reducible first | exact HI0.out | apply IsS50.alloc | apply IsS50.drewN | apply IsS50.drew | apply IsS50.set_0 | apply IsS50.set_1) | exact HI0.out)) (by repeat (first | (with_reducible first | exact HB.out | apply below_alloc | apply pw_below_drewN | apply below_drew1 | refine below_set ?_ (IsS50.ge HI0.out)) | exact HB.out)) HR5.out HR6.out).mono ?_
                rintro e w9 ⟨rfl, ⟨q1_, q2_, hi⟩, hb, hk⟩
                try dsimp only
                have n0_ := Aside0.mk (KeepBut.trans (by repeat (first | (with_reducible first | exact HK.out | apply KeepBut.set_ | apply keep_drewN | apply keep_drew | apply keep_alloc) | exact HK.out)) hk (.inl rfl)); have n1_ := Aside0.mk hb; have n2_ := Aside0.mk hi; have n3_ := Aside0.mk (hk.blk (by (with_reducible repeat (first | refine blk_far ?_ NB.out _ | refine blk_drewN ?_ _ | refine blk_drew ?_ | refine blk_alloc ?_ _)); exact BK.out) NB.out (by simp)); clear HK HB HI0 BK; have HK := n0_; have HB := n1_; have HI0 := n2_; have BK := n3_; clear n0_ n1_ n2_ n3_ hb hk hi
                go_wp2
                go_roundg (gk - 1)
                case measure => have := HQ.out; have := c_; omega
                case rel => exact ⟨i_ + 1, q1_, q2_, by rw [show wrap64 (i_ + 1) = i_ + 1 from by have := HQ.out; have := c_; unfold wrap64; omega], ⟨by have := HQ.out; have := c_; omega⟩, ⟨by repeat (first | (with_reducible first | exact HI0.out | apply IsS50.alloc | apply IsS50.drewN | apply IsS50.drew | apply IsS50.set_0 | apply IsS50.set_1) | exact HI0.out)⟩, ⟨by repeat (first | (with_reducible first | exact HK.out | apply KeepBut.set_ | apply keep_drewN | apply keep_drew | apply keep_alloc) | exact HK.out)⟩, ⟨by repeat (first | (with_reducible first | exact HB.out | apply below_alloc | apply pw_below_drewN | apply below_drew1 | refine below_set ?_ (IsS50.ge HI0.out)) | exact HB.out)⟩, ⟨by (with_reducible repeat (first | refine blk_far ?_ NB.out _ | refine blk_drewN ?_ _ | refine blk_drew ?_ | refine blk_alloc ?_ _)); exact BK.out⟩⟩
        | true =>
          have c_ := HC.out rfl
          have p_ : 0 ≤ i_ := HQ.out.1
          have q_ : i_ < (l7.length : Int) := c_
          obtain ⟨ad, B3, d3, B4, d4, e_, hx0, hx1, hx2, hx3, hx4, hl3, hi3, hl4, hi4⟩ := at_T54 HR7.out i_ p_ q_
          cases e_
          replace hx0 := (HB.out.cell (World.block_lt_of_cell? w0 _ hx0)).trans hx0
          replace hx1 := (HB.out.cell (World.block_lt_of_cell? w0 _ hx1)).trans hx1
          replace hx2 := (HB.out.cell (World.block_lt_of_cell? w0 _ hx2)).trans hx2
          replace hx3 := (HB.out.cell (World.block_lt_of_cell? w0 _ hx3)).trans hx3
          replace hx4 := (HB.out.cell (World.block_lt_of_cell? w0 _ hx4)).trans hx4
          have HR5 := Aside0.mk hi4
          clear hi3 hl3 hl4 hi4
          have HM := Aside0.mk (rd_mem54 p_ q_)
          replace p_ := eq_true p_
          replace q_ := eq_true q_
          have hcze_21 : wc.cell? ⟨gb, 21, none⟩ = some (.slice (some ad) l7.length c7) := (blk_cell BK.out 21).trans rfl
          have hfze_21 := blk_frozen BK.out 21
          go_upto_region 9 with (fail)
          refine (Tally_expr.calls (S54.wts (rd_T54 l7 i_).f4 + 1) _ _ _ _ (rd_T54 l7 i_).f4 (Nat.lt_succ_self _) g _ _ B3 d3 B4 d4 _ w0 _ (by repeat (first | (with_reducible first | exact HI0.out | apply IsS50.alloc | apply IsS50.drewN | apply IsS50.drew | apply IsS50.set_0 | apply IsS50.set_1) | exact HI0.out)) (by repeat (first | (with_reducible first | exact HB.out | apply below_alloc | apply pw_below_drewN | apply below_drew1 | refine below_set ?_ (IsS50.ge HI0.out)) | exact HB.out)) HR5.out).mono ?_
          rintro e w9 ⟨rfl, ⟨q1_, q2_, hi⟩, hb, hk⟩
          try dsimp only
          have n0_ := Aside0.mk (KeepBut.trans (by repeat (first | (with_reducible first | exact HK.out | apply KeepBut.set_ | apply keep_drewN | apply keep_drew | apply keep_alloc) | exact HK.out)) hk (.inl rfl)); have n1_ := Aside0.mk hb; have n2_ := Aside0.mk hi; have n3_ := Aside0.mk (hk.blk (by (with_reducible repeat (first | refine blk_far ?_ NB.out _ | refine blk_drewN ?_ _ | refine blk_drew ?_ | refine blk_alloc ?_ _)); exact BK.out) NB.out (by simp)); clear HK HB HI0 BK; have HK := n0_; have HB := n1_; have HI0 := n2_; have BK := n3_; clear n0_ n1_ n2_ n3_ hb hk hi
          go_wp2
          go_roundg (gk - 1)
          case measure => have := HQ.out; have := c_; omega
          case rel => exact ⟨i_ + 1, q1_, q2_, by rw [show wrap64 (i_ + 1) = i_ + 1 from by have := HQ.out; have := c_; unfold wrap64; omega], ⟨by have := HQ.out; have := c_; omega⟩, ⟨by repeat (first | (with_reducible first | exact HI0.out | apply IsS50.alloc | apply IsS50.drewN | apply IsS50.drew | apply IsS50.set_0 | apply IsS50.set_1) | exact HI0.out)⟩, ⟨by repeat (first | (with_reducible first | exact HK.out | apply KeepBut.set_ | apply keep_drewN | apply keep_drew | apply keep_alloc) | exact HK.out)⟩, ⟨by repeat (first | (with_reducible first | exact HB.out | apply below_alloc | apply pw_below_drewN | apply below_drew1 | refine below_set ?_ (IsS50.ge HI0.out)) | exact HB.out)⟩, ⟨by (with_reducible repeat (first | refine blk_far ?_ NB.out _ | refine blk_drewN ?_ _ | refine blk_drew ?_ | refine blk_alloc ?_ _)); exact BK.out⟩⟩
end Go.Proofs.Ytkfbkjcdngipcaa.PTreeEquals
end
section
namespace Go.Proofs.Ytkfbkjcdngipcaa.PTreeEquals
open Go.RowKit Go.Proofs.YtkfbkjcdngipcaaW.PrintWords Go.Proofs.YtkfbkjcdngipcaaW.PrintLast Go.Proofs.YtkfbkjcdngipcaaW.PrintMore
set_option linter.unusedVariables false
theorem texts_any (l : List ByteArray) (hl : l.length ≤ 9223372036854775807) : ∀ (m : Nat) (i s0 : Int) (s1 : Bool), 0 ≤ i → i + (m : Int) = (l.length : Int) → ∃ r1 r2, payoffref07_Tally_texts.l0 (2 * m + 2) l i s0 s1 = some (r1, r2) := by
  intro m
  induction m with
  | zero =>
    intro i s0 s1 h0 h
    have hn : ¬ i < (l.length : Int) := by omega
    exact ⟨s0, s1, by simp [payoffref07_Tally_texts.l0, payoffref07_Tally_texts.j1, hn]⟩
  | succ m ih =>
    intro i s0 s1 h0 h
    have hi : i < (l.length : Int) := by omega
    have hw : wrap64 (i + 1) = i + 1 := by unfold wrap64; omega
    show ∃ r1 r2, payoffref07_Tally_texts.l0 (2 * m + 2 + 1 + 1) l i s0 s1 = some (r1, r2)
    cases s1 with
    | true => exact ⟨s0, true, by simp only [payoffref07_Tally_texts.l0, payoffref07_Tally_texts.j1, hi]; simp⟩
    | false =>
      obtain ⟨a1, a2, ha⟩ := take_any s0 false 1
      obtain ⟨b1, b2, hb⟩ := take_any a1 a2 ((rdOf ByteArray.empty l i).size : Int)
      obtain ⟨r1, r2, hr⟩ := ih (i + 1) b1 b2 (by omega) (by omega)
      refine ⟨r1, r2, ?_⟩
      rw [payoffref07_Tally_texts.l0, if_pos hi, payoffref07_Tally_texts.j1, if_pos (by rfl), ha]
      simp only [Option.bind_some]
      rw [if_pos h0, if_pos hi, hb]
      simp only [Option.bind_some]
      rw [hw]
      exact hr
theorem texts_calls (g : Nat) (s0 : Int) (s1 : Bool) (A : Option Addr) (c : Nat) (l : List ByteArray) (w0 w : World) (hI : IsS50 w0 w g s0 s1) (hB : Below w0.heap.size w0 w) (hr : Kd.C Kd.string w0 A l.length l) (hc : l.length ≤ c) (hl : l.length ≤ 9223372036854775807) :
    Calls Try.prog 15 #[.pointer (some ⟨g, 0, none⟩), .slice A l.length c] w fun e w' => e = .returned (.tuple #[]) ∧ (∃ r1 r2, IsS50 w0 w' g r1 r2) ∧ Below w0.heap.size w0 w' ∧ KeepBut w w' g none := by
  obtain ⟨r1, r2, h⟩ := texts_any l hl l.length 0 s0 s1 (by omega) (by omega)
  refine (payoffref07_Tally_texts.calls (2 * l.length + 2) g s0 s1 A c l r1 r2 w0 w hI hB (Kd.C_below hr hB) hc ?_ h).mono ?_
  · rintro ad rfl hn
    have := Kd.C_lt hr hn (by decide)
    have := hI.ge
    omega
  · rintro e w' ⟨h1, h2, h3, h4⟩
    exact ⟨h1, ⟨r1, r2, h2⟩, h3, h4⟩
end Go.Proofs.Ytkfbkjcdngipcaa.PTreeEquals
end
section
namespace Go.Proofs.YtkfbkjcdngipcaaW.PrintWords
open Go.RowKit
namespace Kd
theorem R_readsB {α : Type} {d : Kd α} {e : Nat} {w : World} {base : Nat} {ok : Nat → Prop} {A : Option Addr} {n c : Nat} {xs : List α} (h : d.R e w base ok (.slice A n c) xs) : n = xs.length ∧ xs.length ≤ c ∧ d.C w A xs.length xs := by
  obtain ⟨A', c', he, hl, hr⟩ := R_reads h
  injection he with e1 e2 e3
  subst e1 e2 e3
  exact ⟨rfl, hl, hr⟩
def sliceB {α : Type} (e : Nat) (d : Kd α) (z : α) : Kd (List α) where
  sz := 1
  E := e :: d.E
  K := fun w xs cs => (∃ c, cs = [.slice none 0 c] ∧ xs = []) ∨ ∃ A c, cs = [.slice A xs.length c] ∧ xs.length + 1 ≤ c ∧ d.C w A (xs.length + 1) (xs ++ [z])
  M := fun w base ok xs cs => (cs = [.slice none 0 0] ∧ xs = []) ∨ ∃ A c, cs = [.slice A xs.length c] ∧ d.R e w base ok (.slice A (xs.length + 1) c) (xs ++ [z])
  K_len := by
    rintro w x cs (⟨c, rfl, _⟩ | ⟨A, c, rfl, _⟩) <;> rfl
  K_one := by
    rintro w x cs (⟨c, rfl, _⟩ | ⟨A, c, rfl, _⟩) u hu <;> rw [List.mem_singleton.1 hu] <;> rfl
  K_below := by
    rintro w w1 x cs hb (⟨c, rfl, h⟩ | ⟨A, c, rfl, hl, hr⟩)
    · exact .inl ⟨c, rfl, h⟩
    · exact .inr ⟨A, c, rfl, hl, C_below hr hb⟩
  K_of_M := by
    rintro w base ok x cs (⟨rfl, h⟩ | ⟨A, c, rfl, h⟩)
    · exact .inl ⟨0, rfl, h⟩
    · obtain ⟨_, hl, hr⟩ := R_readsB h
      simp only [List.length_append, List.length_singleton] at hl hr
      exact .inr ⟨A, c, rfl, hl, hr⟩
  M_mono := by
    rintro w base ok ok' x cs hok (⟨rfl, h⟩ | ⟨A, c, rfl, h⟩)
    · exact .inl ⟨rfl, h⟩
    · exact .inr ⟨A, c, rfl, R_mono h hok⟩
  M_bound := by
    rintro w base ok x cs (⟨rfl, h⟩ | ⟨A, c, rfl, h⟩)
    · exact .inl ⟨rfl, h⟩
    · exact .inr ⟨A, c, rfl, R_bound h⟩
  M_move := by
    rintro w w1 base ok x cs hm (⟨rfl, h⟩ | ⟨A, c, rfl, h⟩)
    · exact .inl ⟨rfl, h⟩
    · exact .inr ⟨A, c, rfl, R_move h hm⟩
  M_lower := by
    rintro w base base' ok x cs hb (⟨rfl, h⟩ | ⟨A, c, rfl, h⟩)
    · exact .inl ⟨rfl, h⟩
    · exact .inr ⟨A, c, rfl, R_lower h hb⟩
theorem mono_sliceB {α β : Type} (e : Nat) (z : β) {G : Kd α → Kd β} (hG : Mono G) : Mono (fun d => sliceB e (G d) z) := by
  refine ⟨fun _ _ _ => rfl, ?_, ?_⟩
  · rintro d d' hs h w x cs (⟨c, rfl, hx⟩ | ⟨A, c, rfl, hl, hr⟩)
    · exact .inl ⟨c, rfl, hx⟩
    · exact .inr ⟨A, c, rfl, hl, C_imp (hG.sz d d' hs) (hG.K d d' hs h) hr⟩
  · rintro d d' hs h w base ok x cs (⟨rfl, hx⟩ | ⟨A, c, rfl, hr⟩)
    · exact .inl ⟨rfl, hx⟩
    · exact .inr ⟨A, c, rfl, R_imp (hG.sz d d' hs) (hG.M d d' hs h) hr⟩
theorem sub_sliceB {α β : Type} {E : List Nat} (e : Nat) (z : β) {G : Kd α → Kd β} (he : e ∈ E) (hG : Sub G E) : Sub (fun d => sliceB e (G d) z) E := fun d h q hq => by
  rcases List.mem_cons.1 hq with rfl | hq
  · exact he
  · exact hG d h q hq
end Kd
end Go.Proofs.YtkfbkjcdngipcaaW.PrintWords
namespace Go.Proofs.Ytkfbkjcdngipcaa.PTreeEquals
open Go.RowKit Go.Proofs.YtkfbkjcdngipcaaW.PrintWords Go.Proofs.YtkfbkjcdngipcaaW.PrintLast Go.Proofs.YtkfbkjcdngipcaaW.PrintMore
def b23 : S23 := ⟨-5, 0, 0⟩
def b54 : S54 := ⟨-5, 0, ⟨#[]⟩, [], []⟩
def b34 : S34 := { z34 with f0 := -5 }
def F54B (d : Kd S54) : Kd S54 := Kd.iso (Kd.pair (Kd.int .i64) (Kd.pair (Kd.int .i64) (Kd.pair Kd.string (Kd.pair (Kd.sliceB 23 k23 b23) (Kd.sliceB 54 d b54))))) (fun x : S54 => (x.f0, x.f1, x.f2, x.f3, x.f4))
theorem mono54B : Kd.Mono F54B := Kd.mono_iso _ (Kd.mono_pair (Kd.mono_const _) (Kd.mono_pair (Kd.mono_const _) (Kd.mono_pair (Kd.mono_const _) (Kd.mono_pair (Kd.mono_const _) (Kd.mono_sliceB 54 b54 Kd.mono_id)))))
theorem sub54B : Kd.Sub F54B [23, 54] := Kd.sub_iso _ (Kd.sub_pair (Kd.sub_const _ (by decide)) (Kd.sub_pair (Kd.sub_const _ (by decide)) (Kd.sub_pair (Kd.sub_const _ (by decide)) (Kd.sub_pair (Kd.sub_const _ (by decide)) (Kd.sub_sliceB 54 b54 (by decide) Kd.sub_id)))))
theorem sz54B : ∀ n, (Kd.upto F54B 5 [23, 54] n).sz = 5 := Kd.upto_sz (fun _ => rfl)
def k54B : Kd S54 := Kd.fix F54B 5 [23, 54] sz54B (Kd.upto_E sub54B)
def F34B (d : Kd S34) : Kd S34 := Kd.iso (Kd.pair (Kd.int .i64) (Kd.pair Kd.string (Kd.pair Kd.string (Kd.pair Kd.string (Kd.pair (Kd.int .i64) (Kd.pair k23 (Kd.pair k30 (Kd.pair (Kd.sliceB 54 k54B b54) (Kd.sliceB 34 d b34))))))))) (fun x : S34 => (x.f0, x.f1, x.f2, x.f3, x.f4, x.f5, x.f6, x.f7, x.f8))
theorem mono34B : Kd.Mono F34B := Kd.mono_iso _ (Kd.mono_pair (Kd.mono_const _) (Kd.mono_pair (Kd.mono_const _) (Kd.mono_pair (Kd.mono_const _) (Kd.mono_pair (Kd.mono_const _) (Kd.mono_pair (Kd.mono_const _) (Kd.mono_pair (Kd.mono_const _) (Kd.mono_pair (Kd.mono_const _) (Kd.mono_pair (Kd.mono_const _) (Kd.mono_sliceB 34 b34 Kd.mono_id)))))))))
theorem sub34B : Kd.Sub F34B [23, 34, 54] := Kd.sub_iso _ (Kd.sub_pair (Kd.sub_const _ (by decide)) (Kd.sub_pair (Kd.sub_const _ (by decide)) (Kd.sub_pair (Kd.sub_const _ (by decide)) (Kd.sub_pair (Kd.sub_const _ (by decide)) (Kd.sub_pair (Kd.sub_const _ (by decide)) (Kd.sub_pair (Kd.sub_const _ (by decide)) (Kd.sub_pair (Kd.sub_const _ (by decide)) (Kd.sub_pair (Kd.sub_const _ (by decide)) (Kd.sub_sliceB 34 b34 (by decide) Kd.sub_id)))))))))
theorem sz34B : ∀ n, (Kd.upto F34B 23 [23, 34, 54] n).sz = 23 := Kd.upto_sz (fun _ => rfl)
def k34B : Kd S34 := Kd.fix F34B 23 [23, 34, 54] sz34B (Kd.upto_E sub34B)
end Go.Proofs.Ytkfbkjcdngipcaa.PTreeEquals
end
