import Derived.Test.YtkfbkjcdngipcaaTfg
section
namespace Go.Proofs.Ytkfbkjcdngipcaa.PTreeEquals
open Go.RowKit Go.Proofs.YtkfbkjcdngipcaaW.PrintWords Go.Proofs.YtkfbkjcdngipcaaW.PrintLast Go.Proofs.YtkfbkjcdngipcaaW.PrintMore
attribute [local go_sem] max2_int min2_int max_two min_two max_three min_three max_four min_four
set_option linter.unusedVariables false
set_option linter.unusedSimpArgs false
mutual
def payoffref07_SameExpr.j0 : Nat → Bool → Int → Int → ByteArray → List (S23) → List (S54) → Int → Int → ByteArray → List (S23) → List (S54) → Option (Bool)
  | 0, _, _, _, _, _, _, _, _, _, _, _ => none
  | k + 1, x44, x169000, x169001, x169002, x169003, x169004, x170000, x170001, x170002, x170003, x170004 => if x44 = true then (some false) else (payoffref07_SameExpr.l0 k 0 x169000 x169001 x169002 x169003 x169004 x170000 x170001 x170002 x170003 x170004)
def payoffref07_SameExpr.l0 : Nat → Int → Int → Int → ByteArray → List (S23) → List (S54) → Int → Int → ByteArray → List (S23) → List (S54) → Option (Bool)
  | 0, _, _, _, _, _, _, _, _, _, _, _ => none
  | k + 1, x6, x169000, x169001, x169002, x169003, x169004, x170000, x170001, x170002, x170003, x170004 => if x6 < (x169004.length : Int) then (if 0 ≤ x6 then (if x6 < (x170004.length : Int) then ((payoffref07_SameExpr.f k ((rd_T54 x169004 x6).f0) ((rd_T54 x169004 x6).f1) ((rd_T54 x169004 x6).f2) ((rd_T54 x169004 x6).f3) ((rd_T54 x169004 x6).f4) ((rd_T54 x170004 x6).f0) ((rd_T54 x170004 x6).f1) ((rd_T54 x170004 x6).f2) ((rd_T54 x170004 x6).f3) ((rd_T54 x170004 x6).f4)).bind fun t173 => (if t173 = true then (payoffref07_SameExpr.l0 k (wrap64 (x6 + 1)) x169000 x169001 x169002 x169003 x169004 x170000 x170001 x170002 x170003 x170004) else (some false))) else (none)) else (none)) else (some true)
def payoffref07_SameExpr.f : Nat → Int → Int → ByteArray → List (S23) → List (S54) → Int → Int → ByteArray → List (S23) → List (S54) → Option (Bool)
  | 0, _, _, _, _, _, _, _, _, _, _ => none
  | k + 1, a0_0, a0_1, a0_2, l0_3, l0_4, a1_0, a1_1, a1_2, l1_3, l1_4 => (payoffref07_sameDates.f k l0_3 l1_3).bind fun t170 => (if a0_0 = a1_0 then (if a0_1 = a1_1 then (if a0_2.toList = a1_2.toList then (if t170 = true then (payoffref07_SameExpr.j0 k ((l0_4.length : Int) != (l1_4.length : Int)) a0_0 a0_1 a0_2 l0_3 l0_4 a1_0 a1_1 a1_2 l1_3 l1_4) else (payoffref07_SameExpr.j0 k true a0_0 a0_1 a0_2 l0_3 l0_4 a1_0 a1_1 a1_2 l1_3 l1_4)) else (payoffref07_SameExpr.j0 k true a0_0 a0_1 a0_2 l0_3 l0_4 a1_0 a1_1 a1_2 l1_3 l1_4)) else (payoffref07_SameExpr.j0 k true a0_0 a0_1 a0_2 l0_3 l0_4 a1_0 a1_1 a1_2 l1_3 l1_4)) else (payoffref07_SameExpr.j0 k true a0_0 a0_1 a0_2 l0_3 l0_4 a1_0 a1_1 a1_2 l1_3 l1_4))
end
theorem payoffref07_SameExpr.mono_l : ∀ k, (∀ y0 y1 y2 y3 y4 y5 y6 y7 y8 y9, LeO (payoffref07_SameExpr.f k y0 y1 y2 y3 y4 y5 y6 y7 y8 y9) (payoffref07_SameExpr.f (k + 1) y0 y1 y2 y3 y4 y5 y6 y7 y8 y9)) ∧ (∀ y0 y1 y2 y3 y4 y5 y6 y7 y8 y9 y10, LeO (payoffref07_SameExpr.j0 k y0 y1 y2 y3 y4 y5 y6 y7 y8 y9 y10) (payoffref07_SameExpr.j0 (k + 1) y0 y1 y2 y3 y4 y5 y6 y7 y8 y9 y10)) ∧ (∀ y0 y1 y2 y3 y4 y5 y6 y7 y8 y9 y10, LeO (payoffref07_SameExpr.l0 k y0 y1 y2 y3 y4 y5 y6 y7 y8 y9 y10) (payoffref07_SameExpr.l0 (k + 1) y0 y1 y2 y3 y4 y5 y6 y7 y8 y9 y10))
  | 0 => ⟨fun _ _ _ _ _ _ _ _ _ _ r h => by simp [payoffref07_SameExpr.f] at h, fun _ _ _ _ _ _ _ _ _ _ _ r h => by simp [payoffref07_SameExpr.j0] at h, fun _ _ _ _ _ _ _ _ _ _ _ r h => by simp [payoffref07_SameExpr.l0] at h⟩
  | k + 1 => by
    obtain ⟨ih0, ih1, ih2⟩ := payoffref07_SameExpr.mono_l k
    refine ⟨?_, ?_, ?_⟩
    · intro y0 y1 y2 y3 y4 y5 y6 y7 y8 y9
      unfold payoffref07_SameExpr.f
      repeat' first
      | (with_reducible exact ih0 _ _ _ _ _ _ _ _ _ _)
      | (with_reducible exact ih1 _ _ _ _ _ _ _ _ _ _ _)
      | (with_reducible exact ih2 _ _ _ _ _ _ _ _ _ _ _)
      | (with_reducible exact payoffref07_sameDates.mono _ _ _)
      | (with_reducible exact LeO.refl _)
      | (with_reducible exact LeO.none _)
      | (with_reducible refine LeO.ite ?_ ?_)
      | (with_reducible refine LeO.bind ?_ (fun _ => ?_))
      | exact ih0 _ _ _ _ _ _ _ _ _ _
      | exact ih1 _ _ _ _ _ _ _ _ _ _ _
      | exact ih2 _ _ _ _ _ _ _ _ _ _ _
      | exact payoffref07_sameDates.mono _ _ _
      | exact LeO.none _
      | refine LeO.ite ?_ ?_
      | refine LeO.bind ?_ (fun _ => ?_)
    · intro y0 y1 y2 y3 y4 y5 y6 y7 y8 y9 y10
      unfold payoffref07_SameExpr.j0
      repeat' first
      | (with_reducible exact ih0 _ _ _ _ _ _ _ _ _ _)
      | (with_reducible exact ih1 _ _ _ _ _ _ _ _ _ _ _)
      | (with_reducible exact ih2 _ _ _ _ _ _ _ _ _ _ _)
      | (with_reducible exact payoffref07_sameDates.mono _ _ _)
      | (with_reducible exact LeO.refl _)
      | (with_reducible exact LeO.none _)
      | (with_reducible refine LeO.ite ?_ ?_)
      | (with_reducible refine LeO.bind ?_ (fun _ => ?_))
      | exact ih0 _ _ _ _ _ _ _ _ _ _
      | exact ih1 _ _ _ _ _ _ _ _ _ _ _
      | exact ih2 _ _ _ _ _ _ _ _ _ _ _
      | exact payoffref07_sameDates.mono _ _ _
      | exact LeO.none _
      | refine LeO.ite ?_ ?_
      | refine LeO.bind ?_ (fun _ => ?_)
    · intro y0 y1 y2 y3 y4 y5 y6 y7 y8 y9 y10
      unfold payoffref07_SameExpr.l0
      repeat' first
      | (with_reducible exact ih0 _ _ _ _ _ _ _ _ _ _)
      | (with_reducible exact ih1 _ _ _ _ _ _ _ _ _ _ _)
      | (with_reducible exact ih2 _ _ _ _ _ _ _ _ _ _ _)
      | (with_reducible exact payoffref07_sameDates.mono _ _ _)
      | (with_reducible exact LeO.refl _)
      | (with_reducible exact LeO.none _)
      | (with_reducible refine LeO.ite ?_ ?_)
      | (with_reducible refine LeO.bind ?_ (fun _ => ?_))
      | exact ih0 _ _ _ _ _ _ _ _ _ _
      | exact ih1 _ _ _ _ _ _ _ _ _ _ _
      | exact ih2 _ _ _ _ _ _ _ _ _ _ _
      | exact payoffref07_sameDates.mono _ _ _
      | exact LeO.none _
      | refine LeO.ite ?_ ?_
      | refine LeO.bind ?_ (fun _ => ?_)
theorem payoffref07_SameExpr.mono : ∀ a0 a1 a2 a3 a4 a5 a6 a7 a8 a9 k, LeO (payoffref07_SameExpr.f k a0 a1 a2 a3 a4 a5 a6 a7 a8 a9) (payoffref07_SameExpr.f (k + 1) a0 a1 a2 a3 a4 a5 a6 a7 a8 a9) := by
  intro a0 a1 a2 a3 a4 a5 a6 a7 a8 a9 k
  obtain ⟨ih0, ih1, ih2⟩ := payoffref07_SameExpr.mono_l k
  exact ih0 a0 a1 a2 a3 a4 a5 a6 a7 a8 a9
def payoffref07_SameExpr.T7 : Bool × List (List Nat × List Nat) := (true, [([], []), ([0], [0]), ([], []), ([1, 2], [1, 2]), ([3], [3]), ([], []), ([5], [5]), ([], []), ([6, 7], [6, 7]), ([8], [8]), ([4, 9], [4, 9]), ([10, 10, 0, 1, 2, 3, 4, 5, 6, 7, 8, 9, 10], [10])])
def payoffref07_SameExpr.B7 : List Nat := [0, 1, 0, 7, 15, 0, 32, 0, 224, 480, 1023, 2047]
theorem payoffref07_SameExpr.tab7 : rtab .any (opsOf Try.f29 7) = payoffref07_SameExpr.T7 := by kernel_rfl
theorem payoffref07_SameExpr.bits7 : waitsOk payoffref07_SameExpr.T7.2 payoffref07_SameExpr.B7 = true := by kernel_rfl
set_option maxHeartbeats 8000000 in
set_option maxRecDepth 100000 in
theorem payoffref07_SameExpr.calls (k : Nat) : ∀ (a0_0 : Int) (a0_1 : Int) (a0_2 : ByteArray) (A0_3 : Option Addr) (c0_3 : Nat) (l0_3 : List (S23)) (A0_4 : Option Addr) (c0_4 : Nat) (l0_4 : List (S54)) (a1_0 : Int) (a1_1 : Int) (a1_2 : ByteArray) (A1_3 : Option Addr) (c1_3 : Nat) (l1_3 : List (S23)) (A1_4 : Option Addr) (c1_4 : Nat) (l1_4 : List (S54)) (r : Bool) (w : World) (hr0_3 : Kd.C k23 w A0_3 l0_3.length l0_3) (hc0_3 : l0_3.length ≤ c0_3) (hr0_4 : Kd.C k54 w A0_4 l0_4.length l0_4) (hc0_4 : l0_4.length ≤ c0_4) (hr1_3 : Kd.C k23 w A1_3 l1_3.length l1_3) (hc1_3 : l1_3.length ≤ c1_3) (hr1_4 : Kd.C k54 w A1_4 l1_4.length l1_4) (hc1_4 : l1_4.length ≤ c1_4) (h : payoffref07_SameExpr.f k a0_0 a0_1 a0_2 l0_3 l0_4 a1_0 a1_1 a1_2 l1_3 l1_4 = some r),
    Calls Try.prog 29 #[.agg #[.int .i64 a0_0, .int .i64 a0_1, .string a0_2, .slice A0_3 l0_3.length c0_3, .slice A0_4 l0_4.length c0_4], .agg #[.int .i64 a1_0, .int .i64 a1_1, .string a1_2, .slice A1_3 l1_3.length c1_3, .slice A1_4 l1_4.length c1_4]] w fun e w' => e = .returned (.bool r) ∧ Below w.heap.size w w' := by
  induction k using Nat.strongRecOn with
  | _ k ih =>
  intro a0_0 a0_1 a0_2 A0_3 c0_3 l0_3 A0_4 c0_4 l0_4 a1_0 a1_1 a1_2 A1_3 c1_3 l1_3 A1_4 c1_4 l1_4 r w hr0_3 hc0_3 hr0_4 hc0_4 hr1_3 hc1_3 hr1_4 hc1_4 h
  cases k with
  | zero => exact absurd h (by simp [payoffref07_SameExpr.f])
  | succ k =>
  simp only [payoffref07_SameExpr.f] at h
  have hu54 := Try.underlying54
  have HR0_3 := Aside0.mk hr0_3
  have HC0_3 := Aside0.mk hc0_3
  clear hr0_3 hc0_3
  have HR0_4 := Aside0.mk hr0_4
  have HC0_4 := Aside0.mk hc0_4
  clear hr0_4 hc0_4
  have HR1_3 := Aside0.mk hr1_3
  have HC1_3 := Aside0.mk hc1_3
  clear hr1_3 hc1_3
  have HR1_4 := Aside0.mk hr1_4
  have HC1_4 := Aside0.mk hc1_4
  clear hr1_4 hc1_4
  have HB := Aside0.mk (Below.refl w.heap.size w)
  have H : ((payoffref07_sameDates.f k l0_3 l1_3).bind fun t170 => (if a0_0 = a1_0 then (if a0_1 = a1_1 then (if a0_2.toList = a1_2.toList then (if t170 = true then (payoffref07_SameExpr.j0 k ((l0_4.length : Int) != (l1_4.length : Int)) a0_0 a0_1 a0_2 l0_3 l0_4 a1_0 a1_1 a1_2 l1_3 l1_4) else (payoffref07_SameExpr.j0 k true a0_0 a0_1 a0_2 l0_3 l0_4 a1_0 a1_1 a1_2 l1_3 l1_4)) else (payoffref07_SameExpr.j0 k true a0_0 a0_1 a0_2 l0_3 l0_4 a1_0 a1_1 a1_2 l1_3 l1_4)) else (payoffref07_SameExpr.j0 k true a0_0 a0_1 a0_2 l0_3 l0_4 a1_0 a1_1 a1_2 l1_3 l1_4)) else (payoffref07_SameExpr.j0 k true a0_0 a0_1 a0_2 l0_3 l0_4 a1_0 a1_1 a1_2 l1_3 l1_4))) = some r := h
  clear h
  replace H := Option.bind_eq_some_iff.mp H
  obtain ⟨t170, A30, H⟩ := H
  replace H : (if a0_0 = a1_0 then (if a0_1 = a1_1 then (if a0_2.toList = a1_2.toList then (if t170 = true then (payoffref07_SameExpr.j0 k ((l0_4.length : Int) != (l1_4.length : Int)) a0_0 a0_1 a0_2 l0_3 l0_4 a1_0 a1_1 a1_2 l1_3 l1_4) else (payoffref07_SameExpr.j0 k true a0_0 a0_1 a0_2 l0_3 l0_4 a1_0 a1_1 a1_2 l1_3 l1_4)) else (payoffref07_SameExpr.j0 k true a0_0 a0_1 a0_2 l0_3 l0_4 a1_0 a1_1 a1_2 l1_3 l1_4)) else (payoffref07_SameExpr.j0 k true a0_0 a0_1 a0_2 l0_3 l0_4 a1_0 a1_1 a1_2 l1_3 l1_4)) else (payoffref07_SameExpr.j0 k true a0_0 a0_1 a0_2 l0_3 l0_4 a1_0 a1_1 a1_2 l1_3 l1_4)) = some r := H
  have A3 := Aside0.mk A30
  clear A30
  have HC4 := Aside0.mk H
  clear H
  go_enter Try.func29, Try.ntmps29
  go_upto_region 2 with (first | ((with_reducible refine gate_dst (N := 2) rfl ?_); (try (refine gate_guard (by rfl) ?_; dsimp only)); refine box_event ?hg (N := 2) ?hd (cs := #[.int .i64 a0_0, .int .i64 a0_1, .string a0_2, .slice A0_3 l0_3.length c0_3, .slice A0_4 l0_4.length c0_4]) (t := 54) ?hr ?_; (case hd => rfl); (case hg => rfl); (case hr => first | (go_simp; done) | (go_simp; rfl)); intro gb168 hg w5 hbox hb; have n0_ := Aside0.mk (below_step (by repeat (first | (with_reducible first | exact HB.out | apply below_alloc | apply pw_below_drewN | apply below_drew1) | exact HB.out)) hb); have n1_ := Aside0.mk (hbox); have n2_ := Aside0.mk ((by rw [hg]; exact (below_size (by repeat (first | (with_reducible first | exact HB.out | apply below_alloc | apply pw_below_drewN | apply below_drew1) | exact HB.out))) : w.heap.size ≤ gb168)); have n3_ := Aside0.mk ((by rw [hg]; exact (below_size (by repeat (first | (with_reducible first | exact HB.out | apply below_alloc | apply pw_below_drewN | apply below_drew1) | exact HB.out))) : w.heap.size ≤ gb168)); clear HB; have HB := n0_; have BK168 := n1_; have GW168 := n2_; have GE168 := n3_; clear n0_ n1_ n2_ n3_; clear hb hbox hg) | ((with_reducible refine gate_dst (N := 3) rfl ?_); (try (refine gate_guard (by rfl) ?_; dsimp only)); refine box_event ?hg (N := 3) ?hd (cs := #[.int .i64 a1_0, .int .i64 a1_1, .string a1_2, .slice A1_3 l1_3.length c1_3, .slice A1_4 l1_4.length c1_4]) (t := 54) ?hr ?_; (case hd => rfl); (case hg => rfl); (case hr => first | (go_simp; done) | (go_simp; rfl)); intro gb169 hg w6 hbox hb; have n0_ := Aside0.mk (blk_below (g := gb168) (o := .cells #[.int .i64 a0_0, .int .i64 a0_1, .string a0_2, .slice A0_3 l0_3.length c0_3, .slice A0_4 l0_4.length c0_4] 54 (0, 0)) (by (with_reducible repeat (first | refine blk_drewN ?_ _ | refine blk_drew ?_ | refine blk_alloc ?_ _)); exact BK168.out) hb); have n1_ := Aside0.mk (below_step (by repeat (first | (with_reducible first | exact HB.out | apply below_alloc | apply pw_below_drewN | apply below_drew1 | refine below_set ?_ GE168.out) | exact HB.out)) hb); have n2_ := Aside0.mk (hbox); have n3_ := Aside0.mk ((by rw [hg]; exact (below_size (by repeat (first | (with_reducible first | exact HB.out | apply below_alloc | apply pw_below_drewN | apply below_drew1 | refine below_set ?_ GE168.out) | exact HB.out))) : w.heap.size ≤ gb169)); have n4_ := Aside0.mk ((by rw [hg]; exact (below_size (by repeat (first | (with_reducible first | exact HB.out | apply below_alloc | apply pw_below_drewN | apply below_drew1 | refine below_set ?_ GE168.out) | exact HB.out))) : w.heap.size ≤ gb169)); have n5_ := Aside0.mk ((by rw [hg]; exact Nat.ne_of_lt (blk_lt (g := gb168) (o := .cells #[.int .i64 a0_0, .int .i64 a0_1, .string a0_2, .slice A0_3 l0_3.length c0_3, .slice A0_4 l0_4.length c0_4] 54 (0, 0)) (by (with_reducible repeat (first | refine blk_drewN ?_ _ | refine blk_drew ?_ | refine blk_alloc ?_ _)); exact BK168.out)) : gb168 ≠ gb169)); have n6_ := Aside0.mk ((by rw [hg]; exact Nat.ne_of_gt (blk_lt (g := gb168) (o := .cells #[.int .i64 a0_0, .int .i64 a0_1, .string a0_2, .slice A0_3 l0_3.length c0_3, .slice A0_4 l0_4.length c0_4] 54 (0, 0)) (by (with_reducible repeat (first | refine blk_drewN ?_ _ | refine blk_drew ?_ | refine blk_alloc ?_ _)); exact BK168.out)) : gb169 ≠ gb168)); clear BK168; clear HB; have BK168 := n0_; have HB := n1_; have BK169 := n2_; have GW169 := n3_; have GE169 := n4_; have NB168_169 := n5_; have NB169_168 := n6_; clear n0_ n1_ n2_ n3_ n4_ n5_ n6_; clear hb hbox hg; have hnb7 := NB168_169.out; have hnc7 := NB169_168.out; have hcz8_0 : w6.cell? ⟨gb168, 0, none⟩ = some (.int .i64 a0_0) := (blk_cell BK168.out 0).trans rfl; have hcz8_1 : w6.cell? ⟨gb168, 1, none⟩ = some (.int .i64 a0_1) := (blk_cell BK168.out 1).trans rfl; have hcz8_2 : w6.cell? ⟨gb168, 2, none⟩ = some (.string a0_2) := (blk_cell BK168.out 2).trans rfl; have hcz8_3 : w6.cell? ⟨gb168, 3, none⟩ = some (.slice A0_3 l0_3.length c0_3) := (blk_cell BK168.out 3).trans rfl; have hcz8_4 : w6.cell? ⟨gb168, 4, none⟩ = some (.slice A0_4 l0_4.length c0_4) := (blk_cell BK168.out 4).trans rfl; have hfz8_0 := blk_frozen BK168.out 0; have hfz8_1 := blk_frozen BK168.out 1; have hfz8_2 := blk_frozen BK168.out 2; have hfz8_3 := blk_frozen BK168.out 3; have hfz8_4 := blk_frozen BK168.out 4; have hcz9_0 : w6.cell? ⟨gb169, 0, none⟩ = some (.int .i64 a1_0) := (blk_cell BK169.out 0).trans rfl; have hcz9_1 : w6.cell? ⟨gb169, 1, none⟩ = some (.int .i64 a1_1) := (blk_cell BK169.out 1).trans rfl; have hcz9_2 : w6.cell? ⟨gb169, 2, none⟩ = some (.string a1_2) := (blk_cell BK169.out 2).trans rfl; have hcz9_3 : w6.cell? ⟨gb169, 3, none⟩ = some (.slice A1_3 l1_3.length c1_3) := (blk_cell BK169.out 3).trans rfl; have hcz9_4 : w6.cell? ⟨gb169, 4, none⟩ = some (.slice A1_4 l1_4.length c1_4) := (blk_cell BK169.out 4).trans rfl; have hfz9_0 := blk_frozen BK169.out 0; have hfz9_1 := blk_frozen BK169.out 1; have hfz9_2 := blk_frozen BK169.out 2; have hfz9_3 := blk_frozen BK169.out 3; have hfz9_4 := blk_frozen BK169.out 4) | ((with_reducible refine gate_callee (f := 27) rfl ?_); refine goesL_ (some 12) rfl rfl Try.func27 (by kernel_rfl) rfl #[.slice A0_3 l0_3.length c0_3, .slice A1_3 l1_3.length c1_3] rfl (by (try simp only [List.map_toArray, List.map_cons, List.map_nil]); first | done | rfl | (simp only [List.length_drop, List.length_take]; rfl)) ?_; (with_reducible refine (payoffref07_sameDates.calls k _ _ l0_3 _ _ l1_3 t170 _ ?side1 ?side2 ?side3 ?side4 A3.out).mono ?_); (case side1 => repeat (first | exact (Kd.C_below HR0_3.out HB.out) | (with_reducible refine Kd.C_alloc ?_ _) | (with_reducible refine Kd.C_drewN ?_ _) | (with_reducible refine Kd.C_drew ?_))); (case side2 => exact HC0_3.out); (case side3 => repeat (first | exact (Kd.C_below HR1_3.out HB.out) | (with_reducible refine Kd.C_alloc ?_ _) | (with_reducible refine Kd.C_drewN ?_ _) | (with_reducible refine Kd.C_drew ?_))); (case side4 => exact HC1_3.out); rintro e w' ⟨rfl, ⟨nd, rfl⟩⟩; refine ⟨_, rfl, ?_⟩))
  (try simp only [Act.put, List.setIfInBounds_toArray, List.set_cons_zero, List.set_cons_succ])
  go_cut [44] (fun v44 wc => ∃ (kq : Nat) (x44_3 : Bool), v44 = .bool x44_3 ∧ Aside0 (payoffref07_SameExpr.j0 kq x44_3 a0_0 a0_1 a0_2 l0_3 l0_4 a1_0 a1_1 a1_2 l1_3 l1_4 = some r) ∧ Aside0 (kq ≤ k) ∧ Aside0 (wc.heap[gb168]? = some (.cells #[.int .i64 a0_0, .int .i64 a0_1, .string a0_2, (.slice A0_3 l0_3.length c0_3), (.slice A0_4 l0_4.length c0_4)] 54 (0, 0))) ∧ Aside0 (wc.heap[gb169]? = some (.cells #[.int .i64 a1_0, .int .i64 a1_1, .string a1_2, (.slice A1_3 l1_3.length c1_3), (.slice A1_4 l1_4.length c1_4)] 54 (0, 0))) ∧ Aside0 (Below w.heap.size w wc))
  case first =>
    have H := HC4.out
    clear HC4
    by_cases c10 : a0_0 = a1_0
    · rw [if_pos c10] at H
      have c10b0 : (a0_0 == a1_0) = true := beq_iff_eq.mpr c10
      have c10b1 : (a0_0 != a1_0) = false := bne_eq_false_iff_eq.mpr c10
      clear c10
      (first | rw [c10b0] | (simp only [i64_w, i32_w]; rw [c10b0]) | skip)
      by_cases c11 : a0_1 = a1_1
      · rw [if_pos c11] at H
        have c11b0 : (a0_1 == a1_1) = true := beq_iff_eq.mpr c11
        have c11b1 : (a0_1 != a1_1) = false := bne_eq_false_iff_eq.mpr c11
        clear c11
        by_cases c12 : a0_2.toList = a1_2.toList
        · rw [if_pos c12] at H
          have c12b0 : (a0_2.toList == a1_2.toList) = true := beq_iff_eq.mpr c12
          have c12b1 : (a0_2.toList != a1_2.toList) = false := bne_eq_false_iff_eq.mpr c12
          clear c12
          by_cases c13 : t170 = true
          · subst c13
            have H1 : (payoffref07_SameExpr.j0 k ((l0_4.length : Int) != (l1_4.length : Int)) a0_0 a0_1 a0_2 l0_3 l0_4 a1_0 a1_1 a1_2 l1_3 l1_4) = some r := by rw [if_pos rfl] at H; exact H
            clear H
            have H := H1
            clear H1
            have H' := Aside0.mk H
            clear H
            have hnb14 := NB168_169.out
            have hnc14 := NB169_168.out
            have hcz15_0 : w6.cell? ⟨gb168, 0, none⟩ = some (.int .i64 a0_0) := (blk_cell BK168.out 0).trans rfl
            have hcz15_1 : w6.cell? ⟨gb168, 1, none⟩ = some (.int .i64 a0_1) := (blk_cell BK168.out 1).trans rfl
            have hcz15_2 : w6.cell? ⟨gb168, 2, none⟩ = some (.string a0_2) := (blk_cell BK168.out 2).trans rfl
            have hcz15_3 : w6.cell? ⟨gb168, 3, none⟩ = some (.slice A0_3 l0_3.length c0_3) := (blk_cell BK168.out 3).trans rfl
            have hcz15_4 : w6.cell? ⟨gb168, 4, none⟩ = some (.slice A0_4 l0_4.length c0_4) := (blk_cell BK168.out 4).trans rfl
            have hfz15_0 := blk_frozen BK168.out 0
            have hfz15_1 := blk_frozen BK168.out 1
            have hfz15_2 := blk_frozen BK168.out 2
            have hfz15_3 := blk_frozen BK168.out 3
            have hfz15_4 := blk_frozen BK168.out 4
            have hcz16_0 : w6.cell? ⟨gb169, 0, none⟩ = some (.int .i64 a1_0) := (blk_cell BK169.out 0).trans rfl
            have hcz16_1 : w6.cell? ⟨gb169, 1, none⟩ = some (.int .i64 a1_1) := (blk_cell BK169.out 1).trans rfl
            have hcz16_2 : w6.cell? ⟨gb169, 2, none⟩ = some (.string a1_2) := (blk_cell BK169.out 2).trans rfl
            have hcz16_3 : w6.cell? ⟨gb169, 3, none⟩ = some (.slice A1_3 l1_3.length c1_3) := (blk_cell BK169.out 3).trans rfl
            have hcz16_4 : w6.cell? ⟨gb169, 4, none⟩ = some (.slice A1_4 l1_4.length c1_4) := (blk_cell BK169.out 4).trans rfl
            have hfz16_0 := blk_frozen BK169.out 0
            have hfz16_1 := blk_frozen BK169.out 1
            have hfz16_2 := blk_frozen BK169.out 2
            have hfz16_3 := blk_frozen BK169.out 3
            have hfz16_4 := blk_frozen BK169.out 4
            go_wp2
            go_meet
            case rel => exact ⟨_, (((l0_4.length : Int) != (l1_4.length : Int))), (by first | rfl | (simp; done) | (simp [*]; done)), H', ⟨by first | omega | exact Nat.le_refl _⟩, ⟨by (with_reducible repeat (first | refine blk_drewN ?_ _ | refine blk_drew ?_ | refine blk_alloc ?_ _)); exact BK168.out⟩, ⟨by (with_reducible repeat (first | refine blk_drewN ?_ _ | refine blk_drew ?_ | refine blk_alloc ?_ _)); exact BK169.out⟩, ⟨by repeat (first | (with_reducible first | exact HB.out | apply below_alloc | apply pw_below_drewN | apply below_drew1 | refine below_set ?_ GE168.out | refine below_set ?_ GE169.out) | exact HB.out)⟩⟩
          · replace c13 := Bool.eq_false_iff.mpr c13
            subst c13
            have H1 : (payoffref07_SameExpr.j0 k true a0_0 a0_1 a0_2 l0_3 l0_4 a1_0 a1_1 a1_2 l1_3 l1_4) = some r := by rw [if_neg (show ¬ (false = true) by decide)] at H; exact H
            clear H
            have H := H1
            clear H1
            have H' := Aside0.mk H
            clear H
            have hnb17 := NB168_169.out
            have hnc17 := NB169_168.out
            have hcz18_0 : w6.cell? ⟨gb168, 0, none⟩ = some (.int .i64 a0_0) := (blk_cell BK168.out 0).trans rfl
            have hcz18_1 : w6.cell? ⟨gb168, 1, none⟩ = some (.int .i64 a0_1) := (blk_cell BK168.out 1).trans rfl
            have hcz18_2 : w6.cell? ⟨gb168, 2, none⟩ = some (.string a0_2) := (blk_cell BK168.out 2).trans rfl
            have hcz18_3 : w6.cell? ⟨gb168, 3, none⟩ = some (.slice A0_3 l0_3.length c0_3) := (blk_cell BK168.out 3).trans rfl
            have hcz18_4 : w6.cell? ⟨gb168, 4, none⟩ = some (.slice A0_4 l0_4.length c0_4) := (blk_cell BK168.out 4).trans rfl
            have hfz18_0 := blk_frozen BK168.out 0
            have hfz18_1 := blk_frozen BK168.out 1
            have hfz18_2 := blk_frozen BK168.out 2
            have hfz18_3 := blk_frozen BK168.out 3
            have hfz18_4 := blk_frozen BK168.out 4
            have hcz19_0 : w6.cell? ⟨gb169, 0, none⟩ = some (.int .i64 a1_0) := (blk_cell BK169.out 0).trans rfl
            have hcz19_1 : w6.cell? ⟨gb169, 1, none⟩ = some (.int .i64 a1_1) := (blk_cell BK169.out 1).trans rfl
            have hcz19_2 : w6.cell? ⟨gb169, 2, none⟩ = some (.string a1_2) := (blk_cell BK169.out 2).trans rfl
            have hcz19_3 : w6.cell? ⟨gb169, 3, none⟩ = some (.slice A1_3 l1_3.length c1_3) := (blk_cell BK169.out 3).trans rfl
            have hcz19_4 : w6.cell? ⟨gb169, 4, none⟩ = some (.slice A1_4 l1_4.length c1_4) := (blk_cell BK169.out 4).trans rfl
            have hfz19_0 := blk_frozen BK169.out 0
            have hfz19_1 := blk_frozen BK169.out 1
            have hfz19_2 := blk_frozen BK169.out 2
            have hfz19_3 := blk_frozen BK169.out 3
            have hfz19_4 := blk_frozen BK169.out 4
            go_wp2
            go_meet
            case rel => exact ⟨_, (true), (by first | rfl | (simp; done) | (simp [*]; done)), H', ⟨by first | omega | exact Nat.le_refl _⟩, ⟨by (with_reducible repeat (first | refine blk_drewN ?_ _ | refine blk_drew ?_ | refine blk_alloc ?_ _)); exact BK168.out⟩, ⟨by (with_reducible repeat (first | refine blk_drewN ?_ _ | refine blk_drew ?_ | refine blk_alloc ?_ _)); exact BK169.out⟩, ⟨by repeat (first | (with_reducible first | exact HB.out | apply below_alloc | apply pw_below_drewN | apply below_drew1 | refine below_set ?_ GE168.out | refine below_set ?_ GE169.out) | exact HB.out)⟩⟩
        · rw [if_neg c12] at H
          have c12b0 : (a0_2.toList == a1_2.toList) = false := beq_eq_false_iff_ne.mpr c12
          have c12b1 : (a0_2.toList != a1_2.toList) = true := bne_iff_ne.mpr c12
          have H' := Aside0.mk H
          clear H
          have hnb20 := NB168_169.out
          have hnc20 := NB169_168.out
          have hcz21_0 : w6.cell? ⟨gb168, 0, none⟩ = some (.int .i64 a0_0) := (blk_cell BK168.out 0).trans rfl
          have hcz21_1 : w6.cell? ⟨gb168, 1, none⟩ = some (.int .i64 a0_1) := (blk_cell BK168.out 1).trans rfl
          have hcz21_2 : w6.cell? ⟨gb168, 2, none⟩ = some (.string a0_2) := (blk_cell BK168.out 2).trans rfl
          have hcz21_3 : w6.cell? ⟨gb168, 3, none⟩ = some (.slice A0_3 l0_3.length c0_3) := (blk_cell BK168.out 3).trans rfl
          have hcz21_4 : w6.cell? ⟨gb168, 4, none⟩ = some (.slice A0_4 l0_4.length c0_4) := (blk_cell BK168.out 4).trans rfl
          have hfz21_0 := blk_frozen BK168.out 0
          have hfz21_1 := blk_frozen BK168.out 1
          have hfz21_2 := blk_frozen BK168.out 2
          have hfz21_3 := blk_frozen BK168.out 3
          have hfz21_4 := blk_frozen BK168.out 4
          have hcz22_0 : w6.cell? ⟨gb169, 0, none⟩ = some (.int .i64 a1_0) := (blk_cell BK169.out 0).trans rfl
          have hcz22_1 : w6.cell? ⟨gb169, 1, none⟩ = some (.int .i64 a1_1) := (blk_cell BK169.out 1).trans rfl
          have hcz22_2 : w6.cell? ⟨gb169, 2, none⟩ = some (.string a1_2) := (blk_cell BK169.out 2).trans rfl
          have hcz22_3 : w6.cell? ⟨gb169, 3, none⟩ = some (.slice A1_3 l1_3.length c1_3) := (blk_cell BK169.out 3).trans rfl
          have hcz22_4 : w6.cell? ⟨gb169, 4, none⟩ = some (.slice A1_4 l1_4.length c1_4) := (blk_cell BK169.out 4).trans rfl
          have hfz22_0 := blk_frozen BK169.out 0
          have hfz22_1 := blk_frozen BK169.out 1
          have hfz22_2 := blk_frozen BK169.out 2
          have hfz22_3 := blk_frozen BK169.out 3
          have hfz22_4 := blk_frozen BK169.out 4
          go_wp2
          go_meet
          case rel => exact ⟨_, (true), (by first | rfl | (simp; done) | (simp [*]; done)), H', ⟨by first | omega | exact Nat.le_refl _⟩, ⟨by (with_reducible repeat (first | refine blk_drewN ?_ _ | refine blk_drew ?_ | refine blk_alloc ?_ _)); exact BK168.out⟩, ⟨by (with_reducible repeat (first | refine blk_drewN ?_ _ | refine blk_drew ?_ | refine blk_alloc ?_ _)); exact BK169.out⟩, ⟨by repeat (first | (with_reducible first | exact HB.out | apply below_alloc | apply pw_below_drewN | apply below_drew1 | refine below_set ?_ GE168.out | refine below_set ?_ GE169.out) | exact HB.out)⟩⟩
      · rw [if_neg c11] at H
        have c11b0 : (a0_1 == a1_1) = false := beq_eq_false_iff_ne.mpr c11
        have c11b1 : (a0_1 != a1_1) = true := bne_iff_ne.mpr c11
        have H' := Aside0.mk H
        clear H
        have hnb23 := NB168_169.out
        have hnc23 := NB169_168.out
        have hcz24_0 : w6.cell? ⟨gb168, 0, none⟩ = some (.int .i64 a0_0) := (blk_cell BK168.out 0).trans rfl
        have hcz24_1 : w6.cell? ⟨gb168, 1, none⟩ = some (.int .i64 a0_1) := (blk_cell BK168.out 1).trans rfl
        have hcz24_2 : w6.cell? ⟨gb168, 2, none⟩ = some (.string a0_2) := (blk_cell BK168.out 2).trans rfl
        have hcz24_3 : w6.cell? ⟨gb168, 3, none⟩ = some (.slice A0_3 l0_3.length c0_3) := (blk_cell BK168.out 3).trans rfl
        have hcz24_4 : w6.cell? ⟨gb168, 4, none⟩ = some (.slice A0_4 l0_4.length c0_4) := (blk_cell BK168.out 4).trans rfl
        have hfz24_0 := blk_frozen BK168.out 0
        have hfz24_1 := blk_frozen BK168.out 1
        have hfz24_2 := blk_frozen BK168.out 2
        have hfz24_3 := blk_frozen BK168.out 3
        have hfz24_4 := blk_frozen BK168.out 4
        have hcz25_0 : w6.cell? ⟨gb169, 0, none⟩ = some (.int .i64 a1_0) := (blk_cell BK169.out 0).trans rfl
        have hcz25_1 : w6.cell? ⟨gb169, 1, none⟩ = some (.int .i64 a1_1) := (blk_cell BK169.out 1).trans rfl
        have hcz25_2 : w6.cell? ⟨gb169, 2, none⟩ = some (.string a1_2) := (blk_cell BK169.out 2).trans rfl
        have hcz25_3 : w6.cell? ⟨gb169, 3, none⟩ = some (.slice A1_3 l1_3.length c1_3) := (blk_cell BK169.out 3).trans rfl
        have hcz25_4 : w6.cell? ⟨gb169, 4, none⟩ = some (.slice A1_4 l1_4.length c1_4) := (blk_cell BK169.out 4).trans rfl
        have hfz25_0 := blk_frozen BK169.out 0
        have hfz25_1 := blk_frozen BK169.out 1
        have hfz25_2 := blk_frozen BK169.out 2
        have hfz25_3 := blk_frozen BK169.out 3
        have hfz25_4 := blk_frozen BK169.out 4
        go_wp2
        go_meet
        case rel => exact ⟨_, (true), (by first | rfl | (simp; done) | (simp [*]; done)), H', ⟨by first | omega | exact Nat.le_refl _⟩, ⟨by (with_reducible repeat (first | refine blk_drewN ?_ _ | refine blk_drew ?_ | refine blk_alloc ?_ _)); exact BK168.out⟩, ⟨by (with_reducible repeat (first | refine blk_drewN ?_ _ | refine blk_drew ?_ | refine blk_alloc ?_ _)); exact BK169.out⟩, ⟨by repeat (first | (with_reducible first | exact HB.out | apply below_alloc | apply pw_below_drewN | apply below_drew1 | refine below_set ?_ GE168.out | refine below_set ?_ GE169.out) | exact HB.out)⟩⟩
    · rw [if_neg c10] at H
      have c10b0 : (a0_0 == a1_0) = false := beq_eq_false_iff_ne.mpr c10
      have c10b1 : (a0_0 != a1_0) = true := bne_iff_ne.mpr c10
      (first | rw [c10b0] | (simp only [i64_w, i32_w]; rw [c10b0]) | skip)
      have H' := Aside0.mk H
      clear H
      have hnb26 := NB168_169.out
      have hnc26 := NB169_168.out
      have hcz27_0 : w6.cell? ⟨gb168, 0, none⟩ = some (.int .i64 a0_0) := (blk_cell BK168.out 0).trans rfl
      have hcz27_1 : w6.cell? ⟨gb168, 1, none⟩ = some (.int .i64 a0_1) := (blk_cell BK168.out 1).trans rfl
      have hcz27_2 : w6.cell? ⟨gb168, 2, none⟩ = some (.string a0_2) := (blk_cell BK168.out 2).trans rfl
      have hcz27_3 : w6.cell? ⟨gb168, 3, none⟩ = some (.slice A0_3 l0_3.length c0_3) := (blk_cell BK168.out 3).trans rfl
      have hcz27_4 : w6.cell? ⟨gb168, 4, none⟩ = some (.slice A0_4 l0_4.length c0_4) := (blk_cell BK168.out 4).trans rfl
      have hfz27_0 := blk_frozen BK168.out 0
      have hfz27_1 := blk_frozen BK168.out 1
      have hfz27_2 := blk_frozen BK168.out 2
      have hfz27_3 := blk_frozen BK168.out 3
      have hfz27_4 := blk_frozen BK168.out 4
      have hcz28_0 : w6.cell? ⟨gb169, 0, none⟩ = some (.int .i64 a1_0) := (blk_cell BK169.out 0).trans rfl
      have hcz28_1 : w6.cell? ⟨gb169, 1, none⟩ = some (.int .i64 a1_1) := (blk_cell BK169.out 1).trans rfl
      have hcz28_2 : w6.cell? ⟨gb169, 2, none⟩ = some (.string a1_2) := (blk_cell BK169.out 2).trans rfl
      have hcz28_3 : w6.cell? ⟨gb169, 3, none⟩ = some (.slice A1_3 l1_3.length c1_3) := (blk_cell BK169.out 3).trans rfl
      have hcz28_4 : w6.cell? ⟨gb169, 4, none⟩ = some (.slice A1_4 l1_4.length c1_4) := (blk_cell BK169.out 4).trans rfl
      have hfz28_0 := blk_frozen BK169.out 0
      have hfz28_1 := blk_frozen BK169.out 1
      have hfz28_2 := blk_frozen BK169.out 2
      have hfz28_3 := blk_frozen BK169.out 3
      have hfz28_4 := blk_frozen BK169.out 4
      go_wp2
      go_meet
      case rel => exact ⟨_, (true), (by first | rfl | (simp; done) | (simp [*]; done)), H', ⟨by first | omega | exact Nat.le_refl _⟩, ⟨by (with_reducible repeat (first | refine blk_drewN ?_ _ | refine blk_drew ?_ | refine blk_alloc ?_ _)); exact BK168.out⟩, ⟨by (with_reducible repeat (first | refine blk_drewN ?_ _ | refine blk_drew ?_ | refine blk_alloc ?_ _)); exact BK169.out⟩, ⟨by repeat (first | (with_reducible first | exact HB.out | apply below_alloc | apply pw_below_drewN | apply below_drew1 | refine below_set ?_ GE168.out | refine below_set ?_ GE169.out) | exact HB.out)⟩⟩
  case rest =>
    clear HC4
    try clear c1
    try clear c2
    try clear p2
    try clear c7
    try clear c10
    try clear c10b0
    try clear c10b1
    try clear c11
    try clear c11b0
    try clear c11b1
    try clear c12
    try clear c12b0
    try clear c12b1
    try clear c13
    try clear c14
    try clear c17
    try clear c20
    try clear c23
    try clear c26
    try clear c27
    try clear hcz15_0
    try clear hcz15_1
    try clear hcz15_2
    try clear hcz15_3
    try clear hcz15_4
    try clear hcz16_0
    try clear hcz16_1
    try clear hcz16_2
    try clear hcz16_3
    try clear hcz16_4
    try clear hcz18_0
    try clear hcz18_1
    try clear hcz18_2
    try clear hcz18_3
    try clear hcz18_4
    try clear hcz19_0
    try clear hcz19_1
    try clear hcz19_2
    try clear hcz19_3
    try clear hcz19_4
    try clear hcz21_0
    try clear hcz21_1
    try clear hcz21_2
    try clear hcz21_3
    try clear hcz21_4
    try clear hcz22_0
    try clear hcz22_1
    try clear hcz22_2
    try clear hcz22_3
    try clear hcz22_4
    try clear hcz24_0
    try clear hcz24_1
    try clear hcz24_2
    try clear hcz24_3
    try clear hcz24_4
    try clear hcz25_0
    try clear hcz25_1
    try clear hcz25_2
    try clear hcz25_3
    try clear hcz25_4
    try clear hcz27_0
    try clear hcz27_1
    try clear hcz27_2
    try clear hcz27_3
    try clear hcz27_4
    try clear hcz28_0
    try clear hcz28_1
    try clear hcz28_2
    try clear hcz28_3
    try clear hcz28_4
    try clear hcz8_0
    try clear hcz8_1
    try clear hcz8_2
    try clear hcz8_3
    try clear hcz8_4
    try clear hcz9_0
    try clear hcz9_1
    try clear hcz9_2
    try clear hcz9_3
    try clear hcz9_4
    try clear hfz15_0
    try clear hfz15_1
    try clear hfz15_2
    try clear hfz15_3
    try clear hfz15_4
    try clear hfz16_0
    try clear hfz16_1
    try clear hfz16_2
    try clear hfz16_3
    try clear hfz16_4
    try clear hfz18_0
    try clear hfz18_1
    try clear hfz18_2
    try clear hfz18_3
    try clear hfz18_4
    try clear hfz19_0
    try clear hfz19_1
    try clear hfz19_2
    try clear hfz19_3
    try clear hfz19_4
    try clear hfz21_0
    try clear hfz21_1
    try clear hfz21_2
    try clear hfz21_3
    try clear hfz21_4
    try clear hfz22_0
    try clear hfz22_1
    try clear hfz22_2
    try clear hfz22_3
    try clear hfz22_4
    try clear hfz24_0
    try clear hfz24_1
    try clear hfz24_2
    try clear hfz24_3
    try clear hfz24_4
    try clear hfz25_0
    try clear hfz25_1
    try clear hfz25_2
    try clear hfz25_3
    try clear hfz25_4
    try clear hfz27_0
    try clear hfz27_1
    try clear hfz27_2
    try clear hfz27_3
    try clear hfz27_4
    try clear hfz28_0
    try clear hfz28_1
    try clear hfz28_2
    try clear hfz28_3
    try clear hfz28_4
    try clear hfz8_0
    try clear hfz8_1
    try clear hfz8_2
    try clear hfz8_3
    try clear hfz8_4
    try clear hfz9_0
    try clear hfz9_1
    try clear hfz9_2
    try clear hfz9_3
    try clear hfz9_4
    obtain ⟨kq, x44_3, rfl, HA, HJ3, BK168, BK169, HB⟩ := hcut
    cases kq with
    | zero => exact absurd HA.out (by simp [payoffref07_SameExpr.j0])
    | succ kj3 =>
      have H := HA.out
      clear HA
      simp only [payoffref07_SameExpr.j0] at H
      by_cases c29 : x44_3 = true
      · subst c29
        have H1 : (some false) = some r := by rw [if_pos rfl] at H; exact H
        clear H
        have H := H1
        clear H1
        obtain rfl := Option.some.inj H
        go_wp2
        go_ret
        exact ⟨by first | rfl | (simp [errW_none, errW_some] <;> rfl) | (simp [*, errW_none, errW_some] <;> rfl), by repeat (first | (with_reducible first | exact HB.out | apply below_alloc | apply pw_below_drewN | apply below_drew1 | refine below_set ?_ GE168.out | refine below_set ?_ GE169.out) | exact HB.out)⟩
      · replace c29 := Bool.eq_false_iff.mpr c29
        subst c29
        have H1 : (payoffref07_SameExpr.l0 kj3 0 a0_0 a0_1 a0_2 l0_3 l0_4 a1_0 a1_1 a1_2 l1_3 l1_4) = some r := by rw [if_neg (show ¬ (false = true) by decide)] at H; exact H
        clear H
        have H := H1
        clear H1
        have H' := Aside0.mk H
        clear H
        go_wp2
        go_loopg [6] kj3 (fun kq v6 w' => ∃ (x6_2 : Int), v6 = .int .i64 x6_2 ∧ Aside0 (payoffref07_SameExpr.l0 kq x6_2 a0_0 a0_1 a0_2 l0_3 l0_4 a1_0 a1_1 a1_2 l1_3 l1_4 = some r) ∧ Aside0 (kq ≤ kj3) ∧ Aside0 (w'.heap[gb168]? = some (.cells #[.int .i64 a0_0, .int .i64 a0_1, .string a0_2, (.slice A0_3 l0_3.length c0_3), (.slice A0_4 l0_4.length c0_4)] 54 (0, 0))) ∧ Aside0 (w'.heap[gb169]? = some (.cells #[.int .i64 a1_0, .int .i64 a1_1, .string a1_2, (.slice A1_3 l1_3.length c1_3), (.slice A1_4 l1_4.length c1_4)] 54 (0, 0))) ∧ Aside0 (Below w.heap.size w w'))
        case atStart => exact ⟨(0), (by first | rfl | (simp; done) | (simp [*]; done)), H', ⟨Nat.le_refl _⟩, ⟨by (with_reducible repeat (first | refine blk_drewN ?_ _ | refine blk_drew ?_ | refine blk_alloc ?_ _)); exact BK168.out⟩, ⟨by (with_reducible repeat (first | refine blk_drewN ?_ _ | refine blk_drew ?_ | refine blk_alloc ?_ _)); exact BK169.out⟩, ⟨by repeat (first | (with_reducible first | exact HB.out | apply below_alloc | apply pw_below_drewN | apply below_drew1 | refine below_set ?_ GE168.out | refine below_set ?_ GE169.out) | exact HB.out)⟩⟩
        case round =>
          clear H'
          try clear c1
          try clear c2
          try clear p2
          try clear c7
          try clear c10
          try clear c10b0
          try clear c10b1
          try clear c11
          try clear c11b0
          try clear c11b1
          try clear c12
          try clear c12b0
          try clear c12b1
          try clear c13
          try clear c14
          try clear c17
          try clear c20
          try clear c23
          try clear c26
          try clear c27
          try clear c29
          try clear hcz15_0
          try clear hcz15_1
          try clear hcz15_2
          try clear hcz15_3
          try clear hcz15_4
          try clear hcz16_0
          try clear hcz16_1
          try clear hcz16_2
          try clear hcz16_3
          try clear hcz16_4
          try clear hcz18_0
          try clear hcz18_1
          try clear hcz18_2
          try clear hcz18_3
          try clear hcz18_4
          try clear hcz19_0
          try clear hcz19_1
          try clear hcz19_2
          try clear hcz19_3
          try clear hcz19_4
          try clear hcz21_0
          try clear hcz21_1
          try clear hcz21_2
          try clear hcz21_3
          try clear hcz21_4
          try clear hcz22_0
          try clear hcz22_1
          try clear hcz22_2
          try clear hcz22_3
          try clear hcz22_4
          try clear hcz24_0
          try clear hcz24_1
          try clear hcz24_2
          try clear hcz24_3
          try clear hcz24_4
          try clear hcz25_0
          try clear hcz25_1
          try clear hcz25_2
          try clear hcz25_3
          try clear hcz25_4
          try clear hcz27_0
          try clear hcz27_1
          try clear hcz27_2
          try clear hcz27_3
          try clear hcz27_4
          try clear hcz28_0
          try clear hcz28_1
          try clear hcz28_2
          try clear hcz28_3
          try clear hcz28_4
          try clear hcz8_0
          try clear hcz8_1
          try clear hcz8_2
          try clear hcz8_3
          try clear hcz8_4
          try clear hcz9_0
          try clear hcz9_1
          try clear hcz9_2
          try clear hcz9_3
          try clear hcz9_4
          try clear hfz15_0
          try clear hfz15_1
          try clear hfz15_2
          try clear hfz15_3
          try clear hfz15_4
          try clear hfz16_0
          try clear hfz16_1
          try clear hfz16_2
          try clear hfz16_3
          try clear hfz16_4
          try clear hfz18_0
          try clear hfz18_1
          try clear hfz18_2
          try clear hfz18_3
          try clear hfz18_4
          try clear hfz19_0
          try clear hfz19_1
          try clear hfz19_2
          try clear hfz19_3
          try clear hfz19_4
          try clear hfz21_0
          try clear hfz21_1
          try clear hfz21_2
          try clear hfz21_3
          try clear hfz21_4
          try clear hfz22_0
          try clear hfz22_1
          try clear hfz22_2
          try clear hfz22_3
          try clear hfz22_4
          try clear hfz24_0
          try clear hfz24_1
          try clear hfz24_2
          try clear hfz24_3
          try clear hfz24_4
          try clear hfz25_0
          try clear hfz25_1
          try clear hfz25_2
          try clear hfz25_3
          try clear hfz25_4
          try clear hfz27_0
          try clear hfz27_1
          try clear hfz27_2
          try clear hfz27_3
          try clear hfz27_4
          try clear hfz28_0
          try clear hfz28_1
          try clear hfz28_2
          try clear hfz28_3
          try clear hfz28_4
          try clear hfz8_0
          try clear hfz8_1
          try clear hfz8_2
          try clear hfz8_3
          try clear hfz8_4
          try clear hfz9_0
          try clear hfz9_1
          try clear hfz9_2
          try clear hfz9_3
          try clear hfz9_4
          try clear p2
          obtain ⟨x6_2, rfl, HA, HK2, BK168, BK169, HB⟩ := hrel
          cases gk with
          | zero => exact absurd HA.out (by simp [payoffref07_SameExpr.l0])
          | succ k2 =>
            have H := HA.out
            clear HA
            simp only [payoffref07_SameExpr.l0] at H
            by_cases c30 : x6_2 < (l0_4.length : Int)
            · rw [if_pos c30] at H
              have c30b0 : decide (x6_2 < (l0_4.length : Int)) = true := decide_eq_true c30
              clear c30
              by_cases c31 : 0 ≤ x6_2
              · rw [if_pos c31] at H
                have c31b0 : decide (0 ≤ x6_2) = true := decide_eq_true c31
                clear c31
                by_cases c32 : x6_2 < (l1_4.length : Int)
                · rw [if_pos c32] at H
                  have c32b0 : decide (x6_2 < (l1_4.length : Int)) = true := decide_eq_true c32
                  clear c32
                  replace H := Option.bind_eq_some_iff.mp H
                  obtain ⟨t173, A330, H⟩ := H
                  replace H : (if t173 = true then (payoffref07_SameExpr.l0 k2 (wrap64 (x6_2 + 1)) a0_0 a0_1 a0_2 l0_3 l0_4 a1_0 a1_1 a1_2 l1_3 l1_4) else (some false)) = some r := H
                  have A33 := Aside0.mk A330
                  clear A330
                  by_cases c34 : t173 = true
                  · subst c34
                    have H1 : (payoffref07_SameExpr.l0 k2 (wrap64 (x6_2 + 1)) a0_0 a0_1 a0_2 l0_3 l0_4 a1_0 a1_1 a1_2 l1_3 l1_4) = some r := by rw [if_pos rfl] at H; exact H
                    clear H
                    have H := H1
                    clear H1
                    have H' := Aside0.mk H
                    clear H
                    have hnb35 := NB168_169.out
                    have hnc35 := NB169_168.out
                    have hcz36_0 : wr.cell? ⟨gb168, 0, none⟩ = some (.int .i64 a0_0) := (blk_cell BK168.out 0).trans rfl
                    have hcz36_1 : wr.cell? ⟨gb168, 1, none⟩ = some (.int .i64 a0_1) := (blk_cell BK168.out 1).trans rfl
                    have hcz36_2 : wr.cell? ⟨gb168, 2, none⟩ = some (.string a0_2) := (blk_cell BK168.out 2).trans rfl
                    have hcz36_3 : wr.cell? ⟨gb168, 3, none⟩ = some (.slice A0_3 l0_3.length c0_3) := (blk_cell BK168.out 3).trans rfl
                    have hcz36_4 : wr.cell? ⟨gb168, 4, none⟩ = some (.slice A0_4 l0_4.length c0_4) := (blk_cell BK168.out 4).trans rfl
                    have hfz36_0 := blk_frozen BK168.out 0
                    have hfz36_1 := blk_frozen BK168.out 1
                    have hfz36_2 := blk_frozen BK168.out 2
                    have hfz36_3 := blk_frozen BK168.out 3
                    have hfz36_4 := blk_frozen BK168.out 4
                    try go_wp2
                    have n0_ := Aside0.mk (blk_drew BK168.out)
                    have n1_ := Aside0.mk (blk_drew BK169.out)
                    have n2_ := Aside0.mk (below_drew1 HB.out)
                    clear BK168
                    clear BK169
                    clear HB
                    have BK168 := n0_
                    have BK169 := n1_
                    have HB := n2_
                    clear n0_ n1_ n2_
                    have p171 : 0 ≤ (x6_2 : Int) := of_decide_eq_true (by first | (with_reducible assumption) | assumption)
                    have q171 : x6_2 < (l0_4.length : Int) := of_decide_eq_true (by first | (with_reducible assumption) | assumption)
                    obtain ⟨ad171, A171_3, c171_3, A171_4, c171_4, e171, hx171_0, hx171_1, hx171_2, hx171_3, hx171_4, hl171_3, hi171_3, hl171_4, hi171_4⟩ := at_T54 HR0_4.out x6_2 p171 q171
                    have hw171_4 := hx171_4
                    have hw171_3 := hx171_3
                    have hw171_2 := hx171_2
                    have hw171_1 := hx171_1
                    have hw171_0 := hx171_0
                    cases e171
                    replace hx171_0 := (HB.out.cell (World.block_lt_of_cell? w _ hx171_0)).trans hx171_0
                    replace hx171_1 := (HB.out.cell (World.block_lt_of_cell? w _ hx171_1)).trans hx171_1
                    replace hx171_2 := (HB.out.cell (World.block_lt_of_cell? w _ hx171_2)).trans hx171_2
                    replace hx171_3 := (HB.out.cell (World.block_lt_of_cell? w _ hx171_3)).trans hx171_3
                    replace hx171_4 := (HB.out.cell (World.block_lt_of_cell? w _ hx171_4)).trans hx171_4
                    have HR171_3 := Aside0.mk hi171_3
                    have HC171_3 := Aside0.mk hl171_3
                    clear hi171_3 hl171_3
                    have HR171_4 := Aside0.mk hi171_4
                    have HC171_4 := Aside0.mk hl171_4
                    clear hi171_4 hl171_4
                    replace p171 := eq_true p171
                    replace q171 := eq_true q171
                    have p172 : 0 ≤ (x6_2 : Int) := of_decide_eq_true (by first | (with_reducible assumption) | assumption)
                    have q172 : x6_2 < (l1_4.length : Int) := of_decide_eq_true (by first | (with_reducible assumption) | assumption)
                    obtain ⟨ad172, A172_3, c172_3, A172_4, c172_4, e172, hx172_0, hx172_1, hx172_2, hx172_3, hx172_4, hl172_3, hi172_3, hl172_4, hi172_4⟩ := at_T54 HR1_4.out x6_2 p172 q172
                    have hw172_4 := hx172_4
                    have hw172_3 := hx172_3
                    have hw172_2 := hx172_2
                    have hw172_1 := hx172_1
                    have hw172_0 := hx172_0
                    cases e172
                    replace hx172_0 := (HB.out.cell (World.block_lt_of_cell? w _ hx172_0)).trans hx172_0
                    replace hx172_1 := (HB.out.cell (World.block_lt_of_cell? w _ hx172_1)).trans hx172_1
                    replace hx172_2 := (HB.out.cell (World.block_lt_of_cell? w _ hx172_2)).trans hx172_2
                    replace hx172_3 := (HB.out.cell (World.block_lt_of_cell? w _ hx172_3)).trans hx172_3
                    replace hx172_4 := (HB.out.cell (World.block_lt_of_cell? w _ hx172_4)).trans hx172_4
                    have HR172_3 := Aside0.mk hi172_3
                    have HC172_3 := Aside0.mk hl172_3
                    clear hi172_3 hl172_3
                    have HR172_4 := Aside0.mk hi172_4
                    have HC172_4 := Aside0.mk hl172_4
                    clear hi172_4 hl172_4
                    replace p172 := eq_true p172
                    replace q172 := eq_true q172
                    refine start_ (n := 12) (S := fun w' => w'.cell? ⟨gb168, 0, none⟩ = some (.int .i64 a0_0) ∧ w'.cell? ⟨gb168, 1, none⟩ = some (.int .i64 a0_1) ∧ w'.cell? ⟨gb168, 2, none⟩ = some (.string a0_2) ∧ w'.cell? ⟨gb168, 3, none⟩ = some (.slice A0_3 l0_3.length c0_3) ∧ w'.cell? ⟨gb168, 4, none⟩ = some (.slice (some ad171) l0_4.length c0_4) ∧ w'.cell? ⟨gb169, 0, none⟩ = some (.int .i64 a1_0) ∧ w'.cell? ⟨gb169, 1, none⟩ = some (.int .i64 a1_1) ∧ w'.cell? ⟨gb169, 2, none⟩ = some (.string a1_2) ∧ w'.cell? ⟨gb169, 3, none⟩ = some (.slice A1_3 l1_3.length c1_3) ∧ w'.cell? ⟨gb169, 4, none⟩ = some (.slice (some ad172) l1_4.length c1_4) ∧ w'.cell? (ad171.add ((x6_2).toNat * 5)) = some (.int .i64 ((rd_T54 l0_4 x6_2).f0)) ∧ w'.cell? ⟨(ad171.add ((x6_2).toNat * 5)).block, (ad171.add ((x6_2).toNat * 5)).off + 1, none⟩ = some (.int .i64 ((rd_T54 l0_4 x6_2).f1)) ∧ w'.cell? ⟨(ad171.add ((x6_2).toNat * 5)).block, (ad171.add ((x6_2).toNat * 5)).off + 2, none⟩ = some (.string ((rd_T54 l0_4 x6_2).f2)) ∧ w'.cell? ⟨(ad171.add ((x6_2).toNat * 5)).block, (ad171.add ((x6_2).toNat * 5)).off + 3, none⟩ = some (.slice A171_3 ((rd_T54 l0_4 x6_2).f3).length c171_3) ∧ w'.cell? ⟨(ad171.add ((x6_2).toNat * 5)).block, (ad171.add ((x6_2).toNat * 5)).off + 4, none⟩ = some (.slice A171_4 ((rd_T54 l0_4 x6_2).f4).length c171_4) ∧ w'.cell? (ad172.add ((x6_2).toNat * 5)) = some (.int .i64 ((rd_T54 l1_4 x6_2).f0)) ∧ w'.cell? ⟨(ad172.add ((x6_2).toNat * 5)).block, (ad172.add ((x6_2).toNat * 5)).off + 1, none⟩ = some (.int .i64 ((rd_T54 l1_4 x6_2).f1)) ∧ w'.cell? ⟨(ad172.add ((x6_2).toNat * 5)).block, (ad172.add ((x6_2).toNat * 5)).off + 2, none⟩ = some (.string ((rd_T54 l1_4 x6_2).f2)) ∧ w'.cell? ⟨(ad172.add ((x6_2).toNat * 5)).block, (ad172.add ((x6_2).toNat * 5)).off + 3, none⟩ = some (.slice A172_3 ((rd_T54 l1_4 x6_2).f3).length c172_3) ∧ w'.cell? ⟨(ad172.add ((x6_2).toNat * 5)).block, (ad172.add ((x6_2).toNat * 5)).off + 4, none⟩ = some (.slice A172_4 ((rd_T54 l1_4 x6_2).f4).length c172_4)) (ds := []) #[false, false, false, false, false, false, false, false, false, false, false, false] (by kernel_rfl) rfl rfl ⟨(blk_cell BK168.out 0).trans rfl, (blk_cell BK168.out 1).trans rfl, (blk_cell BK168.out 2).trans rfl, (blk_cell BK168.out 3).trans rfl, (blk_cell BK168.out 4).trans rfl, (blk_cell BK169.out 0).trans rfl, (blk_cell BK169.out 1).trans rfl, (blk_cell BK169.out 2).trans rfl, (blk_cell BK169.out 3).trans rfl, (blk_cell BK169.out 4).trans rfl, ((HB.out.cell (World.block_lt_of_cell? w _ hw171_0)).trans hw171_0), ((HB.out.cell (World.block_lt_of_cell? w _ hw171_1)).trans hw171_1), ((HB.out.cell (World.block_lt_of_cell? w _ hw171_2)).trans hw171_2), ((HB.out.cell (World.block_lt_of_cell? w _ hw171_3)).trans hw171_3), ((HB.out.cell (World.block_lt_of_cell? w _ hw171_4)).trans hw171_4), ((HB.out.cell (World.block_lt_of_cell? w _ hw172_0)).trans hw172_0), ((HB.out.cell (World.block_lt_of_cell? w _ hw172_1)).trans hw172_1), ((HB.out.cell (World.block_lt_of_cell? w _ hw172_2)).trans hw172_2), ((HB.out.cell (World.block_lt_of_cell? w _ hw172_3)).trans hw172_3), ((HB.out.cell (World.block_lt_of_cell? w _ hw172_4)).trans hw172_4)⟩ (fun hHeld => ?_); refine with_tabW payoffref07_SameExpr.tab7 payoffref07_SameExpr.bits7 (fun HT_ HW_ => ?_)
                    generalize wr.drew = w37 at BK168 BK169 HB HR171_3 HR171_4 HR172_3 HR172_4 hx171_0 hx171_1 hx171_2 hx171_3 hx171_4 hx172_0 hx172_1 hx172_2 hx172_3 hx172_4 hHeld ⊢
                    refine pure_ (i := 0) (N := some 52) (v := ?_) (a' := ?_) #[true, false, false, false, false, false, false, false, false, false, false, false] rfl rfl (any_of HT_.out (by kernel_rfl)) (fun _ _ _ h => h) (Or.inl ⟨by rfl, ?_⟩) ?_ ?_
                    rotate_left
                    · intro w'
                      go_simp
                      with_reducible rfl
                    rotate_left
                    · simp only [Act.put, List.setIfInBounds_toArray, List.set_cons_zero, List.set_cons_succ, i64_w, i32_w]
                      rfl
                    refine pure_ (i := 2) (N := some 54) (v := ?_) (a' := ?_) #[true, false, true, false, false, false, false, false, false, false, false, false] rfl rfl (any_of HT_.out (by kernel_rfl)) (fun _ _ _ h => h) (Or.inl ⟨by rfl, ?_⟩) ?_ ?_
                    rotate_left
                    · intro w'
                      go_simp
                      with_reducible rfl
                    rotate_left
                    · simp only [Act.put, List.setIfInBounds_toArray, List.set_cons_zero, List.set_cons_succ, i64_w, i32_w]
                      rfl
                    refine pure_ (i := 5) (N := some 57) (v := ?_) (a' := ?_) #[true, false, true, false, false, true, false, false, false, false, false, false] rfl rfl (any_of HT_.out (by kernel_rfl)) (fun _ _ _ h => h) (Or.inl ⟨by rfl, ?_⟩) ?_ ?_
                    rotate_left
                    · intro w'
                      go_simp
                      with_reducible rfl
                    rotate_left
                    · simp only [Act.put, List.setIfInBounds_toArray, List.set_cons_zero, List.set_cons_succ, i64_w, i32_w]
                      rfl
                    refine pure_ (i := 7) (N := some 59) (v := ?_) (a' := ?_) #[true, false, true, false, false, true, false, true, false, false, false, false] rfl rfl (any_of HT_.out (by kernel_rfl)) (fun _ _ _ h => h) (Or.inl ⟨by rfl, ?_⟩) ?_ ?_
                    rotate_left
                    · intro w'
                      go_simp
                      with_reducible rfl
                    rotate_left
                    · simp only [Act.put, List.setIfInBounds_toArray, List.set_cons_zero, List.set_cons_succ, i64_w, i32_w]
                      rfl
                    refine take_ (i := 1) (N := some 53) (v := ?_) (a' := ?_) #[true, true, true, false, false, true, false, true, false, false, false, false] rfl rfl (take_ofW HT_.out HW_.out (by kernel_rfl)) (fun _ _ _ h => h) (Or.inl ⟨by rfl, ?_⟩) hHeld ?_ ?_
                    rotate_left
                    · rintro w' ⟨s0, s1, s2, s3, s4, s5, s6, s7, s8, s9, s10, s11, s12, s13, s14, s15, s16, s17, s18, s19⟩
                      go_simp
                      with_reducible rfl
                    rotate_left
                    · simp only [Act.put, List.setIfInBounds_toArray, List.set_cons_zero, List.set_cons_succ, i64_w, i32_w]
                      rfl
                    refine pure_ (i := 3) (N := some 55) (v := ?_) (a' := ?_) #[true, true, true, true, false, true, false, true, false, false, false, false] rfl rfl (any_of HT_.out (by kernel_rfl)) (fun _ _ _ h => h) (Or.inl ⟨by rfl, ?_⟩) ?_ ?_
                    rotate_left
                    · intro w'
                      go_simp
                      with_reducible rfl
                    rotate_left
                    · simp only [Act.put, List.setIfInBounds_toArray, List.set_cons_zero, List.set_cons_succ, i64_w, i32_w]
                      rfl
                    refine take_ (i := 4) (N := some 56) (v := ?_) (a' := ?_) #[true, true, true, true, true, true, false, true, false, false, false, false] rfl rfl (take_ofW HT_.out HW_.out (by kernel_rfl)) (fun _ _ _ h => h) (Or.inl ⟨by rfl, ?_⟩) hHeld ?_ ?_
                    rotate_left
                    · rintro w' ⟨s0, s1, s2, s3, s4, s5, s6, s7, s8, s9, s10, s11, s12, s13, s14, s15, s16, s17, s18, s19⟩
                      go_simp
                      with_reducible rfl
                    rotate_left
                    · simp only [Act.put, List.setIfInBounds_toArray, List.set_cons_zero, List.set_cons_succ, i64_w, i32_w]
                      rfl
                    refine take_ (i := 6) (N := some 58) (v := ?_) (a' := ?_) #[true, true, true, true, true, true, true, true, false, false, false, false] rfl rfl (take_ofW HT_.out HW_.out (by kernel_rfl)) (fun _ _ _ h => h) (Or.inl ⟨by rfl, ?_⟩) hHeld ?_ ?_
                    rotate_left
                    · rintro w' ⟨s0, s1, s2, s3, s4, s5, s6, s7, s8, s9, s10, s11, s12, s13, s14, s15, s16, s17, s18, s19⟩
                      go_simp
                      with_reducible rfl
                    rotate_left
                    · simp only [Act.put, List.setIfInBounds_toArray, List.set_cons_zero, List.set_cons_succ, i64_w, i32_w]
                      rfl
                    refine pure_ (i := 8) (N := some 60) (v := ?_) (a' := ?_) #[true, true, true, true, true, true, true, true, true, false, false, false] rfl rfl (any_of HT_.out (by kernel_rfl)) (fun _ _ _ h => h) (Or.inl ⟨by rfl, ?_⟩) ?_ ?_
                    rotate_left
                    · intro w'
                      go_simp
                      with_reducible rfl
                    rotate_left
                    · simp only [Act.put, List.setIfInBounds_toArray, List.set_cons_zero, List.set_cons_succ, i64_w, i32_w]
                      rfl
                    refine take_ (i := 9) (N := some 61) (v := ?_) (a' := ?_) #[true, true, true, true, true, true, true, true, true, true, false, false] rfl rfl (take_ofW HT_.out HW_.out (by kernel_rfl)) (fun _ _ _ h => h) (Or.inl ⟨by rfl, ?_⟩) hHeld ?_ ?_
                    rotate_left
                    · rintro w' ⟨s0, s1, s2, s3, s4, s5, s6, s7, s8, s9, s10, s11, s12, s13, s14, s15, s16, s17, s18, s19⟩
                      go_simp
                      with_reducible rfl
                    rotate_left
                    · simp only [Act.put, List.setIfInBounds_toArray, List.set_cons_zero, List.set_cons_succ, i64_w, i32_w]
                      rfl
                    refine one_ (i := 10) (N := some 62) #[true, true, true, true, true, true, true, true, true, true, true, false] rfl rfl (one_of HT_.out (by kernel_rfl)) (by decide) (fun K hK => ?_)
                    refine goes_ Try.func29 (by kernel_rfl) rfl #[.agg #[.int .i64 ((rd_T54 l0_4 x6_2).f0), .int .i64 ((rd_T54 l0_4 x6_2).f1), .string ((rd_T54 l0_4 x6_2).f2), .slice A171_3 ((rd_T54 l0_4 x6_2).f3).length c171_3, .slice A171_4 ((rd_T54 l0_4 x6_2).f4).length c171_4], .agg #[.int .i64 ((rd_T54 l1_4 x6_2).f0), .int .i64 ((rd_T54 l1_4 x6_2).f1), .string ((rd_T54 l1_4 x6_2).f2), .slice A172_3 ((rd_T54 l1_4 x6_2).f3).length c172_3, .slice A172_4 ((rd_T54 l1_4 x6_2).f4).length c172_4]] (by rfl) rfl rfl (by (try simp only [List.map_toArray, List.map_cons, List.map_nil]); first | done | rfl | (simp only [List.length_drop, List.length_take]; rfl)) ?_
                    with_reducible refine (ih k2 (by have := HJ3.out; have := HK2.out; omega) ((rd_T54 l0_4 x6_2).f0) ((rd_T54 l0_4 x6_2).f1) ((rd_T54 l0_4 x6_2).f2) _ _ ((rd_T54 l0_4 x6_2).f3) _ _ ((rd_T54 l0_4 x6_2).f4) ((rd_T54 l1_4 x6_2).f0) ((rd_T54 l1_4 x6_2).f1) ((rd_T54 l1_4 x6_2).f2) _ _ ((rd_T54 l1_4 x6_2).f3) _ _ ((rd_T54 l1_4 x6_2).f4) true _ ?side1 ?side2 ?side3 ?side4 ?side5 ?side6 ?side7 ?side8 A33.out).mono ?_
                    (case side1 => repeat (first | exact (Kd.C_below HR171_3.out HB.out) | (with_reducible refine Kd.C_alloc ?_ _) | (with_reducible refine Kd.C_drewN ?_ _) | (with_reducible refine Kd.C_drew ?_)))
                    (case side2 => exact HC171_3.out)
                    (case side3 => repeat (first | exact (Kd.C_below HR171_4.out HB.out) | (with_reducible refine Kd.C_alloc ?_ _) | (with_reducible refine Kd.C_drewN ?_ _) | (with_reducible refine Kd.C_drew ?_)))
                    (case side4 => exact HC171_4.out)
                    (case side5 => repeat (first | exact (Kd.C_below HR172_3.out HB.out) | (with_reducible refine Kd.C_alloc ?_ _) | (with_reducible refine Kd.C_drewN ?_ _) | (with_reducible refine Kd.C_drew ?_)))
                    (case side6 => exact HC172_3.out)
                    (case side7 => repeat (first | exact (Kd.C_below HR172_4.out HB.out) | (with_reducible refine Kd.C_alloc ?_ _) | (with_reducible refine Kd.C_drewN ?_ _) | (with_reducible refine Kd.C_drew ?_)))
                    (case side8 => exact HC172_4.out)
                    rintro e w38 ⟨rfl, hb⟩
                    refine ⟨_, rfl, ?_⟩
                    have n0_ := Aside0.mk (blk_below (g := gb168) (o := .cells #[.int .i64 a0_0, .int .i64 a0_1, .string a0_2, .slice A0_3 l0_3.length c0_3, .slice (some ad171) l0_4.length c0_4] 54 (0, 0)) (by (with_reducible repeat (first | refine blk_drewN ?_ _ | refine blk_drew ?_ | refine blk_alloc ?_ _)); exact BK168.out) hb)
                    have n1_ := Aside0.mk (blk_below (g := gb169) (o := .cells #[.int .i64 a1_0, .int .i64 a1_1, .string a1_2, .slice A1_3 l1_3.length c1_3, .slice (some ad172) l1_4.length c1_4] 54 (0, 0)) (by (with_reducible repeat (first | refine blk_drewN ?_ _ | refine blk_drew ?_ | refine blk_alloc ?_ _)); exact BK169.out) hb)
                    have n2_ := Aside0.mk (below_step (by repeat (first | (with_reducible first | exact HB.out | apply below_alloc | apply pw_below_drewN | apply below_drew1 | refine below_set ?_ GE168.out | refine below_set ?_ GE169.out) | exact HB.out)) hb)
                    clear BK168
                    clear BK169
                    clear HB
                    have BK168 := n0_
                    have BK169 := n1_
                    have HB := n2_
                    clear n0_ n1_ n2_
                    (try clear hb)
                    (try clear hb2)
                    (try clear hk)
                    (try clear hi)
                    refine hK.out _ _ ⟨(blk_cell BK168.out 0).trans rfl, (blk_cell BK168.out 1).trans rfl, (blk_cell BK168.out 2).trans rfl, (blk_cell BK168.out 3).trans rfl, (blk_cell BK168.out 4).trans rfl, (blk_cell BK169.out 0).trans rfl, (blk_cell BK169.out 1).trans rfl, (blk_cell BK169.out 2).trans rfl, (blk_cell BK169.out 3).trans rfl, (blk_cell BK169.out 4).trans rfl, ((HB.out.cell (World.block_lt_of_cell? w _ hw171_0)).trans hw171_0), ((HB.out.cell (World.block_lt_of_cell? w _ hw171_1)).trans hw171_1), ((HB.out.cell (World.block_lt_of_cell? w _ hw171_2)).trans hw171_2), ((HB.out.cell (World.block_lt_of_cell? w _ hw171_3)).trans hw171_3), ((HB.out.cell (World.block_lt_of_cell? w _ hw171_4)).trans hw171_4), ((HB.out.cell (World.block_lt_of_cell? w _ hw172_0)).trans hw172_0), ((HB.out.cell (World.block_lt_of_cell? w _ hw172_1)).trans hw172_1), ((HB.out.cell (World.block_lt_of_cell? w _ hw172_2)).trans hw172_2), ((HB.out.cell (World.block_lt_of_cell? w _ hw172_3)).trans hw172_3), ((HB.out.cell (World.block_lt_of_cell? w _ hw172_4)).trans hw172_4)⟩ (fun hHeld => ?_)
                    clear hK K
                    refine norm_ (a' := ?_) ?_ ?_
                    rotate_left
                    · show Act.put _ (some 62) _ = _
                      simp only [Act.put, List.setIfInBounds_toArray, List.set_cons_zero, List.set_cons_succ, i64_w, i32_w]
                      rfl
                    refine pure_ (i := 11) (N := some 7) (v := ?_) (a' := ?_) #[true, true, true, true, true, true, true, true, true, true, true, true] rfl rfl (any_of HT_.out (by kernel_rfl)) (fun _ _ _ h => h) (Or.inl ⟨by rfl, ?_⟩) ?_ ?_
                    rotate_left
                    · intro w'
                      go_simp
                      with_reducible rfl
                    rotate_left
                    · simp only [Act.put, List.setIfInBounds_toArray, List.set_cons_zero, List.set_cons_succ, i64_w, i32_w]
                      rfl
                    refine done_ (done_of HT_.out (by kernel_rfl)) ?_
                    try go_wp2
                    go_roundg k2
                    case measure => have := HJ3.out; have := HK2.out; omega
                    case rel => exact ⟨(wrap64 (x6_2 + 1)), (by first | rfl | (simp; done) | (simp [*]; done)), H', ⟨by have := HJ3.out; have := HK2.out; omega⟩, ⟨by (with_reducible repeat (first | refine blk_drewN ?_ _ | refine blk_drew ?_ | refine blk_alloc ?_ _)); exact BK168.out⟩, ⟨by (with_reducible repeat (first | refine blk_drewN ?_ _ | refine blk_drew ?_ | refine blk_alloc ?_ _)); exact BK169.out⟩, ⟨by repeat (first | (with_reducible first | exact HB.out | apply below_alloc | apply pw_below_drewN | apply below_drew1 | refine below_set ?_ GE168.out | refine below_set ?_ GE169.out) | exact HB.out)⟩⟩
                  · replace c34 := Bool.eq_false_iff.mpr c34
                    subst c34
                    have H1 : (some false) = some r := by rw [if_neg (show ¬ (false = true) by decide)] at H; exact H
                    clear H
                    have H := H1
                    clear H1
                    obtain rfl := Option.some.inj H
                    have hnb39 := NB168_169.out
                    have hnc39 := NB169_168.out
                    have hcz40_0 : wr.cell? ⟨gb168, 0, none⟩ = some (.int .i64 a0_0) := (blk_cell BK168.out 0).trans rfl
                    have hcz40_1 : wr.cell? ⟨gb168, 1, none⟩ = some (.int .i64 a0_1) := (blk_cell BK168.out 1).trans rfl
                    have hcz40_2 : wr.cell? ⟨gb168, 2, none⟩ = some (.string a0_2) := (blk_cell BK168.out 2).trans rfl
                    have hcz40_3 : wr.cell? ⟨gb168, 3, none⟩ = some (.slice A0_3 l0_3.length c0_3) := (blk_cell BK168.out 3).trans rfl
                    have hcz40_4 : wr.cell? ⟨gb168, 4, none⟩ = some (.slice A0_4 l0_4.length c0_4) := (blk_cell BK168.out 4).trans rfl
                    have hfz40_0 := blk_frozen BK168.out 0
                    have hfz40_1 := blk_frozen BK168.out 1
                    have hfz40_2 := blk_frozen BK168.out 2
                    have hfz40_3 := blk_frozen BK168.out 3
                    have hfz40_4 := blk_frozen BK168.out 4
                    try go_wp2
                    have n0_ := Aside0.mk (blk_drew BK168.out)
                    have n1_ := Aside0.mk (blk_drew BK169.out)
                    have n2_ := Aside0.mk (below_drew1 HB.out)
                    clear BK168
                    clear BK169
                    clear HB
                    have BK168 := n0_
                    have BK169 := n1_
                    have HB := n2_
                    clear n0_ n1_ n2_
                    have p171 : 0 ≤ (x6_2 : Int) := of_decide_eq_true (by first | (with_reducible assumption) | assumption)
                    have q171 : x6_2 < (l0_4.length : Int) := of_decide_eq_true (by first | (with_reducible assumption) | assumption)
                    obtain ⟨ad171, A171_3, c171_3, A171_4, c171_4, e171, hx171_0, hx171_1, hx171_2, hx171_3, hx171_4, hl171_3, hi171_3, hl171_4, hi171_4⟩ := at_T54 HR0_4.out x6_2 p171 q171
                    have hw171_4 := hx171_4
                    have hw171_3 := hx171_3
                    have hw171_2 := hx171_2
                    have hw171_1 := hx171_1
                    have hw171_0 := hx171_0
                    cases e171
                    replace hx171_0 := (HB.out.cell (World.block_lt_of_cell? w _ hx171_0)).trans hx171_0
                    replace hx171_1 := (HB.out.cell (World.block_lt_of_cell? w _ hx171_1)).trans hx171_1
                    replace hx171_2 := (HB.out.cell (World.block_lt_of_cell? w _ hx171_2)).trans hx171_2
                    replace hx171_3 := (HB.out.cell (World.block_lt_of_cell? w _ hx171_3)).trans hx171_3
                    replace hx171_4 := (HB.out.cell (World.block_lt_of_cell? w _ hx171_4)).trans hx171_4
                    have HR171_3 := Aside0.mk hi171_3
                    have HC171_3 := Aside0.mk hl171_3
                    clear hi171_3 hl171_3
                    have HR171_4 := Aside0.mk hi171_4
                    have HC171_4 := Aside0.mk hl171_4
                    clear hi171_4 hl171_4
                    replace p171 := eq_true p171
                    replace q171 := eq_true q171
                    have p172 : 0 ≤ (x6_2 : Int) := of_decide_eq_true (by first | (with_reducible assumption) | assumption)
                    have q172 : x6_2 < (l1_4.length : Int) := of_decide_eq_true (by first | (with_reducible assumption) | assumption)
                    obtain ⟨ad172, A172_3, c172_3, A172_4, c172_4, e172, hx172_0, hx172_1, hx172_2, hx172_3, hx172_4, hl172_3, hi172_3, hl172_4, hi172_4⟩ := at_T54 HR1_4.out x6_2 p172 q172
                    have hw172_4 := hx172_4
                    have hw172_3 := hx172_3
                    have hw172_2 := hx172_2
                    have hw172_1 := hx172_1
                    have hw172_0 := hx172_0
                    cases e172
                    replace hx172_0 := (HB.out.cell (World.block_lt_of_cell? w _ hx172_0)).trans hx172_0
                    replace hx172_1 := (HB.out.cell (World.block_lt_of_cell? w _ hx172_1)).trans hx172_1
                    replace hx172_2 := (HB.out.cell (World.block_lt_of_cell? w _ hx172_2)).trans hx172_2
                    replace hx172_3 := (HB.out.cell (World.block_lt_of_cell? w _ hx172_3)).trans hx172_3
                    replace hx172_4 := (HB.out.cell (World.block_lt_of_cell? w _ hx172_4)).trans hx172_4
                    have HR172_3 := Aside0.mk hi172_3
                    have HC172_3 := Aside0.mk hl172_3
                    clear hi172_3 hl172_3
                    have HR172_4 := Aside0.mk hi172_4
                    have HC172_4 := Aside0.mk hl172_4
                    clear hi172_4 hl172_4
                    replace p172 := eq_true p172
                    replace q172 := eq_true q172
                    refine start_ (n := 12) (S := fun w' => w'.cell? ⟨gb168, 0, none⟩ = some (.int .i64 a0_0) ∧ w'.cell? ⟨gb168, 1, none⟩ = some (.int .i64 a0_1) ∧ w'.cell? ⟨gb168, 2, none⟩ = some (.string a0_2) ∧ w'.cell? ⟨gb168, 3, none⟩ = some (.slice A0_3 l0_3.length c0_3) ∧ w'.cell? ⟨gb168, 4, none⟩ = some (.slice (some ad171) l0_4.length c0_4) ∧ w'.cell? ⟨gb169, 0, none⟩ = some (.int .i64 a1_0) ∧ w'.cell? ⟨gb169, 1, none⟩ = some (.int .i64 a1_1) ∧ w'.cell? ⟨gb169, 2, none⟩ = some (.string a1_2) ∧ w'.cell? ⟨gb169, 3, none⟩ = some (.slice A1_3 l1_3.length c1_3) ∧ w'.cell? ⟨gb169, 4, none⟩ = some (.slice (some ad172) l1_4.length c1_4) ∧ w'.cell? (ad171.add ((x6_2).toNat * 5)) = some (.int .i64 ((rd_T54 l0_4 x6_2).f0)) ∧ w'.cell? ⟨(ad171.add ((x6_2).toNat * 5)).block, (ad171.add ((x6_2).toNat * 5)).off + 1, none⟩ = some (.int .i64 ((rd_T54 l0_4 x6_2).f1)) ∧ w'.cell? ⟨(ad171.add ((x6_2).toNat * 5)).block, (ad171.add ((x6_2).toNat * 5)).off + 2, none⟩ = some (.string ((rd_T54 l0_4 x6_2).f2)) ∧ w'.cell? ⟨(ad171.add ((x6_2).toNat * 5)).block, (ad171.add ((x6_2).toNat * 5)).off + 3, none⟩ = some (.slice A171_3 ((rd_T54 l0_4 x6_2).f3).length c171_3) ∧ w'.cell? ⟨(ad171.add ((x6_2).toNat * 5)).block, (ad171.add ((x6_2).toNat * 5)).off + 4, none⟩ = some (.slice A171_4 ((rd_T54 l0_4 x6_2).f4).length c171_4) ∧ w'.cell? (ad172.add ((x6_2).toNat * 5)) = some (.int .i64 ((rd_T54 l1_4 x6_2).f0)) ∧ w'.cell? ⟨(ad172.add ((x6_2).toNat * 5)).block, (ad172.add ((x6_2).toNat * 5)).off + 1, none⟩ = some (.int .i64 ((rd_T54 l1_4 x6_2).f1)) ∧ w'.cell? ⟨(ad172.add ((x6_2).toNat * 5)).block, (ad172.add ((x6_2).toNat * 5)).off + 2, none⟩ = some (.string ((rd_T54 l1_4 x6_2).f2)) ∧ w'.cell? ⟨(ad172.add ((x6_2).toNat * 5)).block, (ad172.add ((x6_2).toNat * 5)).off + 3, none⟩ = some (.slice A172_3 ((rd_T54 l1_4 x6_2).f3).length c172_3) ∧ w'.cell? ⟨(ad172.add ((x6_2).toNat * 5)).block, (ad172.add ((x6_2).toNat * 5)).off + 4, none⟩ = some (.slice A172_4 ((rd_T54 l1_4 x6_2).f4).length c172_4)) (ds := []) #[false, false, false, false, false, false, false, false, false, false, false, false] (by kernel_rfl) rfl rfl ⟨(blk_cell BK168.out 0).trans rfl, (blk_cell BK168.out 1).trans rfl, (blk_cell BK168.out 2).trans rfl, (blk_cell BK168.out 3).trans rfl, (blk_cell BK168.out 4).trans rfl, (blk_cell BK169.out 0).trans rfl, (blk_cell BK169.out 1).trans rfl, (blk_cell BK169.out 2).trans rfl, (blk_cell BK169.out 3).trans rfl, (blk_cell BK169.out 4).trans rfl, ((HB.out.cell (World.block_lt_of_cell? w _ hw171_0)).trans hw171_0), ((HB.out.cell (World.block_lt_of_cell? w _ hw171_1)).trans hw171_1), ((HB.out.cell (World.block_lt_of_cell? w _ hw171_2)).trans hw171_2), ((HB.out.cell (World.block_lt_of_cell? w _ hw171_3)).trans hw171_3), ((HB.out.cell (World.block_lt_of_cell? w _ hw171_4)).trans hw171_4), ((HB.out.cell (World.block_lt_of_cell? w _ hw172_0)).trans hw172_0), ((HB.out.cell (World.block_lt_of_cell? w _ hw172_1)).trans hw172_1), ((HB.out.cell (World.block_lt_of_cell? w _ hw172_2)).trans hw172_2), ((HB.out.cell (World.block_lt_of_cell? w _ hw172_3)).trans hw172_3), ((HB.out.cell (World.block_lt_of_cell? w _ hw172_4)).trans hw172_4)⟩ (fun hHeld => ?_); refine with_tabW payoffref07_SameExpr.tab7 payoffref07_SameExpr.bits7 (fun HT_ HW_ => ?_)
                    generalize wr.drew = w41 at BK168 BK169 HB HR171_3 HR171_4 HR172_3 HR172_4 hx171_0 hx171_1 hx171_2 hx171_3 hx171_4 hx172_0 hx172_1 hx172_2 hx172_3 hx172_4 hHeld ⊢
                    refine pure_ (i := 0) (N := some 52) (v := ?_) (a' := ?_) #[true, false, false, false, false, false, false, false, false, false, false, false] rfl rfl (any_of HT_.out (by kernel_rfl)) (fun _ _ _ h => h) (Or.inl ⟨by rfl, ?_⟩) ?_ ?_
                    rotate_left
                    · intro w'
                      go_simp
                      with_reducible rfl
                    rotate_left
                    · simp only [Act.put, List.setIfInBounds_toArray, List.set_cons_zero, List.set_cons_succ, i64_w, i32_w]
                      rfl
                    refine pure_ (i := 2) (N := some 54) (v := ?_) (a' := ?_) #[true, false, true, false, false, false, false, false, false, false, false, false] rfl rfl (any_of HT_.out (by kernel_rfl)) (fun _ _ _ h => h) (Or.inl ⟨by rfl, ?_⟩) ?_ ?_
                    rotate_left
                    · intro w'
                      go_simp
                      with_reducible rfl
                    rotate_left
                    · simp only [Act.put, List.setIfInBounds_toArray, List.set_cons_zero, List.set_cons_succ, i64_w, i32_w]
                      rfl
                    refine pure_ (i := 5) (N := some 57) (v := ?_) (a' := ?_) #[true, false, true, false, false, true, false, false, false, false, false, false] rfl rfl (any_of HT_.out (by kernel_rfl)) (fun _ _ _ h => h) (Or.inl ⟨by rfl, ?_⟩) ?_ ?_
                    rotate_left
                    · intro w'
                      go_simp
                      with_reducible rfl
                    rotate_left
                    · simp only [Act.put, List.setIfInBounds_toArray, List.set_cons_zero, List.set_cons_succ, i64_w, i32_w]
                      rfl
                    refine pure_ (i := 7) (N := some 59) (v := ?_) (a' := ?_) #[true, false, true, false, false, true, false, true, false, false, false, false] rfl rfl (any_of HT_.out (by kernel_rfl)) (fun _ _ _ h => h) (Or.inl ⟨by rfl, ?_⟩) ?_ ?_
                    rotate_left
                    · intro w'
                      go_simp
                      with_reducible rfl
                    rotate_left
                    · simp only [Act.put, List.setIfInBounds_toArray, List.set_cons_zero, List.set_cons_succ, i64_w, i32_w]
                      rfl
                    refine take_ (i := 1) (N := some 53) (v := ?_) (a' := ?_) #[true, true, true, false, false, true, false, true, false, false, false, false] rfl rfl (take_ofW HT_.out HW_.out (by kernel_rfl)) (fun _ _ _ h => h) (Or.inl ⟨by rfl, ?_⟩) hHeld ?_ ?_
                    rotate_left
                    · rintro w' ⟨s0, s1, s2, s3, s4, s5, s6, s7, s8, s9, s10, s11, s12, s13, s14, s15, s16, s17, s18, s19⟩
                      go_simp
                      with_reducible rfl
                    rotate_left
                    · simp only [Act.put, List.setIfInBounds_toArray, List.set_cons_zero, List.set_cons_succ, i64_w, i32_w]
                      rfl
                    refine pure_ (i := 3) (N := some 55) (v := ?_) (a' := ?_) #[true, true, true, true, false, true, false, true, false, false, false, false] rfl rfl (any_of HT_.out (by kernel_rfl)) (fun _ _ _ h => h) (Or.inl ⟨by rfl, ?_⟩) ?_ ?_
                    rotate_left
                    · intro w'
                      go_simp
                      with_reducible rfl
                    rotate_left
                    · simp only [Act.put, List.setIfInBounds_toArray, List.set_cons_zero, List.set_cons_succ, i64_w, i32_w]
                      rfl
                    refine take_ (i := 4) (N := some 56) (v := ?_) (a' := ?_) #[true, true, true, true, true, true, false, true, false, false, false, false] rfl rfl (take_ofW HT_.out HW_.out (by kernel_rfl)) (fun _ _ _ h => h) (Or.inl ⟨by rfl, ?_⟩) hHeld ?_ ?_
                    rotate_left
                    · rintro w' ⟨s0, s1, s2, s3, s4, s5, s6, s7, s8, s9, s10, s11, s12, s13, s14, s15, s16, s17, s18, s19⟩
                      go_simp
                      with_reducible rfl
                    rotate_left
                    · simp only [Act.put, List.setIfInBounds_toArray, List.set_cons_zero, List.set_cons_succ, i64_w, i32_w]
                      rfl
                    refine take_ (i := 6) (N := some 58) (v := ?_) (a' := ?_) #[true, true, true, true, true, true, true, true, false, false, false, false] rfl rfl (take_ofW HT_.out HW_.out (by kernel_rfl)) (fun _ _ _ h => h) (Or.inl ⟨by rfl, ?_⟩) hHeld ?_ ?_
                    rotate_left
                    · rintro w' ⟨s0, s1, s2, s3, s4, s5, s6, s7, s8, s9, s10, s11, s12, s13, s14, s15, s16, s17, s18, s19⟩
                      go_simp
                      with_reducible rfl
                    rotate_left
                    · simp only [Act.put, List.setIfInBounds_toArray, List.set_cons_zero, List.set_cons_succ, i64_w, i32_w]
                      rfl
                    refine pure_ (i := 8) (N := some 60) (v := ?_) (a' := ?_) #[true, true, true, true, true, true, true, true, true, false, false, false] rfl rfl (any_of HT_.out (by kernel_rfl)) (fun _ _ _ h => h) (Or.inl ⟨by rfl, ?_⟩) ?_ ?_
                    rotate_left
                    · intro w'
                      go_simp
                      with_reducible rfl
                    rotate_left
                    · simp only [Act.put, List.setIfInBounds_toArray, List.set_cons_zero, List.set_cons_succ, i64_w, i32_w]
                      rfl
                    refine take_ (i := 9) (N := some 61) (v := ?_) (a' := ?_) #[true, true, true, true, true, true, true, true, true, true, false, false] rfl rfl (take_ofW HT_.out HW_.out (by kernel_rfl)) (fun _ _ _ h => h) (Or.inl ⟨by rfl, ?_⟩) hHeld ?_ ?_
                    rotate_left
                    · rintro w' ⟨s0, s1, s2, s3, s4, s5, s6, s7, s8, s9, s10, s11, s12, s13, s14, s15, s16, s17, s18, s19⟩
                      go_simp
                      with_reducible rfl
                    rotate_left
                    · simp only [Act.put, List.setIfInBounds_toArray, List.set_cons_zero, List.set_cons_succ, i64_w, i32_w]
                      rfl
                    refine one_ (i := 10) (N := some 62) #[true, true, true, true, true, true, true, true, true, true, true, false] rfl rfl (one_of HT_.out (by kernel_rfl)) (by decide) (fun K hK => ?_)
                    refine goes_ Try.func29 (by kernel_rfl) rfl #[.agg #[.int .i64 ((rd_T54 l0_4 x6_2).f0), .int .i64 ((rd_T54 l0_4 x6_2).f1), .string ((rd_T54 l0_4 x6_2).f2), .slice A171_3 ((rd_T54 l0_4 x6_2).f3).length c171_3, .slice A171_4 ((rd_T54 l0_4 x6_2).f4).length c171_4], .agg #[.int .i64 ((rd_T54 l1_4 x6_2).f0), .int .i64 ((rd_T54 l1_4 x6_2).f1), .string ((rd_T54 l1_4 x6_2).f2), .slice A172_3 ((rd_T54 l1_4 x6_2).f3).length c172_3, .slice A172_4 ((rd_T54 l1_4 x6_2).f4).length c172_4]] (by rfl) rfl rfl (by (try simp only [List.map_toArray, List.map_cons, List.map_nil]); first | done | rfl | (simp only [List.length_drop, List.length_take]; rfl)) ?_
                    with_reducible refine (ih k2 (by have := HJ3.out; have := HK2.out; omega) ((rd_T54 l0_4 x6_2).f0) ((rd_T54 l0_4 x6_2).f1) ((rd_T54 l0_4 x6_2).f2) _ _ ((rd_T54 l0_4 x6_2).f3) _ _ ((rd_T54 l0_4 x6_2).f4) ((rd_T54 l1_4 x6_2).f0) ((rd_T54 l1_4 x6_2).f1) ((rd_T54 l1_4 x6_2).f2) _ _ ((rd_T54 l1_4 x6_2).f3) _ _ ((rd_T54 l1_4 x6_2).f4) false _ ?side1 ?side2 ?side3 ?side4 ?side5 ?side6 ?side7 ?side8 A33.out).mono ?_
                    (case side1 => repeat (first | exact (Kd.C_below HR171_3.out HB.out) | (with_reducible refine Kd.C_alloc ?_ _) | (with_reducible refine Kd.C_drewN ?_ _) | (with_reducible refine Kd.C_drew ?_)))
                    (case side2 => exact HC171_3.out)
                    (case side3 => repeat (first | exact (Kd.C_below HR171_4.out HB.out) | (with_reducible refine Kd.C_alloc ?_ _) | (with_reducible refine Kd.C_drewN ?_ _) | (with_reducible refine Kd.C_drew ?_)))
                    (case side4 => exact HC171_4.out)
                    (case side5 => repeat (first | exact (Kd.C_below HR172_3.out HB.out) | (with_reducible refine Kd.C_alloc ?_ _) | (with_reducible refine Kd.C_drewN ?_ _) | (with_reducible refine Kd.C_drew ?_)))
                    (case side6 => exact HC172_3.out)
                    (case side7 => repeat (first | exact (Kd.C_below HR172_4.out HB.out) | (with_reducible refine Kd.C_alloc ?_ _) | (with_reducible refine Kd.C_drewN ?_ _) | (with_reducible refine Kd.C_drew ?_)))
                    (case side8 => exact HC172_4.out)
                    rintro e w42 ⟨rfl, hb⟩
                    refine ⟨_, rfl, ?_⟩
                    have n0_ := Aside0.mk (blk_below (g := gb168) (o := .cells #[.int .i64 a0_0, .int .i64 a0_1, .string a0_2, .slice A0_3 l0_3.length c0_3, .slice (some ad171) l0_4.length c0_4] 54 (0, 0)) (by (with_reducible repeat (first | refine blk_drewN ?_ _ | refine blk_drew ?_ | refine blk_alloc ?_ _)); exact BK168.out) hb)
                    have n1_ := Aside0.mk (blk_below (g := gb169) (o := .cells #[.int .i64 a1_0, .int .i64 a1_1, .string a1_2, .slice A1_3 l1_3.length c1_3, .slice (some ad172) l1_4.length c1_4] 54 (0, 0)) (by (with_reducible repeat (first | refine blk_drewN ?_ _ | refine blk_drew ?_ | refine blk_alloc ?_ _)); exact BK169.out) hb)
                    have n2_ := Aside0.mk (below_step (by repeat (first | (with_reducible first | exact HB.out | apply below_alloc | apply pw_below_drewN | apply below_drew1 | refine below_set ?_ GE168.out | refine below_set ?_ GE169.out) | exact HB.out)) hb)
                    clear BK168
                    clear BK169
                    clear HB
                    have BK168 := n0_
                    have BK169 := n1_
                    have HB := n2_
                    clear n0_ n1_ n2_
                    (try clear hb)
                    (try clear hb2)
                    (try clear hk)
                    (try clear hi)
                    refine hK.out _ _ ⟨(blk_cell BK168.out 0).trans rfl, (blk_cell BK168.out 1).trans rfl, (blk_cell BK168.out 2).trans rfl, (blk_cell BK168.out 3).trans rfl, (blk_cell BK168.out 4).trans rfl, (blk_cell BK169.out 0).trans rfl, (blk_cell BK169.out 1).trans rfl, (blk_cell BK169.out 2).trans rfl, (blk_cell BK169.out 3).trans rfl, (blk_cell BK169.out 4).trans rfl, ((HB.out.cell (World.block_lt_of_cell? w _ hw171_0)).trans hw171_0), ((HB.out.cell (World.block_lt_of_cell? w _ hw171_1)).trans hw171_1), ((HB.out.cell (World.block_lt_of_cell? w _ hw171_2)).trans hw171_2), ((HB.out.cell (World.block_lt_of_cell? w _ hw171_3)).trans hw171_3), ((HB.out.cell (World.block_lt_of_cell? w _ hw171_4)).trans hw171_4), ((HB.out.cell (World.block_lt_of_cell? w _ hw172_0)).trans hw172_0), ((HB.out.cell (World.block_lt_of_cell? w _ hw172_1)).trans hw172_1), ((HB.out.cell (World.block_lt_of_cell? w _ hw172_2)).trans hw172_2), ((HB.out.cell (World.block_lt_of_cell? w _ hw172_3)).trans hw172_3), ((HB.out.cell (World.block_lt_of_cell? w _ hw172_4)).trans hw172_4)⟩ (fun hHeld => ?_)
                    clear hK K
                    refine norm_ (a' := ?_) ?_ ?_
                    rotate_left
                    · show Act.put _ (some 62) _ = _
                      simp only [Act.put, List.setIfInBounds_toArray, List.set_cons_zero, List.set_cons_succ, i64_w, i32_w]
                      rfl
                    refine pure_ (i := 11) (N := some 7) (v := ?_) (a' := ?_) #[true, true, true, true, true, true, true, true, true, true, true, true] rfl rfl (any_of HT_.out (by kernel_rfl)) (fun _ _ _ h => h) (Or.inl ⟨by rfl, ?_⟩) ?_ ?_
                    rotate_left
                    · intro w'
                      go_simp
                      with_reducible rfl
                    rotate_left
                    · simp only [Act.put, List.setIfInBounds_toArray, List.set_cons_zero, List.set_cons_succ, i64_w, i32_w]
                      rfl
                    refine done_ (done_of HT_.out (by kernel_rfl)) ?_
                    try go_wp2
                    go_ret
                    exact ⟨by first | rfl | (simp [errW_none, errW_some] <;> rfl) | (simp [*, errW_none, errW_some] <;> rfl), by repeat (first | (with_reducible first | exact HB.out | apply below_alloc | apply pw_below_drewN | apply below_drew1 | refine below_set ?_ GE168.out | refine below_set ?_ GE169.out) | exact HB.out)⟩
                · rw [if_neg c32] at H
                  exact absurd H (by simp)
              · rw [if_neg c31] at H
                exact absurd H (by simp)
            · rw [if_neg c30] at H
              have c30b0 : decide (x6_2 < (l0_4.length : Int)) = false := decide_eq_false c30
              clear c30
              obtain rfl := Option.some.inj H
              have hnb43 := NB168_169.out
              have hnc43 := NB169_168.out
              have hcz44_0 : wr.cell? ⟨gb168, 0, none⟩ = some (.int .i64 a0_0) := (blk_cell BK168.out 0).trans rfl
              have hcz44_1 : wr.cell? ⟨gb168, 1, none⟩ = some (.int .i64 a0_1) := (blk_cell BK168.out 1).trans rfl
              have hcz44_2 : wr.cell? ⟨gb168, 2, none⟩ = some (.string a0_2) := (blk_cell BK168.out 2).trans rfl
              have hcz44_3 : wr.cell? ⟨gb168, 3, none⟩ = some (.slice A0_3 l0_3.length c0_3) := (blk_cell BK168.out 3).trans rfl
              have hcz44_4 : wr.cell? ⟨gb168, 4, none⟩ = some (.slice A0_4 l0_4.length c0_4) := (blk_cell BK168.out 4).trans rfl
              have hfz44_0 := blk_frozen BK168.out 0
              have hfz44_1 := blk_frozen BK168.out 1
              have hfz44_2 := blk_frozen BK168.out 2
              have hfz44_3 := blk_frozen BK168.out 3
              have hfz44_4 := blk_frozen BK168.out 4
              go_wp2
              go_ret
              exact ⟨by first | rfl | (simp [errW_none, errW_some] <;> rfl) | (simp [*, errW_none, errW_some] <;> rfl), by repeat (first | (with_reducible first | exact HB.out | apply below_alloc | apply pw_below_drewN | apply below_drew1 | refine below_set ?_ GE168.out | refine below_set ?_ GE169.out) | exact HB.out)⟩
end Go.Proofs.Ytkfbkjcdngipcaa.PTreeEquals
end
section
namespace Go.Proofs.Ytkfbkjcdngipcaa.PTreeEquals
open Go.RowKit Go.Proofs.YtkfbkjcdngipcaaW.PrintWords Go.Proofs.YtkfbkjcdngipcaaW.PrintLast Go.Proofs.YtkfbkjcdngipcaaW.PrintMore
set_option linter.unusedVariables false
noncomputable def sm {α : Type} (x y : α) : Bool := @decide (x = y) (Classical.propDecidable _)
theorem sm_self {α : Type} (x : α) : sm x x = true := by unfold sm; exact @decide_eq_true _ (Classical.propDecidable _) rfl
theorem sm_true {α : Type} {x y : α} (h : x = y) : sm x y = true := by subst h; exact sm_self x
theorem sm_false {α : Type} {x y : α} (h : ¬ x = y) : sm x y = false := by unfold sm; exact @decide_eq_false _ (Classical.propDecidable _) h
theorem sm_iff {α : Type} {x y : α} : sm x y = true ↔ x = y := ⟨fun h => by unfold sm at h; exact @of_decide_eq_true _ (Classical.propDecidable _) h, sm_true⟩
theorem sm_cons {α : Type} (a b : α) (l m : List α) : sm (a :: l) (b :: m) = (sm a b && sm l m) := by
  by_cases h : a = b
  · subst h
    by_cases h2 : l = m
    · subst h2; simp [sm_self]
    · rw [sm_false (by simpa using h2), sm_false h2]; simp
  · rw [sm_false (by simp [h]), sm_false h]; simp
theorem sm_len {α : Type} {l m : List α} (h : ¬ l.length = m.length) : sm l m = false := sm_false (fun e => h (by rw [e]))
theorem sm_drop {α : Type} (l m : List α) (i : Nat) (h : i < l.length) (h' : i < m.length) : sm (l.drop i) (m.drop i) = (sm l[i] m[i] && sm (l.drop (i + 1)) (m.drop (i + 1))) := by
  rw [List.drop_eq_getElem_cons h, List.drop_eq_getElem_cons h', sm_cons]
theorem sm_end {α : Type} (l m : List α) (i : Nat) (h : l.length ≤ i) (h' : m.length ≤ i) : sm (l.drop i) (m.drop i) = true := by
  rw [List.drop_of_length_le h, List.drop_of_length_le h']; exact sm_self _
theorem rd23_at {l : List S23} {i : Nat} (h : i < l.length) : rd_T23 l (i : Int) = l[i] := by simp [rd_T23, h]
theorem rd9_at {l : List ByteArray} {i : Nat} (h : i < l.length) : rdOf ByteArray.empty l (i : Int) = l[i] := by simp [rdOf, h]
theorem rd54_at {l : List S54} {i : Nat} (h : i < l.length) : rd_T54 l (i : Int) = l[i] := by simp [rd_T54, h]
theorem w64_next (i : Nat) (h : i < 9223372036854775807) : wrap64 ((i : Int) + 1) = ((i + 1 : Nat) : Int) := by unfold wrap64; omega
theorem s23_eq (x y : S23) : (!(x.f0 == y.f0) || (!(x.f1 == y.f1) || (!(x.f2 == y.f2)))) = !(sm x y) := by
  by_cases h : x = y
  · subst h; simp [sm_self]
  · rw [sm_false h]
    obtain ⟨x0, x1, x2⟩ := x
    obtain ⟨y0, y1, y2⟩ := y
    simp only [S23.mk.injEq, not_and] at h
    by_cases h0 : x0 = y0
    · by_cases h1 : x1 = y1
      · simp [h0, h1, h h0 h1]
      · simp [h1]
    · simp [h0]
theorem toList_iff (a b : ByteArray) : a.toList = b.toList ↔ a = b := ⟨fun h => by
  rw [ByteArray.toList_eq, ByteArray.toList_eq] at h
  cases a; cases b
  simp only [ByteArray.mk.injEq]
  exact Array.toList_inj.1 h, fun h => by rw [h]⟩
theorem sameDates_loop (l m : List S23) (hm : l.length = m.length) (hl : l.length ≤ 9223372036854775807) : ∀ (j i : Nat), i + j = l.length → payoffref07_sameDates.l0 (j + 1) l m (i : Int) = some (sm (l.drop i) (m.drop i)) := by
  intro j
  induction j with
  | zero =>
    intro i h
    rw [sm_end l m i (by omega) (by omega)]
    unfold payoffref07_sameDates.l0
    rw [if_neg (by omega)]
  | succ j ih =>
    intro i h
    have h1 : i < l.length := by omega
    unfold payoffref07_sameDates.l0
    rw [if_pos (by omega), if_pos (by omega), if_pos (by omega), rd23_at h1, rd23_at (show i < m.length by omega), s23_eq, w64_next i (by omega), ih (i + 1) (by omega), sm_drop l m i h1 (by omega)]
    cases sm l[i] m[i] <;> simp
theorem sameDates_sm (l m : List S23) (hl : l.length ≤ 9223372036854775807) : ∃ k, payoffref07_sameDates.f k l m = some (sm l m) := by
  by_cases h : l.length = m.length
  · refine ⟨l.length + 1, ?_⟩
    unfold payoffref07_sameDates.f
    rw [if_pos (by omega)]
    exact sameDates_loop l m h hl l.length 0 (by omega)
  · refine ⟨0, ?_⟩
    unfold payoffref07_sameDates.f
    rw [if_neg (by omega), sm_len h]
theorem sameTexts_loop (l m : List ByteArray) (hm : l.length = m.length) (hl : l.length ≤ 9223372036854775807) : ∀ (j i : Nat), i + j = l.length → payoffref07_sameTexts.l0 (j + 1) l m (i : Int) = some (sm (l.drop i) (m.drop i)) := by
  intro j
  induction j with
  | zero =>
    intro i h
    rw [sm_end l m i (by omega) (by omega)]
    unfold payoffref07_sameTexts.l0
    rw [if_neg (by omega)]
  | succ j ih =>
    intro i h
    have h1 : i < l.length := by omega
    unfold payoffref07_sameTexts.l0
    rw [if_pos (by omega), if_pos (by omega), if_pos (by omega), rd9_at h1, rd9_at (show i < m.length by omega), w64_next i (by omega), ih (i + 1) (by omega), sm_drop l m i h1 (by omega)]
    by_cases he : l[i] = m[i]
    · rw [if_pos (by rw [he]), sm_true he]; simp
    · rw [if_neg (fun h => he ((toList_iff _ _).1 h)), sm_false he]; simp
theorem sameTexts_sm (l m : List ByteArray) (hl : l.length ≤ 9223372036854775807) : ∃ k, payoffref07_sameTexts.f k l m = some (sm l m) := by
  by_cases h : l.length = m.length
  · refine ⟨l.length + 1, ?_⟩
    unfold payoffref07_sameTexts.f
    rw [if_pos (by omega)]
    exact sameTexts_loop l m h hl l.length 0 (by omega)
  · refine ⟨0, ?_⟩
    unfold payoffref07_sameTexts.f
    rw [if_neg (by omega), sm_len h]
end Go.Proofs.Ytkfbkjcdngipcaa.PTreeEquals
end
section
namespace Go.Proofs.Ytkfbkjcdngipcaa.PTreeEquals
open Go.RowKit Go.Proofs.YtkfbkjcdngipcaaW.PrintWords Go.Proofs.YtkfbkjcdngipcaaW.PrintLast Go.Proofs.YtkfbkjcdngipcaaW.PrintMore
attribute [local go_sem] max2_int min2_int max_two min_two max_three min_three max_four min_four
set_option linter.unusedVariables false
set_option linter.unusedSimpArgs false
def EqOK {α : Type} (d : Kd α) (f : Nat) (x y : α) : Prop := ∀ (cs ds : List Value) (w : World), d.K w x cs → d.K w y ds → Calls Try.prog f #[.agg cs.toArray, .agg ds.toArray] w fun e w' => e = .returned (.bool (sm x y)) ∧ Below w.heap.size w w'
theorem EqOK.calls {α : Type} {d : Kd α} {f : Nat} {x y : α} (h : EqOK d f x y) (cs ds : List Value) (w : World) (h1 : d.K w x cs) (h2 : d.K w y ds) : Calls Try.prog f #[.agg cs.toArray, .agg ds.toArray] w fun e w' => e = .returned (.bool (sm x y)) ∧ Below w.heap.size w w' := h cs ds w h1 h2
theorem sm_next {α : Type} (z : α) {l m : List α} {i : Int} (h0 : 0 ≤ i) (h1 : i < l.length) (h2 : i < m.length) : sm (l.drop i.toNat) (m.drop i.toNat) = (sm (l.getD i.toNat z) (m.getD i.toNat z) && sm (l.drop (i + 1).toNat) (m.drop (i + 1).toNat)) := by
  rw [sm_drop l m i.toNat (by omega) (by omega), show (i + 1).toNat = i.toNat + 1 by omega]
  simp [List.getD_eq_getElem?_getD, List.getElem?_eq_getElem (show i.toNat < l.length by omega), List.getElem?_eq_getElem (show i.toNat < m.length by omega)]
theorem mem_getD {α : Type} (z : α) {l : List α} {i : Int} (h0 : 0 ≤ i) (h1 : i < l.length) : l.getD i.toNat z ∈ l := by
  rw [List.getD_eq_getElem?_getD, List.getElem?_eq_getElem (show i.toNat < l.length by omega)]
  exact List.getElem_mem _
end Go.Proofs.Ytkfbkjcdngipcaa.PTreeEquals
end
section
namespace Go.Proofs.Ytkfbkjcdngipcaa.PTreeEquals
open Go.RowKit Go.Proofs.YtkfbkjcdngipcaaW.PrintWords Go.Proofs.YtkfbkjcdngipcaaW.PrintLast Go.Proofs.YtkfbkjcdngipcaaW.PrintMore
attribute [local go_sem] max2_int min2_int max_two min_two max_three min_three max_four min_four
set_option linter.unusedVariables false
set_option linter.unusedSimpArgs false
theorem eqlD (x y : S23) (w : World) : (binOp .eql 23 (.agg #[.int .i64 x.f0, .int .i64 x.f1, .int .i64 x.f2]) (.agg #[.int .i64 y.f0, .int .i64 y.f1, .int .i64 y.f2])).run Try.prog w = .ok (.bool (sm x y)) w := by
  have hu23 := Try.underlying23
  by_cases h : x = y
  · subst h
    rw [sm_self]
    go_simp
  · rw [sm_false h]
    obtain ⟨x0, x1, x2⟩ := x
    obtain ⟨y0, y1, y2⟩ := y
    simp only [S23.mk.injEq, not_and] at h
    go_simp
    exact h
theorem neqD (x y : S23) (w : World) : (binOp .neq 23 (.agg #[.int .i64 x.f0, .int .i64 x.f1, .int .i64 x.f2]) (.agg #[.int .i64 y.f0, .int .i64 y.f1, .int .i64 y.f2])).run Try.prog w = .ok (.bool (!sm x y)) w := by
  have hu23 := Try.underlying23
  by_cases h : x = y
  · subst h
    rw [sm_self]
    go_simp
  · rw [sm_false h]
    obtain ⟨x0, x1, x2⟩ := x
    obtain ⟨y0, y1, y2⟩ := y
    simp only [S23.mk.injEq, not_and] at h
    go_simp
    exact h
theorem eqlR (x y : S30) (w : World) : (binOp .eql 30 (.agg #[.int .i64 x.f0, .int .i64 x.f1, .int .i64 x.f2, .int .i64 x.f3, .int .i64 x.f4.f0, .int .i64 x.f4.f1, .int .i64 x.f4.f2, .int .i64 x.f5.f0, .int .i64 x.f5.f1, .int .i64 x.f5.f2, .int .i64 x.f6.f0, .int .i64 x.f6.f1, .int .i64 x.f7]) (.agg #[.int .i64 y.f0, .int .i64 y.f1, .int .i64 y.f2, .int .i64 y.f3, .int .i64 y.f4.f0, .int .i64 y.f4.f1, .int .i64 y.f4.f2, .int .i64 y.f5.f0, .int .i64 y.f5.f1, .int .i64 y.f5.f2, .int .i64 y.f6.f0, .int .i64 y.f6.f1, .int .i64 y.f7])).run Try.prog w = .ok (.bool (sm x y)) w := by
  have hu30 := Try.underlying30
  have hu23 := Try.underlying23
  have hu28 := Try.underlying28
  by_cases h : x = y
  · subst h
    rw [sm_self]
    go_simp
  · rw [sm_false h]
    obtain ⟨x0, x1, x2, x3, ⟨x40, x41, x42⟩, ⟨x50, x51, x52⟩, ⟨x60, x61⟩, x7⟩ := x
    obtain ⟨y0, y1, y2, y3, ⟨y40, y41, y42⟩, ⟨y50, y51, y52⟩, ⟨y60, y61⟩, y7⟩ := y
    simp only [S30.mk.injEq, S23.mk.injEq, S28.mk.injEq, not_and] at h
    go_simp
    intro h0 h1 h2 h3 a b c d e f g i
    exact h h0 h1 h2 h3 ⟨a, b, c⟩ ⟨d, e, f⟩ ⟨g, i⟩
theorem neqR (x y : S30) (w : World) : (binOp .neq 30 (.agg #[.int .i64 x.f0, .int .i64 x.f1, .int .i64 x.f2, .int .i64 x.f3, .int .i64 x.f4.f0, .int .i64 x.f4.f1, .int .i64 x.f4.f2, .int .i64 x.f5.f0, .int .i64 x.f5.f1, .int .i64 x.f5.f2, .int .i64 x.f6.f0, .int .i64 x.f6.f1, .int .i64 x.f7]) (.agg #[.int .i64 y.f0, .int .i64 y.f1, .int .i64 y.f2, .int .i64 y.f3, .int .i64 y.f4.f0, .int .i64 y.f4.f1, .int .i64 y.f4.f2, .int .i64 y.f5.f0, .int .i64 y.f5.f1, .int .i64 y.f5.f2, .int .i64 y.f6.f0, .int .i64 y.f6.f1, .int .i64 y.f7])).run Try.prog w = .ok (.bool (!sm x y)) w := by
  have hu30 := Try.underlying30
  have hu23 := Try.underlying23
  have hu28 := Try.underlying28
  by_cases h : x = y
  · subst h
    rw [sm_self]
    go_simp
  · rw [sm_false h]
    obtain ⟨x0, x1, x2, x3, ⟨x40, x41, x42⟩, ⟨x50, x51, x52⟩, ⟨x60, x61⟩, x7⟩ := x
    obtain ⟨y0, y1, y2, y3, ⟨y40, y41, y42⟩, ⟨y50, y51, y52⟩, ⟨y60, y61⟩, y7⟩ := y
    simp only [S30.mk.injEq, S23.mk.injEq, S28.mk.injEq, not_and] at h
    go_simp
    intro h0 h1 h2 h3 a b c d e f g i
    exact h h0 h1 h2 h3 ⟨a, b, c⟩ ⟨d, e, f⟩ ⟨g, i⟩
theorem size23 : (Try.prog.info? 23).map (fun i => i.size) = some 3 := by kernel_rfl
theorem size30 : (Try.prog.info? 30).map (fun i => i.size) = some 13 := by kernel_rfl
theorem sameDates.calls (A0 : Option Addr) (c0 : Nat) (l0 : List S23) (A1 : Option Addr) (c1 : Nat) (l1 : List S23) (w : World) (hr0 : Kd.C k23 w A0 l0.length l0) (hc0 : l0.length ≤ c0) (hr1 : Kd.C k23 w A1 l1.length l1) (hc1 : l1.length ≤ c1) : Calls Try.prog 27 #[.slice A0 l0.length c0, .slice A1 l1.length c1] w fun e w' => e = .returned (.bool (sm l0 l1)) ∧ Below w.heap.size w w' := by
  obtain ⟨k, h⟩ := sameDates_sm l0 l1 (Kd.C_max hr0)
  exact (payoffref07_sameDates.calls k A0 c0 l0 A1 c1 l1 _ w hr0 hc0 hr1 hc1 h).mono (fun e w' h => ⟨h.1, by first | exact h.2 | (obtain ⟨m, hm⟩ := h.2; rw [hm]; exact pw_below_drewN (Below.refl _ _) m) | exact h.2.below⟩)
theorem sameTexts.calls (A0 : Option Addr) (c0 : Nat) (l0 : List ByteArray) (A1 : Option Addr) (c1 : Nat) (l1 : List ByteArray) (w : World) (hr0 : Kd.C Kd.string w A0 l0.length l0) (hc0 : l0.length ≤ c0) (hr1 : Kd.C Kd.string w A1 l1.length l1) (hc1 : l1.length ≤ c1) : Calls Try.prog 28 #[.slice A0 l0.length c0, .slice A1 l1.length c1] w fun e w' => e = .returned (.bool (sm l0 l1)) ∧ Below w.heap.size w w' := by
  obtain ⟨k, h⟩ := sameTexts_sm l0 l1 (Kd.C_max hr0)
  exact (payoffref07_sameTexts.calls k A0 c0 l0 A1 c1 l1 _ w hr0 hc0 hr1 hc1 h).mono (fun e w' h => ⟨h.1, by first | exact h.2 | (obtain ⟨m, hm⟩ := h.2; rw [hm]; exact pw_below_drewN (Below.refl _ _) m) | exact h.2.below⟩)
theorem S34_ext {x y : S34} (h0 : x.f0 = y.f0) (h1 : x.f1 = y.f1) (h2 : x.f2 = y.f2) (h3 : x.f3 = y.f3) (h4 : x.f4 = y.f4) (h5 : x.f5 = y.f5) (h6 : x.f6 = y.f6) (h7 : x.f7 = y.f7) (h8 : x.f8 = y.f8) : x = y := by cases x; cases y; simp_all
structure S36 where
  f0 : ByteArray
  f1 : S23
  f2 : List S23
  f3 : List ByteArray
  f4 : List S56
  f5 : S34
def k36 : Kd S36 := Kd.iso (Kd.pair Kd.string (Kd.pair k23 (Kd.pair (Kd.slice 23 k23) (Kd.pair (Kd.slice 9 Kd.string) (Kd.pair (Kd.slice 56 k56) k34))))) (fun x : S36 => (x.f0, x.f1, x.f2, x.f3, x.f4, x.f5))
theorem k36_open {w : World} {x : S36} {cs : List Value} (h : k36.K w x cs) : ∃ A2 A2c A3 A3c A4 A4c A7 A7c A8 A8c, cs = [.string x.f0, .int .i64 x.f1.f0, .int .i64 x.f1.f1, .int .i64 x.f1.f2, .slice A2 x.f2.length A2c, .slice A3 x.f3.length A3c, .slice A4 x.f4.length A4c, .int .i64 x.f5.f0, .string x.f5.f1, .string x.f5.f2, .string x.f5.f3, .int .i64 x.f5.f4, .int .i64 x.f5.f5.f0, .int .i64 x.f5.f5.f1, .int .i64 x.f5.f5.f2, .int .i64 x.f5.f6.f0, .int .i64 x.f5.f6.f1, .int .i64 x.f5.f6.f2, .int .i64 x.f5.f6.f3, .int .i64 x.f5.f6.f4.f0, .int .i64 x.f5.f6.f4.f1, .int .i64 x.f5.f6.f4.f2, .int .i64 x.f5.f6.f5.f0, .int .i64 x.f5.f6.f5.f1, .int .i64 x.f5.f6.f5.f2, .int .i64 x.f5.f6.f6.f0, .int .i64 x.f5.f6.f6.f1, .int .i64 x.f5.f6.f7, .slice A7 x.f5.f7.length A7c, .slice A8 x.f5.f8.length A8c] ∧ x.f2.length ≤ A2c ∧ k23.C w A2 x.f2.length x.f2 ∧ x.f3.length ≤ A3c ∧ Kd.string.C w A3 x.f3.length x.f3 ∧ x.f4.length ≤ A4c ∧ k56.C w A4 x.f4.length x.f4 ∧ x.f5.f7.length ≤ A7c ∧ k54.C w A7 x.f5.f7.length x.f5.f7 ∧ x.f5.f8.length ≤ A8c ∧ k34.C w A8 x.f5.f8.length x.f5.f8 := by
  obtain ⟨_, _, rfl, rfl, ⟨_, _, rfl, s1, ⟨_, _, rfl, ⟨A2, c2, rfl, l2, g2⟩, ⟨_, _, rfl, ⟨A3, c3, rfl, l3, g3⟩, ⟨_, _, rfl, ⟨A4, c4, rfl, l4, g4⟩, s5⟩⟩⟩⟩⟩ := h
  obtain rfl := k23_open s1
  obtain ⟨A7, c7, A8, c8, rfl, l7, g7, l8, g8⟩ := k34_open s5
  exact ⟨A2, c2, A3, c3, A4, c4, A7, c7, A8, c8, rfl, l2, g2, l3, g3, l4, g4, l7, g7, l8, g8⟩
theorem k36_mk (w : World) (x : S36) {A2 : Option Addr} {A2c : Nat} (l2 : x.f2.length ≤ A2c) (g2 : k23.C w A2 x.f2.length x.f2) {A3 : Option Addr} {A3c : Nat} (l3 : x.f3.length ≤ A3c) (g3 : Kd.string.C w A3 x.f3.length x.f3) {A4 : Option Addr} {A4c : Nat} (l4 : x.f4.length ≤ A4c) (g4 : k56.C w A4 x.f4.length x.f4) {A7 : Option Addr} {A7c : Nat} (l7 : x.f5.f7.length ≤ A7c) (g7 : k54.C w A7 x.f5.f7.length x.f5.f7) {A8 : Option Addr} {A8c : Nat} (l8 : x.f5.f8.length ≤ A8c) (g8 : k34.C w A8 x.f5.f8.length x.f5.f8) : k36.K w x [.string x.f0, .int .i64 x.f1.f0, .int .i64 x.f1.f1, .int .i64 x.f1.f2, .slice A2 x.f2.length A2c, .slice A3 x.f3.length A3c, .slice A4 x.f4.length A4c, .int .i64 x.f5.f0, .string x.f5.f1, .string x.f5.f2, .string x.f5.f3, .int .i64 x.f5.f4, .int .i64 x.f5.f5.f0, .int .i64 x.f5.f5.f1, .int .i64 x.f5.f5.f2, .int .i64 x.f5.f6.f0, .int .i64 x.f5.f6.f1, .int .i64 x.f5.f6.f2, .int .i64 x.f5.f6.f3, .int .i64 x.f5.f6.f4.f0, .int .i64 x.f5.f6.f4.f1, .int .i64 x.f5.f6.f4.f2, .int .i64 x.f5.f6.f5.f0, .int .i64 x.f5.f6.f5.f1, .int .i64 x.f5.f6.f5.f2, .int .i64 x.f5.f6.f6.f0, .int .i64 x.f5.f6.f6.f1, .int .i64 x.f5.f6.f7, .slice A7 x.f5.f7.length A7c, .slice A8 x.f5.f8.length A8c] :=
  ⟨[.string x.f0], _, rfl, rfl, ⟨_, _, rfl, k23_mk w x.f1, ⟨_, _, rfl, ⟨A2, A2c, rfl, l2, g2⟩, ⟨_, _, rfl, ⟨A3, A3c, rfl, l3, g3⟩, ⟨_, _, rfl, ⟨A4, A4c, rfl, l4, g4⟩, k34_mk w x.f5 l7 g7 l8 g8⟩⟩⟩⟩⟩
theorem S36_ext {x y : S36} (h0 : x.f0 = y.f0) (h1 : x.f1 = y.f1) (h2 : x.f2 = y.f2) (h3 : x.f3 = y.f3) (h4 : x.f4 = y.f4) (h5 : x.f5 = y.f5) : x = y := by cases x; cases y; simp_all
theorem size36' : (Try.prog.info? 36).map (fun i => i.size) = some 30 := by kernel_rfl
end Go.Proofs.Ytkfbkjcdngipcaa.PTreeEquals
end
section
namespace Go.Proofs.Ytkfbkjcdngipcaa.PTreeEquals
open Go.RowKit Go.Proofs.YtkfbkjcdngipcaaW.PrintWords Go.Proofs.YtkfbkjcdngipcaaW.PrintLast Go.Proofs.YtkfbkjcdngipcaaW.PrintMore
attribute [local go_sem 5000] eqlD eqlR neqD neqR
attribute [local go_sem] max2_int min2_int max_two min_two max_three min_three max_four min_four
set_option linter.unusedVariables false
set_option linter.unusedSimpArgs false
theorem S56_ext {x y : S56} (h0 : x.f0 = y.f0) (h1 : x.f1 = y.f1) (h2 : x.f2 = y.f2) : x = y := by cases x; cases y; simp_all
end Go.Proofs.Ytkfbkjcdngipcaa.PTreeEquals
end
section
namespace Go.Proofs.Ytkfbkjcdngipcaa.PTreeEquals
open Go.RowKit Go.Proofs.YtkfbkjcdngipcaaW.PrintWords Go.Proofs.YtkfbkjcdngipcaaW.PrintLast Go.Proofs.YtkfbkjcdngipcaaW.PrintMore
mutual
def S54.wf : S54 → Prop
  | ⟨_, _, _, l3, l4⟩ => l3.length * 24 ≤ 140737488351232 ∧ l4.length * 80 ≤ 140737488351232 ∧ S54.wfs l4
def S54.wfs : List S54 → Prop
  | [] => True
  | x :: r => x.wf ∧ S54.wfs r
end
theorem S54.wf_eq (x : S54) : x.wf ↔ x.f3.length * 24 ≤ 140737488351232 ∧ x.f4.length * 80 ≤ 140737488351232 ∧ S54.wfs x.f4 := by cases x; simp [S54.wf]
theorem S54.wfs_iff : ∀ l : List S54, S54.wfs l ↔ ∀ x ∈ l, x.wf
  | [] => by simp [S54.wfs]
  | x :: r => by simp [S54.wfs, S54.wfs_iff r]
mutual
def S34.wf : S34 → Prop
  | ⟨_, _, _, _, _, _, _, l, m⟩ => l.length * 80 ≤ 140737488351232 ∧ S54.wfs l ∧ m.length * 240 ≤ 140737488351232 ∧ S34.wfs m
def S34.wfs : List S34 → Prop
  | [] => True
  | x :: r => x.wf ∧ S34.wfs r
end
theorem S34.wf_eq (x : S34) : x.wf ↔ x.f7.length * 80 ≤ 140737488351232 ∧ S54.wfs x.f7 ∧ x.f8.length * 240 ≤ 140737488351232 ∧ S34.wfs x.f8 := by cases x; simp [S34.wf]
theorem S34.wfs_iff : ∀ l : List S34, S34.wfs l ↔ ∀ x ∈ l, x.wf
  | [] => by simp [S34.wfs]
  | x :: r => by simp [S34.wfs, S34.wfs_iff r]
def S56.wf (x : S56) : Prop := x.f1.length * 16 ≤ 140737488351232 ∧ x.f2.wf
end Go.Proofs.Ytkfbkjcdngipcaa.PTreeEquals
end
section
namespace Go.Proofs.Ytkfbkjcdngipcaa.PTreeEquals
open Go.RowKit Go.Proofs.YtkfbkjcdngipcaaW.PrintWords Go.Proofs.YtkfbkjcdngipcaaW.PrintLast Go.Proofs.YtkfbkjcdngipcaaW.PrintMore
set_option linter.unusedVariables false
theorem up_ {α : Type} {f : Nat → Option α} (hm : ∀ k, LeO (f k) (f (k + 1))) {k : Nat} {r : α} (h : f k = some r) : ∀ k', k ≤ k' → f k' = some r := by
  intro k' hk
  obtain ⟨j, rfl⟩ := Nat.exists_eq_add_of_le hk
  induction j with
  | zero => exact h
  | succ j ih => exact hm (k + j) r (ih (Nat.le_add_right _ _))
theorem S54_ext' {x y : S54} (h0 : x.f0 = y.f0) (h1 : x.f1 = y.f1) (h2 : x.f2 = y.f2) (h3 : x.f3 = y.f3) (h4 : x.f4 = y.f4) : x = y := by cases x; cases y; simp_all
theorem SameExpr_sm : ∀ (n : Nat) (x y : S54), S54.wt x < n → x.wf → ∃ k, payoffref07_SameExpr.f k x.f0 x.f1 x.f2 x.f3 x.f4 y.f0 y.f1 y.f2 y.f3 y.f4 = some (sm x y) := by
  intro n
  induction n with
  | zero => intro x y h; omega
  | succ n IH =>
  intro x y hw hf
  rw [S54.wf_eq] at hf
  obtain ⟨hf3, hf4, hfs⟩ := hf
  rw [S54.wfs_iff] at hfs
  have hl0 := fun k => (payoffref07_SameExpr.mono_l k).2.2
  have hff := fun k => (payoffref07_SameExpr.mono_l k).1
  obtain ⟨kd, hd⟩ := sameDates_sm x.f3 y.f3 (by omega)
  have hd' := up_ (fun k => payoffref07_sameDates.mono x.f3 y.f3 k) hd
  have loop : x.f4.length = y.f4.length → ∀ (j i : Nat), i + j = x.f4.length → ∃ k, payoffref07_SameExpr.l0 k (i : Int) x.f0 x.f1 x.f2 x.f3 x.f4 y.f0 y.f1 y.f2 y.f3 y.f4 = some (sm (x.f4.drop i) (y.f4.drop i)) := by
    intro hlen j
    induction j with
    | zero =>
      intro i h
      refine ⟨1, ?_⟩
      rw [sm_end _ _ i (by omega) (by omega)]
      unfold payoffref07_SameExpr.l0
      rw [if_neg (by omega)]
    | succ j ih =>
      intro i h
      have h1 : i < x.f4.length := by omega
      have h2 : i < y.f4.length := by omega
      obtain ⟨k1, hk1⟩ := IH x.f4[i] y.f4[i] (by have := S54.wt_le (List.getElem_mem h1); have := S54.wt_eq x; omega) (hfs _ (List.getElem_mem h1))
      obtain ⟨k2, hk2⟩ := ih (i + 1) (by omega)
      have q1 := up_ (fun k => hff k _ _ _ _ _ _ _ _ _ _) hk1 (max k1 k2) (Nat.le_max_left _ _)
      have q2 := up_ (fun k => hl0 k _ _ _ _ _ _ _ _ _ _ _) hk2 (max k1 k2) (Nat.le_max_right _ _)
      refine ⟨max k1 k2 + 1, ?_⟩
      unfold payoffref07_SameExpr.l0
      rw [if_pos (by omega), if_pos (by omega), if_pos (by omega), rd54_at h1, rd54_at h2, q1, Option.bind_some, w64_next i (by omega), q2, sm_drop _ _ i h1 h2]
      cases sm x.f4[i] y.f4[i] <;> simp
  have hj : ∀ k, payoffref07_SameExpr.j0 (k + 1) true x.f0 x.f1 x.f2 x.f3 x.f4 y.f0 y.f1 y.f2 y.f3 y.f4 = some false := fun k => by unfold payoffref07_SameExpr.j0; rw [if_pos rfl]
  by_cases h0 : x.f0 = y.f0
  case neg => exact ⟨kd + 2, by unfold payoffref07_SameExpr.f; rw [hd' (kd + 1) (by omega), Option.bind_some, if_neg h0, hj, sm_false (fun e => h0 (by rw [e]))]⟩
  by_cases h1 : x.f1 = y.f1
  case neg => exact ⟨kd + 2, by unfold payoffref07_SameExpr.f; rw [hd' (kd + 1) (by omega), Option.bind_some, if_pos h0, if_neg h1, hj, sm_false (fun e => h1 (by rw [e]))]⟩
  by_cases h2 : x.f2 = y.f2
  case neg => exact ⟨kd + 2, by unfold payoffref07_SameExpr.f; rw [hd' (kd + 1) (by omega), Option.bind_some, if_pos h0, if_pos h1, if_neg (fun e => h2 ((toList_iff _ _).1 e)), hj, sm_false (fun e => h2 (by rw [e]))]⟩
  by_cases h3 : x.f3 = y.f3
  case neg => exact ⟨kd + 2, by unfold payoffref07_SameExpr.f; rw [hd' (kd + 1) (by omega), Option.bind_some, if_pos h0, if_pos h1, if_pos (by rw [h2]), if_neg (by rw [sm_false h3]; simp), hj, sm_false (fun e => h3 (by rw [e]))]⟩
  have hsm : sm x y = sm x.f4 y.f4 := by
    by_cases h4 : x.f4 = y.f4
    · rw [sm_true h4, sm_true (S54_ext' h0 h1 h2 h3 h4)]
    · rw [sm_false h4, sm_false (fun e => h4 (by rw [e]))]
  by_cases hlen : x.f4.length = y.f4.length
  · obtain ⟨k, hk⟩ := loop hlen x.f4.length 0 (by omega)
    have q := up_ (fun k => hl0 k _ _ _ _ _ _ _ _ _ _ _) hk (max k kd) (Nat.le_max_left _ _)
    refine ⟨max k kd + 2, ?_⟩
    unfold payoffref07_SameExpr.f
    rw [hd' (max k kd + 1) (by omega), Option.bind_some, if_pos h0, if_pos h1, if_pos (by rw [h2]), if_pos (sm_true h3)]
    unfold payoffref07_SameExpr.j0
    rw [if_neg (by simp [hlen]), hsm]
    exact q
  · refine ⟨kd + 2, ?_⟩
    unfold payoffref07_SameExpr.f
    rw [hd' (kd + 1) (by omega), Option.bind_some, if_pos h0, if_pos h1, if_pos (by rw [h2]), if_pos (sm_true h3)]
    unfold payoffref07_SameExpr.j0
    rw [if_pos (by simp; omega), hsm, sm_len hlen]
theorem sameExpr.all (x y : S54) (hf : x.wf) : EqOK k54 29 x y := by
  intro cs ds w hK1 hK2
  obtain ⟨A3, A3c, A4, A4c, rfl, l3, g3, l4, g4⟩ := k54_open hK1
  obtain ⟨B3, B3c, B4, B4c, rfl, p3, q3, p4, q4⟩ := k54_open hK2
  obtain ⟨k, h⟩ := SameExpr_sm _ x y (Nat.lt_succ_self _) hf
  exact payoffref07_SameExpr.calls k x.f0 x.f1 x.f2 A3 A3c x.f3 A4 A4c x.f4 y.f0 y.f1 y.f2 B3 B3c y.f3 B4 B4c y.f4 _ w g3 l3 g4 l4 q3 p3 q4 p4 h
end Go.Proofs.Ytkfbkjcdngipcaa.PTreeEquals
end
section
namespace Go.Proofs.Ytkfbkjcdngipcaa.PTreeEquals
open Go.RowKit Go.Proofs.YtkfbkjcdngipcaaW.PrintWords Go.Proofs.YtkfbkjcdngipcaaW.PrintLast Go.Proofs.YtkfbkjcdngipcaaW.PrintMore
attribute [local go_sem 5000] eqlD eqlR neqD neqR
attribute [local go_sem] max2_int min2_int max_two min_two max_three min_three max_four min_four
set_option linter.unusedVariables false
set_option linter.unusedSimpArgs false
set_option maxHeartbeats 32000000 in
set_option maxRecDepth 100000 in
theorem sameCon.of (x y : S34) (he : ∀ a ∈ x.f7, a.wf) (hs : ∀ a ∈ x.f8, ∀ b ∈ y.f8, EqOK k34 13 a b) : EqOK k34 13 x y := by
  intro cs ds w hK1 hK2
  obtain ⟨A7, A7c, A8, A8c, rfl, l7, g7, l8, g8⟩ := k34_open hK1
  obtain ⟨B7, B7c, B8, B8c, rfl, p7, q7, p8, q8⟩ := k34_open hK2
  have hu34 := Try.underlying34
  have hu23 := Try.underlying23
  have hu30 := Try.underlying30
  have hu28 := Try.underlying28
  have hu54 := Try.underlying54
  have HE := Aside0.mk he
  have HS := Aside0.mk hs
  have hm7 := Kd.C_max g7
  have hm8 := Kd.C_max g8
  have L7 := Aside0.mk l7
  clear l7
  have G7 := Aside0.mk g7
  clear g7
  have L8 := Aside0.mk l8
  clear l8
  have G8 := Aside0.mk g8
  clear g8
  have P7 := Aside0.mk p7
  clear p7
  have Q7 := Aside0.mk q7
  clear q7
  have P8 := Aside0.mk p8
  clear p8
  have Q8 := Aside0.mk q8
  clear q8
  clear hK1 hK2 he hs
  have HB := Aside0.mk (Below.refl w.heap.size w)
  refine (Classical.em (x.f0 = y.f0)).elim (fun h0 => ?_) (fun h0 => ?_)
  rotate_left
  have ct0 : (x.f0 == y.f0) = false := beq_eq_false_iff_ne.mpr h0
  have cn0 : (x.f0 != y.f0) = true := bne_iff_ne.mpr h0
  have hsm : sm x y = false := sm_false (fun e => h0 (by rw [e]))
  clear h0
  rotate_right
  have ct0 : (x.f0 == y.f0) = true := beq_iff_eq.mpr h0
  have cn0 : (x.f0 != y.f0) = false := bne_eq_false_iff_eq.mpr h0
  have H0 := Aside0.mk h0
  clear h0
  refine (Classical.em (x.f1 = y.f1)).elim (fun h1 => ?_) (fun h1 => ?_)
  rotate_left
  have ct1 : (x.f1.toList == y.f1.toList) = false := beq_eq_false_iff_ne.mpr (fun e => h1 ((toList_iff _ _).1 e))
  have cn1 : (x.f1.toList != y.f1.toList) = true := bne_iff_ne.mpr (fun e => h1 ((toList_iff _ _).1 e))
  have hsm : sm x y = false := sm_false (fun e => h1 (by rw [e]))
  clear h1
  rotate_right
  have ct1 : (x.f1.toList == y.f1.toList) = true := beq_iff_eq.mpr (by rw [h1])
  have cn1 : (x.f1.toList != y.f1.toList) = false := bne_eq_false_iff_eq.mpr (by rw [h1])
  have H1 := Aside0.mk h1
  clear h1
  refine (Classical.em (x.f2 = y.f2)).elim (fun h2 => ?_) (fun h2 => ?_)
  rotate_left
  have ct2 : (x.f2.toList == y.f2.toList) = false := beq_eq_false_iff_ne.mpr (fun e => h2 ((toList_iff _ _).1 e))
  have cn2 : (x.f2.toList != y.f2.toList) = true := bne_iff_ne.mpr (fun e => h2 ((toList_iff _ _).1 e))
  have hsm : sm x y = false := sm_false (fun e => h2 (by rw [e]))
  clear h2
  rotate_right
  have ct2 : (x.f2.toList == y.f2.toList) = true := beq_iff_eq.mpr (by rw [h2])
  have cn2 : (x.f2.toList != y.f2.toList) = false := bne_eq_false_iff_eq.mpr (by rw [h2])
  have H2 := Aside0.mk h2
  clear h2
  refine (Classical.em (x.f3 = y.f3)).elim (fun h3 => ?_) (fun h3 => ?_)
  rotate_left
  have ct3 : (x.f3.toList == y.f3.toList) = false := beq_eq_false_iff_ne.mpr (fun e => h3 ((toList_iff _ _).1 e))
  have cn3 : (x.f3.toList != y.f3.toList) = true := bne_iff_ne.mpr (fun e => h3 ((toList_iff _ _).1 e))
  have hsm : sm x y = false := sm_false (fun e => h3 (by rw [e]))
  clear h3
  rotate_right
  have ct3 : (x.f3.toList == y.f3.toList) = true := beq_iff_eq.mpr (by rw [h3])
  have cn3 : (x.f3.toList != y.f3.toList) = false := bne_eq_false_iff_eq.mpr (by rw [h3])
  have H3 := Aside0.mk h3
  clear h3
  refine (Classical.em (x.f4 = y.f4)).elim (fun h4 => ?_) (fun h4 => ?_)
  rotate_left
  have ct4 : (x.f4 == y.f4) = false := beq_eq_false_iff_ne.mpr h4
  have cn4 : (x.f4 != y.f4) = true := bne_iff_ne.mpr h4
  have hsm : sm x y = false := sm_false (fun e => h4 (by rw [e]))
  clear h4
  rotate_right
  have ct4 : (x.f4 == y.f4) = true := beq_iff_eq.mpr h4
  have cn4 : (x.f4 != y.f4) = false := bne_eq_false_iff_eq.mpr h4
  have H4 := Aside0.mk h4
  clear h4
  refine (Classical.em (x.f5 = y.f5)).elim (fun h5 => ?_) (fun h5 => ?_)
  rotate_left
  have ct5 : sm x.f5 y.f5 = false := sm_false h5
  have hsm : sm x y = false := sm_false (fun e => h5 (by rw [e]))
  clear h5
  rotate_right
  have ct5 : sm x.f5 y.f5 = true := sm_true h5
  have H5 := Aside0.mk h5
  clear h5
  refine (Classical.em (x.f6 = y.f6)).elim (fun h6 => ?_) (fun h6 => ?_)
  rotate_left
  have ct6 : sm x.f6 y.f6 = false := sm_false h6
  have hsm : sm x y = false := sm_false (fun e => h6 (by rw [e]))
  clear h6
  rotate_right
  have ct6 : sm x.f6 y.f6 = true := sm_true h6
  have H6 := Aside0.mk h6
  clear h6
  refine (Classical.em (x.f7.length = y.f7.length)).elim (fun hl7 => ?_) (fun hl7 => ?_)
  rotate_left
  have ct7 : ((x.f7.length : Int) != (y.f7.length : Int)) = true := bne_iff_ne.mpr (by omega)
  have hsm : sm x y = false := sm_false (fun e => hl7 (by rw [e]))
  clear hl7
  rotate_right
  have ct7 : ((x.f7.length : Int) != (y.f7.length : Int)) = false := bne_eq_false_iff_eq.mpr (by omega)
  have HL7 := Aside0.mk hl7
  clear hl7
  refine (Classical.em (x.f8.length = y.f8.length)).elim (fun hl8 => ?_) (fun hl8 => ?_)
  rotate_left
  have ct8 : ((x.f8.length : Int) != (y.f8.length : Int)) = true := bne_iff_ne.mpr (by omega)
  have hsm : sm x y = false := sm_false (fun e => hl8 (by rw [e]))
  clear hl8
  rotate_right
  have ct8 : ((x.f8.length : Int) != (y.f8.length : Int)) = false := bne_eq_false_iff_eq.mpr (by omega)
  have HL8 := Aside0.mk hl8
  clear hl8
  · go_enter Try.func13, Try.ntmps13
    go_wp2_with (first | ((with_reducible refine gate_dst (N := 2) rfl ?_); (try (refine gate_guard (by rfl) ?_; dsimp only)); refine box_event ?hg (N := 2) ?hd (cs := #[.int .i64 x.f0, .string x.f1, .string x.f2, .string x.f3, .int .i64 x.f4, .int .i64 x.f5.f0, .int .i64 x.f5.f1, .int .i64 x.f5.f2, .int .i64 x.f6.f0, .int .i64 x.f6.f1, .int .i64 x.f6.f2, .int .i64 x.f6.f3, .int .i64 x.f6.f4.f0, .int .i64 x.f6.f4.f1, .int .i64 x.f6.f4.f2, .int .i64 x.f6.f5.f0, .int .i64 x.f6.f5.f1, .int .i64 x.f6.f5.f2, .int .i64 x.f6.f6.f0, .int .i64 x.f6.f6.f1, .int .i64 x.f6.f7, .slice A7 x.f7.length A7c, .slice A8 x.f8.length A8c]) (t := 34) ?hr ?_; (case hd => rfl); (case hg => rfl); (case hr => first | (go_simp; done) | (go_simp; rfl)); intro g1 hg wv1_ hbox hb; have n0_ := Aside0.mk (below_step HB.out hb); have n1_ := Aside0.mk (hbox); have n2_ := Aside0.mk ((show w.heap.size ≤ g1 by rw [hg]; exact below_size HB.out)); clear HB; have HB := n0_; have BK1 := n1_; have ORD := n2_; clear n0_ n1_ n2_; clear hb hbox hg) | ((with_reducible refine gate_dst (N := 3) rfl ?_); (try (refine gate_guard (by rfl) ?_; dsimp only)); refine box_event ?hg (N := 3) ?hd (cs := #[.int .i64 y.f0, .string y.f1, .string y.f2, .string y.f3, .int .i64 y.f4, .int .i64 y.f5.f0, .int .i64 y.f5.f1, .int .i64 y.f5.f2, .int .i64 y.f6.f0, .int .i64 y.f6.f1, .int .i64 y.f6.f2, .int .i64 y.f6.f3, .int .i64 y.f6.f4.f0, .int .i64 y.f6.f4.f1, .int .i64 y.f6.f4.f2, .int .i64 y.f6.f5.f0, .int .i64 y.f6.f5.f1, .int .i64 y.f6.f5.f2, .int .i64 y.f6.f6.f0, .int .i64 y.f6.f6.f1, .int .i64 y.f6.f7, .slice B7 y.f7.length B7c, .slice B8 y.f8.length B8c]) (t := 34) ?hr ?_; (case hd => rfl); (case hg => rfl); (case hr => first | (go_simp; done) | (go_simp; rfl)); intro g2 hg wv2_ hbox hb; have n0_ := Aside0.mk (below_step HB.out hb); have n1_ := Aside0.mk (blk_below BK1.out hb); have n2_ := Aside0.mk (hbox); have n3_ := Aside0.mk (And.intro ORD.out (show g1 < g2 by rw [hg]; exact blk_lt BK1.out)); clear HB BK1 ORD; have HB := n0_; have BK1 := n1_; have BK2 := n2_; have ORD := n3_; clear n0_ n1_ n2_ n3_; clear hb hbox hg) | ((with_reducible refine gate_dst (N := 10) rfl ?_); (try (refine gate_guard (by rfl) ?_; dsimp only)); refine ld_event rfl rfl (by first | rfl | (go_simp; done) | (go_simp; rfl)) Try.underlying3 trivial (.int .i64 x.f0) ((blk_cell BK1.out 0).trans rfl) ?_) | ((with_reducible refine gate_dst (N := 12) rfl ?_); (try (refine gate_guard (by rfl) ?_; dsimp only)); refine ld_event rfl rfl (by first | rfl | (go_simp; done) | (go_simp; rfl)) Try.underlying3 trivial (.int .i64 y.f0) ((blk_cell BK2.out 0).trans rfl) ?_) | ((with_reducible refine gate_dst (N := 16) rfl ?_); (try (refine gate_guard (by rfl) ?_; dsimp only)); refine ld_event rfl rfl (by first | rfl | (go_simp; done) | (go_simp; rfl)) Try.underlying9 trivial (.string x.f1) ((blk_cell BK1.out 1).trans rfl) ?_) | ((with_reducible refine gate_dst (N := 18) rfl ?_); (try (refine gate_guard (by rfl) ?_; dsimp only)); refine ld_event rfl rfl (by first | rfl | (go_simp; done) | (go_simp; rfl)) Try.underlying9 trivial (.string y.f1) ((blk_cell BK2.out 1).trans rfl) ?_) | ((with_reducible refine gate_dst (N := 23) rfl ?_); (try (refine gate_guard (by rfl) ?_; dsimp only)); refine ld_event rfl rfl (by first | rfl | (go_simp; done) | (go_simp; rfl)) Try.underlying9 trivial (.string x.f2) ((blk_cell BK1.out 2).trans rfl) ?_) | ((with_reducible refine gate_dst (N := 25) rfl ?_); (try (refine gate_guard (by rfl) ?_; dsimp only)); refine ld_event rfl rfl (by first | rfl | (go_simp; done) | (go_simp; rfl)) Try.underlying9 trivial (.string y.f2) ((blk_cell BK2.out 2).trans rfl) ?_) | ((with_reducible refine gate_dst (N := 30) rfl ?_); (try (refine gate_guard (by rfl) ?_; dsimp only)); refine ld_event rfl rfl (by first | rfl | (go_simp; done) | (go_simp; rfl)) Try.underlying9 trivial (.string x.f3) ((blk_cell BK1.out 3).trans rfl) ?_) | ((with_reducible refine gate_dst (N := 32) rfl ?_); (try (refine gate_guard (by rfl) ?_; dsimp only)); refine ld_event rfl rfl (by first | rfl | (go_simp; done) | (go_simp; rfl)) Try.underlying9 trivial (.string y.f3) ((blk_cell BK2.out 3).trans rfl) ?_) | ((with_reducible refine gate_dst (N := 37) rfl ?_); (try (refine gate_guard (by rfl) ?_; dsimp only)); refine ld_event rfl rfl (by first | rfl | (go_simp; done) | (go_simp; rfl)) Try.underlying3 trivial (.int .i64 x.f4) ((blk_cell BK1.out 4).trans rfl) ?_) | ((with_reducible refine gate_dst (N := 39) rfl ?_); (try (refine gate_guard (by rfl) ?_; dsimp only)); refine ld_event rfl rfl (by first | rfl | (go_simp; done) | (go_simp; rfl)) Try.underlying3 trivial (.int .i64 y.f4) ((blk_cell BK2.out 4).trans rfl) ?_) | ((with_reducible refine gate_dst (N := 44) rfl ?_); (try (refine gate_guard (by rfl) ?_; dsimp only)); refine ldb_event rfl rfl (by first | rfl | (go_simp; done) | (go_simp; rfl)) Try.underlying23 ⟨_, rfl⟩ BK1.out 3 size23 [.int .i64 x.f5.f0, .int .i64 x.f5.f1, .int .i64 x.f5.f2] rfl rfl ?_) | ((with_reducible refine gate_dst (N := 46) rfl ?_); (try (refine gate_guard (by rfl) ?_; dsimp only)); refine ldb_event rfl rfl (by first | rfl | (go_simp; done) | (go_simp; rfl)) Try.underlying23 ⟨_, rfl⟩ BK2.out 3 size23 [.int .i64 y.f5.f0, .int .i64 y.f5.f1, .int .i64 y.f5.f2] rfl rfl ?_) | ((with_reducible refine gate_dst (N := 51) rfl ?_); (try (refine gate_guard (by rfl) ?_; dsimp only)); refine ldb_event rfl rfl (by first | rfl | (go_simp; done) | (go_simp; rfl)) Try.underlying30 ⟨_, rfl⟩ BK1.out 13 size30 [.int .i64 x.f6.f0, .int .i64 x.f6.f1, .int .i64 x.f6.f2, .int .i64 x.f6.f3, .int .i64 x.f6.f4.f0, .int .i64 x.f6.f4.f1, .int .i64 x.f6.f4.f2, .int .i64 x.f6.f5.f0, .int .i64 x.f6.f5.f1, .int .i64 x.f6.f5.f2, .int .i64 x.f6.f6.f0, .int .i64 x.f6.f6.f1, .int .i64 x.f6.f7] rfl rfl ?_) | ((with_reducible refine gate_dst (N := 53) rfl ?_); (try (refine gate_guard (by rfl) ?_; dsimp only)); refine ldb_event rfl rfl (by first | rfl | (go_simp; done) | (go_simp; rfl)) Try.underlying30 ⟨_, rfl⟩ BK2.out 13 size30 [.int .i64 y.f6.f0, .int .i64 y.f6.f1, .int .i64 y.f6.f2, .int .i64 y.f6.f3, .int .i64 y.f6.f4.f0, .int .i64 y.f6.f4.f1, .int .i64 y.f6.f4.f2, .int .i64 y.f6.f5.f0, .int .i64 y.f6.f5.f1, .int .i64 y.f6.f5.f2, .int .i64 y.f6.f6.f0, .int .i64 y.f6.f6.f1, .int .i64 y.f6.f7] rfl rfl ?_) | ((with_reducible refine gate_dst (N := 57) rfl ?_); (try (refine gate_guard (by rfl) ?_; dsimp only)); refine ld_event rfl rfl (by first | rfl | (go_simp; done) | (go_simp; rfl)) Try.underlying31 trivial (.slice A7 x.f7.length A7c) ((blk_cell BK1.out 21).trans rfl) ?_) | ((with_reducible refine gate_dst (N := 60) rfl ?_); (try (refine gate_guard (by rfl) ?_; dsimp only)); refine ld_event rfl rfl (by first | rfl | (go_simp; done) | (go_simp; rfl)) Try.underlying31 trivial (.slice B7 y.f7.length B7c) ((blk_cell BK2.out 21).trans rfl) ?_) | ((with_reducible refine gate_dst (N := 65) rfl ?_); (try (refine gate_guard (by rfl) ?_; dsimp only)); refine ld_event rfl rfl (by first | rfl | (go_simp; done) | (go_simp; rfl)) Try.underlying32 trivial (.slice A8 x.f8.length A8c) ((blk_cell BK1.out 22).trans rfl) ?_) | ((with_reducible refine gate_dst (N := 68) rfl ?_); (try (refine gate_guard (by rfl) ?_; dsimp only)); refine ld_event rfl rfl (by first | rfl | (go_simp; done) | (go_simp; rfl)) Try.underlying32 trivial (.slice B8 y.f8.length B8c) ((blk_cell BK2.out 22).trans rfl) ?_))
    clear ct0 cn0 ct1 cn1 ct2 cn2 ct3 cn3 ct4 cn4 ct5 ct6 ct7 ct8
    go_loopg [5] x.f7.length (fun kq v5 w' => ∃ (i_ : Int), v5 = .int .i64 i_ ∧ Aside0 (0 ≤ i_ ∧ i_ + (kq : Int) = (x.f7.length : Int)) ∧ Aside0 (sm (x.f7.drop i_.toNat) (y.f7.drop i_.toNat) = sm x.f7 y.f7) ∧ Aside0 (w'.heap[g1]? = some (.cells #[.int .i64 x.f0, .string x.f1, .string x.f2, .string x.f3, .int .i64 x.f4, .int .i64 x.f5.f0, .int .i64 x.f5.f1, .int .i64 x.f5.f2, .int .i64 x.f6.f0, .int .i64 x.f6.f1, .int .i64 x.f6.f2, .int .i64 x.f6.f3, .int .i64 x.f6.f4.f0, .int .i64 x.f6.f4.f1, .int .i64 x.f6.f4.f2, .int .i64 x.f6.f5.f0, .int .i64 x.f6.f5.f1, .int .i64 x.f6.f5.f2, .int .i64 x.f6.f6.f0, .int .i64 x.f6.f6.f1, .int .i64 x.f6.f7, .slice A7 x.f7.length A7c, .slice A8 x.f8.length A8c] 34 (0, 0))) ∧ Aside0 (w'.heap[g2]? = some (.cells #[.int .i64 y.f0, .string y.f1, .string y.f2, .string y.f3, .int .i64 y.f4, .int .i64 y.f5.f0, .int .i64 y.f5.f1, .int .i64 y.f5.f2, .int .i64 y.f6.f0, .int .i64 y.f6.f1, .int .i64 y.f6.f2, .int .i64 y.f6.f3, .int .i64 y.f6.f4.f0, .int .i64 y.f6.f4.f1, .int .i64 y.f6.f4.f2, .int .i64 y.f6.f5.f0, .int .i64 y.f6.f5.f1, .int .i64 y.f6.f5.f2, .int .i64 y.f6.f6.f0, .int .i64 y.f6.f6.f1, .int .i64 y.f6.f7, .slice B7 y.f7.length B7c, .slice B8 y.f8.length B8c] 34 (0, 0))) ∧ Aside0 (Below w.heap.size w w'))
    case atStart => exact ⟨0, rfl, ⟨by omega, by omega⟩, ⟨rfl⟩, BK1, BK2, HB⟩
    case round =>
      clear HB BK1 BK2
      obtain ⟨i_, rfl, HQ, HX, BK1, BK2, HB⟩ := hrel
      by_cases c_ : i_ < (x.f7.length : Int)
      · have cb : decide (i_ < (x.f7.length : Int)) = true := decide_eq_true c_
        have p_ : 0 ≤ i_ := HQ.out.1
        have c2_ : i_ < (y.f7.length : Int) := by have := HL7.out; omega
        obtain ⟨ad, cv1_, e_, _, hK1, hc1_⟩ := Kd.C_get G7.out z54 i_ p_ c_
        obtain rfl := e_
        obtain ⟨bd, cv2_, e_, _, hK2, hc2_⟩ := Kd.C_get Q7.out z54 i_ p_ c2_
        obtain rfl := e_
        have HCS1 := Aside0.mk (show CSat wr (ad.add (i_.toNat * 5)) cv1_ from CSat.below (fun j v hj => by rw [World_add_add]; exact hc1_ j v hj) HB.out)
        have HCS2 := Aside0.mk (show CSat wr (bd.add (i_.toNat * 5)) cv2_ from CSat.below (fun j v hj => by rw [World_add_add]; exact hc2_ j v hj) HB.out)
        have SZ1 := Aside0.mk (show (Try.prog.info? 54).map (fun i => i.size) = some cv1_.length by rw [Kd.K_len _ hK1]; exact size54)
        have SZ2 := Aside0.mk (show (Try.prog.info? 54).map (fun i => i.size) = some cv2_.length by rw [Kd.K_len _ hK2]; exact size54)
        have hM1 := mem_getD z54 p_ c_
        have hM2 := mem_getD z54 p_ c2_
        have hN := sm_next z54 p_ c_ c2_
        obtain ⟨x_, hx_⟩ : ∃ q, q = x.f7.getD i_.toNat z54 := ⟨_, rfl⟩
        obtain ⟨y_, hy_⟩ : ∃ q, q = y.f7.getD i_.toNat z54 := ⟨_, rfl⟩
        rw [← hx_] at hK1 hM1 hN
        rw [← hy_] at hK2 hM2 hN
        clear hx_ hy_
        have HK1 := Aside0.mk hK1
        have HK2 := Aside0.mk hK2
        have HM1 := Aside0.mk hM1
        have HM2 := Aside0.mk hM2
        have HN := Aside0.mk hN
        clear hK1 hK2 hc1_ hc2_ hM1 hM2 hN
        have HC_ := Aside0.mk c_
        replace p_ := eq_true p_
        replace c_ := eq_true c_
        replace c2_ := eq_true c2_
        go_upto_region 8 with (first | ((with_reducible refine gate_dst (N := 74) rfl ?_); (try (refine gate_guard (by rfl) ?_; dsimp only)); refine ld_event rfl rfl (by first | rfl | (go_simp; done) | (go_simp; rfl)) Try.underlying31 trivial (.slice (some ad) x.f7.length A7c) ((blk_cell BK1.out 21).trans rfl) ?_))
        refine start_ (n := 12) (S := fun w' => w'.heap[g1]? = some (.cells #[.int .i64 x.f0, .string x.f1, .string x.f2, .string x.f3, .int .i64 x.f4, .int .i64 x.f5.f0, .int .i64 x.f5.f1, .int .i64 x.f5.f2, .int .i64 x.f6.f0, .int .i64 x.f6.f1, .int .i64 x.f6.f2, .int .i64 x.f6.f3, .int .i64 x.f6.f4.f0, .int .i64 x.f6.f4.f1, .int .i64 x.f6.f4.f2, .int .i64 x.f6.f5.f0, .int .i64 x.f6.f5.f1, .int .i64 x.f6.f5.f2, .int .i64 x.f6.f6.f0, .int .i64 x.f6.f6.f1, .int .i64 x.f6.f7, .slice (some ad) x.f7.length A7c, .slice A8 x.f8.length A8c] 34 (0, 0)) ∧ w'.heap[g2]? = some (.cells #[.int .i64 y.f0, .string y.f1, .string y.f2, .string y.f3, .int .i64 y.f4, .int .i64 y.f5.f0, .int .i64 y.f5.f1, .int .i64 y.f5.f2, .int .i64 y.f6.f0, .int .i64 y.f6.f1, .int .i64 y.f6.f2, .int .i64 y.f6.f3, .int .i64 y.f6.f4.f0, .int .i64 y.f6.f4.f1, .int .i64 y.f6.f4.f2, .int .i64 y.f6.f5.f0, .int .i64 y.f6.f5.f1, .int .i64 y.f6.f5.f2, .int .i64 y.f6.f6.f0, .int .i64 y.f6.f6.f1, .int .i64 y.f6.f7, .slice (some bd) y.f7.length B7c, .slice B8 y.f8.length B8c] 34 (0, 0)) ∧ CSat w' (ad.add (i_.toNat * 5)) cv1_ ∧ CSat w' (bd.add (i_.toNat * 5)) cv2_) (ds := [10]) #[false, false, false, false, false, false, false, false, false, false, false, false] (by kernel_rfl) rfl rfl ⟨blk_below BK1.out (below_drew1 (Below.refl _ _)), blk_below BK2.out (below_drew1 (Below.refl _ _)), CSat.below HCS1.out (below_drew1 (Below.refl _ _)), CSat.below HCS2.out (below_drew1 (Below.refl _ _))⟩ (fun hHeld => ?_)
        have n0_ := Aside0.mk (below_drew1 HB.out)
        have n1_ := Aside0.mk (blk_drew BK1.out)
        have n2_ := Aside0.mk (blk_drew BK2.out)
        have n3_ := Aside0.mk (CSat.below HCS1.out (below_drew1 (Below.refl _ _)))
        have n4_ := Aside0.mk (CSat.below HCS2.out (below_drew1 (Below.refl _ _)))
        clear HB BK1 BK2 HCS1 HCS2
        have HB := n0_
        have BK1 := n1_
        have BK2 := n2_
        have HCS1 := n3_
        have HCS2 := n4_
        clear n0_ n1_ n2_ n3_ n4_
        generalize wr.drew = wv3_ at HB BK1 BK2 HCS1 HCS2 hHeld ⊢
        refine pure_ (i := 0) (N := some 79) (v := ?_) (a' := ?_) #[true, false, false, false, false, false, false, false, false, false, false, false] rfl rfl (by kernel_rfl) (fun _ _ _ h => h) (Or.inl ⟨by rfl, ?_⟩) ?_ ?_
        rotate_left
        · intro w'
          go_simp
          with_reducible rfl
        rotate_left
        · simp only [Act.put, List.setIfInBounds_toArray, List.set_cons_zero, List.set_cons_succ, i64_w, i32_w]
          rfl
        refine pure_ (i := 2) (N := some 81) (v := ?_) (a' := ?_) #[true, false, true, false, false, false, false, false, false, false, false, false] rfl rfl (by kernel_rfl) (fun _ _ _ h => h) (Or.inl ⟨by rfl, ?_⟩) ?_ ?_
        rotate_left
        · intro w'
          go_simp
          with_reducible rfl
        rotate_left
        · simp only [Act.put, List.setIfInBounds_toArray, List.set_cons_zero, List.set_cons_succ, i64_w, i32_w]
          rfl
        refine pure_ (i := 5) (N := some 84) (v := ?_) (a' := ?_) #[true, false, true, false, false, true, false, false, false, false, false, false] rfl rfl (by kernel_rfl) (fun _ _ _ h => h) (Or.inl ⟨by rfl, ?_⟩) ?_ ?_
        rotate_left
        · intro w'
          go_simp
          with_reducible rfl
        rotate_left
        · simp only [Act.put, List.setIfInBounds_toArray, List.set_cons_zero, List.set_cons_succ, i64_w, i32_w]
          rfl
        refine pure_ (i := 7) (N := some 86) (v := ?_) (a' := ?_) #[true, false, true, false, false, true, false, true, false, false, false, false] rfl rfl (by kernel_rfl) (fun _ _ _ h => h) (Or.inl ⟨by rfl, ?_⟩) ?_ ?_
        rotate_left
        · intro w'
          go_simp
          with_reducible rfl
        rotate_left
        · simp only [Act.put, List.setIfInBounds_toArray, List.set_cons_zero, List.set_cons_succ, i64_w, i32_w]
          rfl
        refine take_ (i := 1) (N := some 80) (v := ?_) (a' := ?_) #[true, true, true, false, false, true, false, true, false, false, false, false] rfl rfl (by kernel_rfl) (fun _ _ _ h => h) (Or.inl ⟨by rfl, ?_⟩) hHeld ?_ ?_
        rotate_left
        · rintro w' ⟨s1, s2, x0, x1⟩
          refine Eq.trans (ld_run rfl (by first | rfl | (go_simp; done) | (go_simp; rfl)) Try.underlying31 trivial (.slice (some ad) x.f7.length A7c) ((blk_cell s1 21).trans rfl)) ?_
          with_reducible rfl
        rotate_left
        · simp only [Act.put, List.setIfInBounds_toArray, List.set_cons_zero, List.set_cons_succ, i64_w, i32_w]
          rfl
        refine take_ (i := 6) (N := some 85) (v := ?_) (a' := ?_) #[true, true, true, false, false, true, true, true, false, false, false, false] rfl rfl (by kernel_rfl) (fun _ _ _ h => h) (Or.inl ⟨by rfl, ?_⟩) hHeld ?_ ?_
        rotate_left
        · rintro w' ⟨s1, s2, x0, x1⟩
          refine Eq.trans (ld_run rfl (by first | rfl | (go_simp; done) | (go_simp; rfl)) Try.underlying31 trivial (.slice (some bd) y.f7.length B7c) ((blk_cell s2 21).trans rfl)) ?_
          with_reducible rfl
        rotate_left
        · simp only [Act.put, List.setIfInBounds_toArray, List.set_cons_zero, List.set_cons_succ, i64_w, i32_w]
          rfl
        refine pure_ (i := 3) (N := some 82) (v := ?_) (a' := ?_) #[true, true, true, true, false, true, true, true, false, false, false, false] rfl rfl (by kernel_rfl) (fun _ _ _ h => h) (Or.inl ⟨by rfl, ?_⟩) ?_ ?_
        rotate_left
        · intro w'
          go_simp
          with_reducible rfl
        rotate_left
        · simp only [Act.put, List.setIfInBounds_toArray, List.set_cons_zero, List.set_cons_succ, i64_w, i32_w]
          rfl
        refine pure_ (i := 8) (N := some 87) (v := ?_) (a' := ?_) #[true, true, true, true, false, true, true, true, true, false, false, false] rfl rfl (by kernel_rfl) (fun _ _ _ h => h) (Or.inl ⟨by rfl, ?_⟩) ?_ ?_
        rotate_left
        · intro w'
          go_simp
          with_reducible rfl
        rotate_left
        · simp only [Act.put, List.setIfInBounds_toArray, List.set_cons_zero, List.set_cons_succ, i64_w, i32_w]
          rfl
        refine take_ (i := 4) (N := some 83) (v := ?_) (a' := ?_) #[true, true, true, true, true, true, true, true, true, false, false, false] rfl rfl (by kernel_rfl) (fun _ _ _ h => h) (Or.inl ⟨by rfl, ?_⟩) hHeld ?_ ?_
        rotate_left
        · rintro w' ⟨s1, s2, x0, x1⟩
          refine Eq.trans (lds_run rfl (by first | rfl | (go_simp; done) | (go_simp; rfl)) Try.underlying54 ⟨_, rfl⟩ cv1_ SZ1.out x0) ?_
          with_reducible rfl
        rotate_left
        · simp only [Act.put, List.setIfInBounds_toArray, List.set_cons_zero, List.set_cons_succ, i64_w, i32_w]
          rfl
        refine take_ (i := 9) (N := some 88) (v := ?_) (a' := ?_) #[true, true, true, true, true, true, true, true, true, true, false, false] rfl rfl (by kernel_rfl) (fun _ _ _ h => h) (Or.inl ⟨by rfl, ?_⟩) hHeld ?_ ?_
        rotate_left
        · rintro w' ⟨s1, s2, x0, x1⟩
          refine Eq.trans (lds_run rfl (by first | rfl | (go_simp; done) | (go_simp; rfl)) Try.underlying54 ⟨_, rfl⟩ cv2_ SZ2.out x1) ?_
          with_reducible rfl
        rotate_left
        · simp only [Act.put, List.setIfInBounds_toArray, List.set_cons_zero, List.set_cons_succ, i64_w, i32_w]
          rfl
        refine last_ (i := 10) (N := some 89) #[true, true, true, true, true, true, true, true, true, true, true, false] rfl rfl (by kernel_rfl) (by decide) (fun K hK => ?_)
        refine goes_ Try.func29 (by kernel_rfl) rfl #[.agg cv1_.toArray, .agg cv2_.toArray] (by rfl) rfl rfl (by (try simp only [List.map_toArray, List.map_cons, List.map_nil]); first | done | rfl) ?_
        with_reducible refine (EqOK.calls (sameExpr.all _ _ (HE.out _ HM1.out)) cv1_ cv2_ _ (Kd.K_below _ HB.out HK1.out) (Kd.K_below _ HB.out HK2.out)).mono ?_
        rintro e wv4_ ⟨rfl, hb⟩
        refine ⟨_, rfl, ?_⟩
        have n0_ := Aside0.mk (below_step HB.out hb)
        have n1_ := Aside0.mk (blk_below BK1.out hb)
        have n2_ := Aside0.mk (blk_below BK2.out hb)
        have n3_ := Aside0.mk (CSat.below HCS1.out hb)
        have n4_ := Aside0.mk (CSat.below HCS2.out hb)
        clear HB BK1 BK2 HCS1 HCS2
        have HB := n0_
        have BK1 := n1_
        have BK2 := n2_
        have HCS1 := n3_
        have HCS2 := n4_
        clear n0_ n1_ n2_ n3_ n4_
        clear hb
        refine hK.out _ _ ?_
        clear hK K
        refine norm_ (a' := ?_) ?_ ?_
        rotate_left
        · show Act.put _ (some 89) _ = _
          simp only [Act.put, List.setIfInBounds_toArray, List.set_cons_zero, List.set_cons_succ, i64_w, i32_w]
          rfl
        refine pure_ (i := 11) (N := some 6) (v := ?_) (a' := ?_) #[true, true, true, true, true, true, true, true, true, true, true, true] rfl rfl (by kernel_rfl) (fun _ _ _ h => h) (Or.inl ⟨by rfl, ?_⟩) ?_ ?_
        rotate_left
        · intro w'
          go_simp
          with_reducible rfl
        rotate_left
        · simp only [Act.put, List.setIfInBounds_toArray, List.set_cons_zero, List.set_cons_succ, i64_w, i32_w]
          rfl
        refine done_ (by kernel_rfl) ?_
        cases hbe : sm x_ y_ with
        | true =>
          rw [hbe] at HN
          go_wp2
          go_roundg (gk - 1)
          case measure => have := HQ.out; have := HC_.out; omega
          case rel => exact ⟨i_ + 1, by rw [show wrap64 (i_ + 1) = i_ + 1 from by have := HQ.out; have := HC_.out; have := Kd.C_max G7.out; unfold wrap64; omega], ⟨by have := HQ.out; have := HC_.out; omega⟩, ⟨by rw [← HX.out, HN.out, Bool.true_and]⟩, BK1, BK2, HB⟩
        | false =>
          rw [hbe] at HN
          go_wp2
          go_ret
          have hsm : sm x y = false := sm_false (fun e => by have h7 : sm x.f7 y.f7 = false := (by rw [← HX.out, HN.out, Bool.false_and]); rw [e, sm_self] at h7; cases h7)
          exact ⟨by rw [hsm]; rfl, HB.out⟩
      · have cb : decide (i_ < (x.f7.length : Int)) = false := decide_eq_false c_
        have hsm7 : sm x.f7 y.f7 = true := by rw [← HX.out]; exact sm_end _ _ _ (by omega) (by have := HL7.out; omega)
        have HSM7 := Aside0.mk hsm7
        clear c_ HQ HX hsm7
        go_wp2_with (first | ((with_reducible refine gate_dst (N := 74) rfl ?_); (try (refine gate_guard (by rfl) ?_; dsimp only)); refine ld_event rfl rfl (by first | rfl | (go_simp; done) | (go_simp; rfl)) Try.underlying31 trivial (.slice A7 x.f7.length A7c) ((blk_cell BK1.out 21).trans rfl) ?_))
        go_loopg [7] x.f8.length (fun kq v7 w' => ∃ (i_ : Int), v7 = .int .i64 i_ ∧ Aside0 (0 ≤ i_ ∧ i_ + (kq : Int) = (x.f8.length : Int)) ∧ Aside0 (sm (x.f8.drop i_.toNat) (y.f8.drop i_.toNat) = sm x.f8 y.f8) ∧ Aside0 (w'.heap[g1]? = some (.cells #[.int .i64 x.f0, .string x.f1, .string x.f2, .string x.f3, .int .i64 x.f4, .int .i64 x.f5.f0, .int .i64 x.f5.f1, .int .i64 x.f5.f2, .int .i64 x.f6.f0, .int .i64 x.f6.f1, .int .i64 x.f6.f2, .int .i64 x.f6.f3, .int .i64 x.f6.f4.f0, .int .i64 x.f6.f4.f1, .int .i64 x.f6.f4.f2, .int .i64 x.f6.f5.f0, .int .i64 x.f6.f5.f1, .int .i64 x.f6.f5.f2, .int .i64 x.f6.f6.f0, .int .i64 x.f6.f6.f1, .int .i64 x.f6.f7, .slice A7 x.f7.length A7c, .slice A8 x.f8.length A8c] 34 (0, 0))) ∧ Aside0 (w'.heap[g2]? = some (.cells #[.int .i64 y.f0, .string y.f1, .string y.f2, .string y.f3, .int .i64 y.f4, .int .i64 y.f5.f0, .int .i64 y.f5.f1, .int .i64 y.f5.f2, .int .i64 y.f6.f0, .int .i64 y.f6.f1, .int .i64 y.f6.f2, .int .i64 y.f6.f3, .int .i64 y.f6.f4.f0, .int .i64 y.f6.f4.f1, .int .i64 y.f6.f4.f2, .int .i64 y.f6.f5.f0, .int .i64 y.f6.f5.f1, .int .i64 y.f6.f5.f2, .int .i64 y.f6.f6.f0, .int .i64 y.f6.f6.f1, .int .i64 y.f6.f7, .slice B7 y.f7.length B7c, .slice B8 y.f8.length B8c] 34 (0, 0))) ∧ Aside0 (Below w.heap.size w w'))
        case atStart => exact ⟨0, rfl, ⟨by omega, by omega⟩, ⟨rfl⟩, BK1, BK2, HB⟩
        case round =>
          clear HB BK1 BK2
          obtain ⟨i_, rfl, HQ, HX, BK1, BK2, HB⟩ := hrel
          by_cases c_ : i_ < (x.f8.length : Int)
          · have cb : decide (i_ < (x.f8.length : Int)) = true := decide_eq_true c_
            have p_ : 0 ≤ i_ := HQ.out.1
            have c2_ : i_ < (y.f8.length : Int) := by have := HL8.out; omega
            obtain ⟨ad, cv1_, e_, _, hK1, hc1_⟩ := Kd.C_get G8.out z34 i_ p_ c_
            obtain rfl := e_
            obtain ⟨bd, cv2_, e_, _, hK2, hc2_⟩ := Kd.C_get Q8.out z34 i_ p_ c2_
            obtain rfl := e_
            have HCS1 := Aside0.mk (show CSat wr (ad.add (i_.toNat * 23)) cv1_ from CSat.below (fun j v hj => by rw [World_add_add]; exact hc1_ j v hj) HB.out)
            have HCS2 := Aside0.mk (show CSat wr (bd.add (i_.toNat * 23)) cv2_ from CSat.below (fun j v hj => by rw [World_add_add]; exact hc2_ j v hj) HB.out)
            have SZ1 := Aside0.mk (show (Try.prog.info? 34).map (fun i => i.size) = some cv1_.length by rw [Kd.K_len _ hK1]; exact size34)
            have SZ2 := Aside0.mk (show (Try.prog.info? 34).map (fun i => i.size) = some cv2_.length by rw [Kd.K_len _ hK2]; exact size34)
            have hM1 := mem_getD z34 p_ c_
            have hM2 := mem_getD z34 p_ c2_
            have hN := sm_next z34 p_ c_ c2_
            obtain ⟨x_, hx_⟩ : ∃ q, q = x.f8.getD i_.toNat z34 := ⟨_, rfl⟩
            obtain ⟨y_, hy_⟩ : ∃ q, q = y.f8.getD i_.toNat z34 := ⟨_, rfl⟩
            rw [← hx_] at hK1 hM1 hN
            rw [← hy_] at hK2 hM2 hN
            clear hx_ hy_
            have HK1 := Aside0.mk hK1
            have HK2 := Aside0.mk hK2
            have HM1 := Aside0.mk hM1
            have HM2 := Aside0.mk hM2
            have HN := Aside0.mk hN
            clear hK1 hK2 hc1_ hc2_ hM1 hM2 hN
            have HC_ := Aside0.mk c_
            replace p_ := eq_true p_
            replace c_ := eq_true c_
            replace c2_ := eq_true c2_
            go_upto_region 14 with (first | ((with_reducible refine gate_dst (N := 94) rfl ?_); (try (refine gate_guard (by rfl) ?_; dsimp only)); refine ld_event rfl rfl (by first | rfl | (go_simp; done) | (go_simp; rfl)) Try.underlying32 trivial (.slice (some ad) x.f8.length A8c) ((blk_cell BK1.out 22).trans rfl) ?_))
            refine start_ (n := 12) (S := fun w' => w'.heap[g1]? = some (.cells #[.int .i64 x.f0, .string x.f1, .string x.f2, .string x.f3, .int .i64 x.f4, .int .i64 x.f5.f0, .int .i64 x.f5.f1, .int .i64 x.f5.f2, .int .i64 x.f6.f0, .int .i64 x.f6.f1, .int .i64 x.f6.f2, .int .i64 x.f6.f3, .int .i64 x.f6.f4.f0, .int .i64 x.f6.f4.f1, .int .i64 x.f6.f4.f2, .int .i64 x.f6.f5.f0, .int .i64 x.f6.f5.f1, .int .i64 x.f6.f5.f2, .int .i64 x.f6.f6.f0, .int .i64 x.f6.f6.f1, .int .i64 x.f6.f7, .slice A7 x.f7.length A7c, .slice (some ad) x.f8.length A8c] 34 (0, 0)) ∧ w'.heap[g2]? = some (.cells #[.int .i64 y.f0, .string y.f1, .string y.f2, .string y.f3, .int .i64 y.f4, .int .i64 y.f5.f0, .int .i64 y.f5.f1, .int .i64 y.f5.f2, .int .i64 y.f6.f0, .int .i64 y.f6.f1, .int .i64 y.f6.f2, .int .i64 y.f6.f3, .int .i64 y.f6.f4.f0, .int .i64 y.f6.f4.f1, .int .i64 y.f6.f4.f2, .int .i64 y.f6.f5.f0, .int .i64 y.f6.f5.f1, .int .i64 y.f6.f5.f2, .int .i64 y.f6.f6.f0, .int .i64 y.f6.f6.f1, .int .i64 y.f6.f7, .slice B7 y.f7.length B7c, .slice (some bd) y.f8.length B8c] 34 (0, 0)) ∧ CSat w' (ad.add (i_.toNat * 23)) cv1_ ∧ CSat w' (bd.add (i_.toNat * 23)) cv2_) (ds := [10]) #[false, false, false, false, false, false, false, false, false, false, false, false] (by kernel_rfl) rfl rfl ⟨blk_below BK1.out (below_drew1 (Below.refl _ _)), blk_below BK2.out (below_drew1 (Below.refl _ _)), CSat.below HCS1.out (below_drew1 (Below.refl _ _)), CSat.below HCS2.out (below_drew1 (Below.refl _ _))⟩ (fun hHeld => ?_)
            have n0_ := Aside0.mk (below_drew1 HB.out)
            have n1_ := Aside0.mk (blk_drew BK1.out)
            have n2_ := Aside0.mk (blk_drew BK2.out)
            have n3_ := Aside0.mk (CSat.below HCS1.out (below_drew1 (Below.refl _ _)))
            have n4_ := Aside0.mk (CSat.below HCS2.out (below_drew1 (Below.refl _ _)))
            clear HB BK1 BK2 HCS1 HCS2
            have HB := n0_
            have BK1 := n1_
            have BK2 := n2_
            have HCS1 := n3_
            have HCS2 := n4_
            clear n0_ n1_ n2_ n3_ n4_
            generalize wr.drew = wv3_ at HB BK1 BK2 HCS1 HCS2 hHeld ⊢
            refine pure_ (i := 0) (N := some 99) (v := ?_) (a' := ?_) #[true, false, false, false, false, false, false, false, false, false, false, false] rfl rfl (by kernel_rfl) (fun _ _ _ h => h) (Or.inl ⟨by rfl, ?_⟩) ?_ ?_
            rotate_left
            · intro w'
              go_simp
              with_reducible rfl
            rotate_left
            · simp only [Act.put, List.setIfInBounds_toArray, List.set_cons_zero, List.set_cons_succ, i64_w, i32_w]
              rfl
            refine pure_ (i := 2) (N := some 101) (v := ?_) (a' := ?_) #[true, false, true, false, false, false, false, false, false, false, false, false] rfl rfl (by kernel_rfl) (fun _ _ _ h => h) (Or.inl ⟨by rfl, ?_⟩) ?_ ?_
            rotate_left
            · intro w'
              go_simp
              with_reducible rfl
            rotate_left
            · simp only [Act.put, List.setIfInBounds_toArray, List.set_cons_zero, List.set_cons_succ, i64_w, i32_w]
              rfl
            refine pure_ (i := 5) (N := some 104) (v := ?_) (a' := ?_) #[true, false, true, false, false, true, false, false, false, false, false, false] rfl rfl (by kernel_rfl) (fun _ _ _ h => h) (Or.inl ⟨by rfl, ?_⟩) ?_ ?_
            rotate_left
            · intro w'
              go_simp
              with_reducible rfl
            rotate_left
            · simp only [Act.put, List.setIfInBounds_toArray, List.set_cons_zero, List.set_cons_succ, i64_w, i32_w]
              rfl
            refine pure_ (i := 7) (N := some 106) (v := ?_) (a' := ?_) #[true, false, true, false, false, true, false, true, false, false, false, false] rfl rfl (by kernel_rfl) (fun _ _ _ h => h) (Or.inl ⟨by rfl, ?_⟩) ?_ ?_
            rotate_left
            · intro w'
              go_simp
              with_reducible rfl
            rotate_left
            · simp only [Act.put, List.setIfInBounds_toArray, List.set_cons_zero, List.set_cons_succ, i64_w, i32_w]
              rfl
            refine take_ (i := 1) (N := some 100) (v := ?_) (a' := ?_) #[true, true, true, false, false, true, false, true, false, false, false, false] rfl rfl (by kernel_rfl) (fun _ _ _ h => h) (Or.inl ⟨by rfl, ?_⟩) hHeld ?_ ?_
            rotate_left
            · rintro w' ⟨s1, s2, x0, x1⟩
              refine Eq.trans (ld_run rfl (by first | rfl | (go_simp; done) | (go_simp; rfl)) Try.underlying32 trivial (.slice (some ad) x.f8.length A8c) ((blk_cell s1 22).trans rfl)) ?_
              with_reducible rfl
            rotate_left
            · simp only [Act.put, List.setIfInBounds_toArray, List.set_cons_zero, List.set_cons_succ, i64_w, i32_w]
              rfl
            refine take_ (i := 6) (N := some 105) (v := ?_) (a' := ?_) #[true, true, true, false, false, true, true, true, false, false, false, false] rfl rfl (by kernel_rfl) (fun _ _ _ h => h) (Or.inl ⟨by rfl, ?_⟩) hHeld ?_ ?_
            rotate_left
            · rintro w' ⟨s1, s2, x0, x1⟩
              refine Eq.trans (ld_run rfl (by first | rfl | (go_simp; done) | (go_simp; rfl)) Try.underlying32 trivial (.slice (some bd) y.f8.length B8c) ((blk_cell s2 22).trans rfl)) ?_
              with_reducible rfl
            rotate_left
            · simp only [Act.put, List.setIfInBounds_toArray, List.set_cons_zero, List.set_cons_succ, i64_w, i32_w]
              rfl
            refine pure_ (i := 3) (N := some 102) (v := ?_) (a' := ?_) #[true, true, true, true, false, true, true, true, false, false, false, false] rfl rfl (by kernel_rfl) (fun _ _ _ h => h) (Or.inl ⟨by rfl, ?_⟩) ?_ ?_
            rotate_left
            · intro w'
              go_simp
              with_reducible rfl
            rotate_left
            · simp only [Act.put, List.setIfInBounds_toArray, List.set_cons_zero, List.set_cons_succ, i64_w, i32_w]
              rfl
            refine pure_ (i := 8) (N := some 107) (v := ?_) (a' := ?_) #[true, true, true, true, false, true, true, true, true, false, false, false] rfl rfl (by kernel_rfl) (fun _ _ _ h => h) (Or.inl ⟨by rfl, ?_⟩) ?_ ?_
            rotate_left
            · intro w'
              go_simp
              with_reducible rfl
            rotate_left
            · simp only [Act.put, List.setIfInBounds_toArray, List.set_cons_zero, List.set_cons_succ, i64_w, i32_w]
              rfl
            refine take_ (i := 4) (N := some 103) (v := ?_) (a' := ?_) #[true, true, true, true, true, true, true, true, true, false, false, false] rfl rfl (by kernel_rfl) (fun _ _ _ h => h) (Or.inl ⟨by rfl, ?_⟩) hHeld ?_ ?_
            rotate_left
            · rintro w' ⟨s1, s2, x0, x1⟩
              refine Eq.trans (lds_run rfl (by first | rfl | (go_simp; done) | (go_simp; rfl)) Try.underlying34 ⟨_, rfl⟩ cv1_ SZ1.out x0) ?_
              with_reducible rfl
            rotate_left
            · simp only [Act.put, List.setIfInBounds_toArray, List.set_cons_zero, List.set_cons_succ, i64_w, i32_w]
              rfl
            refine take_ (i := 9) (N := some 108) (v := ?_) (a' := ?_) #[true, true, true, true, true, true, true, true, true, true, false, false] rfl rfl (by kernel_rfl) (fun _ _ _ h => h) (Or.inl ⟨by rfl, ?_⟩) hHeld ?_ ?_
            rotate_left
            · rintro w' ⟨s1, s2, x0, x1⟩
              refine Eq.trans (lds_run rfl (by first | rfl | (go_simp; done) | (go_simp; rfl)) Try.underlying34 ⟨_, rfl⟩ cv2_ SZ2.out x1) ?_
              with_reducible rfl
            rotate_left
            · simp only [Act.put, List.setIfInBounds_toArray, List.set_cons_zero, List.set_cons_succ, i64_w, i32_w]
              rfl
            refine last_ (i := 10) (N := some 109) #[true, true, true, true, true, true, true, true, true, true, true, false] rfl rfl (by kernel_rfl) (by decide) (fun K hK => ?_)
            refine goes_ Try.func13 (by kernel_rfl) rfl #[.agg cv1_.toArray, .agg cv2_.toArray] (by rfl) rfl rfl (by (try simp only [List.map_toArray, List.map_cons, List.map_nil]); first | done | rfl) ?_
            with_reducible refine (EqOK.calls (HS.out _ HM1.out _ HM2.out) cv1_ cv2_ _ (Kd.K_below _ HB.out HK1.out) (Kd.K_below _ HB.out HK2.out)).mono ?_
            rintro e wv4_ ⟨rfl, hb⟩
            refine ⟨_, rfl, ?_⟩
            have n0_ := Aside0.mk (below_step HB.out hb)
            have n1_ := Aside0.mk (blk_below BK1.out hb)
            have n2_ := Aside0.mk (blk_below BK2.out hb)
            have n3_ := Aside0.mk (CSat.below HCS1.out hb)
            have n4_ := Aside0.mk (CSat.below HCS2.out hb)
            clear HB BK1 BK2 HCS1 HCS2
            have HB := n0_
            have BK1 := n1_
            have BK2 := n2_
            have HCS1 := n3_
            have HCS2 := n4_
            clear n0_ n1_ n2_ n3_ n4_
            clear hb
            refine hK.out _ _ ?_
            clear hK K
            refine norm_ (a' := ?_) ?_ ?_
            rotate_left
            · show Act.put _ (some 109) _ = _
              simp only [Act.put, List.setIfInBounds_toArray, List.set_cons_zero, List.set_cons_succ, i64_w, i32_w]
              rfl
            refine pure_ (i := 11) (N := some 8) (v := ?_) (a' := ?_) #[true, true, true, true, true, true, true, true, true, true, true, true] rfl rfl (by kernel_rfl) (fun _ _ _ h => h) (Or.inl ⟨by rfl, ?_⟩) ?_ ?_
            rotate_left
            · intro w'
              go_simp
              with_reducible rfl
            rotate_left
            · simp only [Act.put, List.setIfInBounds_toArray, List.set_cons_zero, List.set_cons_succ, i64_w, i32_w]
              rfl
            refine done_ (by kernel_rfl) ?_
            cases hbe : sm x_ y_ with
            | true =>
              rw [hbe] at HN
              go_wp2
              go_roundg (gk - 1)
              case measure => have := HQ.out; have := HC_.out; omega
              case rel => exact ⟨i_ + 1, by rw [show wrap64 (i_ + 1) = i_ + 1 from by have := HQ.out; have := HC_.out; have := Kd.C_max G8.out; unfold wrap64; omega], ⟨by have := HQ.out; have := HC_.out; omega⟩, ⟨by rw [← HX.out, HN.out, Bool.true_and]⟩, BK1, BK2, HB⟩
            | false =>
              rw [hbe] at HN
              go_wp2
              go_ret
              have hsm : sm x y = false := sm_false (fun e => by have h8 : sm x.f8 y.f8 = false := (by rw [← HX.out, HN.out, Bool.false_and]); rw [e, sm_self] at h8; cases h8)
              exact ⟨by rw [hsm]; rfl, HB.out⟩
          · have cb : decide (i_ < (x.f8.length : Int)) = false := decide_eq_false c_
            have hsm8 : sm x.f8 y.f8 = true := by rw [← HX.out]; exact sm_end _ _ _ (by omega) (by have := HL8.out; omega)
            have HSM8 := Aside0.mk hsm8
            clear c_ HQ HX hsm8
            go_wp2_with (first | ((with_reducible refine gate_dst (N := 94) rfl ?_); (try (refine gate_guard (by rfl) ?_; dsimp only)); refine ld_event rfl rfl (by first | rfl | (go_simp; done) | (go_simp; rfl)) Try.underlying32 trivial (.slice A8 x.f8.length A8c) ((blk_cell BK1.out 22).trans rfl) ?_))
            have hsm : sm x y = true := sm_true (S34_ext H0.out H1.out H2.out H3.out H4.out H5.out H6.out (sm_iff.1 HSM7.out) (sm_iff.1 HSM8.out))
            go_ret
            exact ⟨by rw [hsm]; rfl, HB.out⟩
  all_goals
    go_enter Try.func13, Try.ntmps13
    go_wp2_with (first | ((with_reducible refine gate_dst (N := 2) rfl ?_); (try (refine gate_guard (by rfl) ?_; dsimp only)); refine box_event ?hg (N := 2) ?hd (cs := #[.int .i64 x.f0, .string x.f1, .string x.f2, .string x.f3, .int .i64 x.f4, .int .i64 x.f5.f0, .int .i64 x.f5.f1, .int .i64 x.f5.f2, .int .i64 x.f6.f0, .int .i64 x.f6.f1, .int .i64 x.f6.f2, .int .i64 x.f6.f3, .int .i64 x.f6.f4.f0, .int .i64 x.f6.f4.f1, .int .i64 x.f6.f4.f2, .int .i64 x.f6.f5.f0, .int .i64 x.f6.f5.f1, .int .i64 x.f6.f5.f2, .int .i64 x.f6.f6.f0, .int .i64 x.f6.f6.f1, .int .i64 x.f6.f7, .slice A7 x.f7.length A7c, .slice A8 x.f8.length A8c]) (t := 34) ?hr ?_; (case hd => rfl); (case hg => rfl); (case hr => first | (go_simp; done) | (go_simp; rfl)); intro g1 hg wv1_ hbox hb; have n0_ := Aside0.mk (below_step HB.out hb); have n1_ := Aside0.mk (hbox); have n2_ := Aside0.mk ((show w.heap.size ≤ g1 by rw [hg]; exact below_size HB.out)); clear HB; have HB := n0_; have BK1 := n1_; have ORD := n2_; clear n0_ n1_ n2_; clear hb hbox hg) | ((with_reducible refine gate_dst (N := 3) rfl ?_); (try (refine gate_guard (by rfl) ?_; dsimp only)); refine box_event ?hg (N := 3) ?hd (cs := #[.int .i64 y.f0, .string y.f1, .string y.f2, .string y.f3, .int .i64 y.f4, .int .i64 y.f5.f0, .int .i64 y.f5.f1, .int .i64 y.f5.f2, .int .i64 y.f6.f0, .int .i64 y.f6.f1, .int .i64 y.f6.f2, .int .i64 y.f6.f3, .int .i64 y.f6.f4.f0, .int .i64 y.f6.f4.f1, .int .i64 y.f6.f4.f2, .int .i64 y.f6.f5.f0, .int .i64 y.f6.f5.f1, .int .i64 y.f6.f5.f2, .int .i64 y.f6.f6.f0, .int .i64 y.f6.f6.f1, .int .i64 y.f6.f7, .slice B7 y.f7.length B7c, .slice B8 y.f8.length B8c]) (t := 34) ?hr ?_; (case hd => rfl); (case hg => rfl); (case hr => first | (go_simp; done) | (go_simp; rfl)); intro g2 hg wv2_ hbox hb; have n0_ := Aside0.mk (below_step HB.out hb); have n1_ := Aside0.mk (blk_below BK1.out hb); have n2_ := Aside0.mk (hbox); have n3_ := Aside0.mk (And.intro ORD.out (show g1 < g2 by rw [hg]; exact blk_lt BK1.out)); clear HB BK1 ORD; have HB := n0_; have BK1 := n1_; have BK2 := n2_; have ORD := n3_; clear n0_ n1_ n2_ n3_; clear hb hbox hg) | ((with_reducible refine gate_dst (N := 10) rfl ?_); (try (refine gate_guard (by rfl) ?_; dsimp only)); refine ld_event rfl rfl (by first | rfl | (go_simp; done) | (go_simp; rfl)) Try.underlying3 trivial (.int .i64 x.f0) ((blk_cell BK1.out 0).trans rfl) ?_) | ((with_reducible refine gate_dst (N := 12) rfl ?_); (try (refine gate_guard (by rfl) ?_; dsimp only)); refine ld_event rfl rfl (by first | rfl | (go_simp; done) | (go_simp; rfl)) Try.underlying3 trivial (.int .i64 y.f0) ((blk_cell BK2.out 0).trans rfl) ?_) | ((with_reducible refine gate_dst (N := 16) rfl ?_); (try (refine gate_guard (by rfl) ?_; dsimp only)); refine ld_event rfl rfl (by first | rfl | (go_simp; done) | (go_simp; rfl)) Try.underlying9 trivial (.string x.f1) ((blk_cell BK1.out 1).trans rfl) ?_) | ((with_reducible refine gate_dst (N := 18) rfl ?_); (try (refine gate_guard (by rfl) ?_; dsimp only)); refine ld_event rfl rfl (by first | rfl | (go_simp; done) | (go_simp; rfl)) Try.underlying9 trivial (.string y.f1) ((blk_cell BK2.out 1).trans rfl) ?_) | ((with_reducible refine gate_dst (N := 23) rfl ?_); (try (refine gate_guard (by rfl) ?_; dsimp only)); refine ld_event rfl rfl (by first | rfl | (go_simp; done) | (go_simp; rfl)) Try.underlying9 trivial (.string x.f2) ((blk_cell BK1.out 2).trans rfl) ?_) | ((with_reducible refine gate_dst (N := 25) rfl ?_); (try (refine gate_guard (by rfl) ?_; dsimp only)); refine ld_event rfl rfl (by first | rfl | (go_simp; done) | (go_simp; rfl)) Try.underlying9 trivial (.string y.f2) ((blk_cell BK2.out 2).trans rfl) ?_) | ((with_reducible refine gate_dst (N := 30) rfl ?_); (try (refine gate_guard (by rfl) ?_; dsimp only)); refine ld_event rfl rfl (by first | rfl | (go_simp; done) | (go_simp; rfl)) Try.underlying9 trivial (.string x.f3) ((blk_cell BK1.out 3).trans rfl) ?_) | ((with_reducible refine gate_dst (N := 32) rfl ?_); (try (refine gate_guard (by rfl) ?_; dsimp only)); refine ld_event rfl rfl (by first | rfl | (go_simp; done) | (go_simp; rfl)) Try.underlying9 trivial (.string y.f3) ((blk_cell BK2.out 3).trans rfl) ?_) | ((with_reducible refine gate_dst (N := 37) rfl ?_); (try (refine gate_guard (by rfl) ?_; dsimp only)); refine ld_event rfl rfl (by first | rfl | (go_simp; done) | (go_simp; rfl)) Try.underlying3 trivial (.int .i64 x.f4) ((blk_cell BK1.out 4).trans rfl) ?_) | ((with_reducible refine gate_dst (N := 39) rfl ?_); (try (refine gate_guard (by rfl) ?_; dsimp only)); refine ld_event rfl rfl (by first | rfl | (go_simp; done) | (go_simp; rfl)) Try.underlying3 trivial (.int .i64 y.f4) ((blk_cell BK2.out 4).trans rfl) ?_) | ((with_reducible refine gate_dst (N := 44) rfl ?_); (try (refine gate_guard (by rfl) ?_; dsimp only)); refine ldb_event rfl rfl (by first | rfl | (go_simp; done) | (go_simp; rfl)) Try.underlying23 ⟨_, rfl⟩ BK1.out 3 size23 [.int .i64 x.f5.f0, .int .i64 x.f5.f1, .int .i64 x.f5.f2] rfl rfl ?_) | ((with_reducible refine gate_dst (N := 46) rfl ?_); (try (refine gate_guard (by rfl) ?_; dsimp only)); refine ldb_event rfl rfl (by first | rfl | (go_simp; done) | (go_simp; rfl)) Try.underlying23 ⟨_, rfl⟩ BK2.out 3 size23 [.int .i64 y.f5.f0, .int .i64 y.f5.f1, .int .i64 y.f5.f2] rfl rfl ?_) | ((with_reducible refine gate_dst (N := 51) rfl ?_); (try (refine gate_guard (by rfl) ?_; dsimp only)); refine ldb_event rfl rfl (by first | rfl | (go_simp; done) | (go_simp; rfl)) Try.underlying30 ⟨_, rfl⟩ BK1.out 13 size30 [.int .i64 x.f6.f0, .int .i64 x.f6.f1, .int .i64 x.f6.f2, .int .i64 x.f6.f3, .int .i64 x.f6.f4.f0, .int .i64 x.f6.f4.f1, .int .i64 x.f6.f4.f2, .int .i64 x.f6.f5.f0, .int .i64 x.f6.f5.f1, .int .i64 x.f6.f5.f2, .int .i64 x.f6.f6.f0, .int .i64 x.f6.f6.f1, .int .i64 x.f6.f7] rfl rfl ?_) | ((with_reducible refine gate_dst (N := 53) rfl ?_); (try (refine gate_guard (by rfl) ?_; dsimp only)); refine ldb_event rfl rfl (by first | rfl | (go_simp; done) | (go_simp; rfl)) Try.underlying30 ⟨_, rfl⟩ BK2.out 13 size30 [.int .i64 y.f6.f0, .int .i64 y.f6.f1, .int .i64 y.f6.f2, .int .i64 y.f6.f3, .int .i64 y.f6.f4.f0, .int .i64 y.f6.f4.f1, .int .i64 y.f6.f4.f2, .int .i64 y.f6.f5.f0, .int .i64 y.f6.f5.f1, .int .i64 y.f6.f5.f2, .int .i64 y.f6.f6.f0, .int .i64 y.f6.f6.f1, .int .i64 y.f6.f7] rfl rfl ?_) | ((with_reducible refine gate_dst (N := 57) rfl ?_); (try (refine gate_guard (by rfl) ?_; dsimp only)); refine ld_event rfl rfl (by first | rfl | (go_simp; done) | (go_simp; rfl)) Try.underlying31 trivial (.slice A7 x.f7.length A7c) ((blk_cell BK1.out 21).trans rfl) ?_) | ((with_reducible refine gate_dst (N := 60) rfl ?_); (try (refine gate_guard (by rfl) ?_; dsimp only)); refine ld_event rfl rfl (by first | rfl | (go_simp; done) | (go_simp; rfl)) Try.underlying31 trivial (.slice B7 y.f7.length B7c) ((blk_cell BK2.out 21).trans rfl) ?_) | ((with_reducible refine gate_dst (N := 65) rfl ?_); (try (refine gate_guard (by rfl) ?_; dsimp only)); refine ld_event rfl rfl (by first | rfl | (go_simp; done) | (go_simp; rfl)) Try.underlying32 trivial (.slice A8 x.f8.length A8c) ((blk_cell BK1.out 22).trans rfl) ?_) | ((with_reducible refine gate_dst (N := 68) rfl ?_); (try (refine gate_guard (by rfl) ?_; dsimp only)); refine ld_event rfl rfl (by first | rfl | (go_simp; done) | (go_simp; rfl)) Try.underlying32 trivial (.slice B8 y.f8.length B8c) ((blk_cell BK2.out 22).trans rfl) ?_))
    go_ret
    exact ⟨by rw [hsm]; rfl, HB.out⟩
end Go.Proofs.Ytkfbkjcdngipcaa.PTreeEquals
end
section
namespace Go.Proofs.Ytkfbkjcdngipcaa.PTreeEquals
open Go.RowKit Go.Proofs.YtkfbkjcdngipcaaW.PrintWords Go.Proofs.YtkfbkjcdngipcaaW.PrintLast Go.Proofs.YtkfbkjcdngipcaaW.PrintMore
attribute [local go_sem 5000] eqlD eqlR neqD neqR
attribute [local go_sem] max2_int min2_int max_two min_two max_three min_three max_four min_four
set_option linter.unusedVariables false
set_option linter.unusedSimpArgs false
theorem sameCons.lt : ∀ (n : Nat) (x y : S34), S34.wt x < n → x.wf → EqOK k34 13 x y := by
  intro n
  induction n with
  | zero => intro x y h; omega
  | succ n ih =>
    intro x y h hw
    rw [S34.wf_eq] at hw
    obtain ⟨_, h1, _, h2⟩ := hw
    rw [S54.wfs_iff] at h1
    rw [S34.wfs_iff] at h2
    refine sameCon.of x y h1 (fun a ha b hb => ih a b ?_ (h2 a ha))
    have h3 := S34.wt_le ha
    have h4 := S34.wt_eq x
    omega
theorem sameCon.all (x y : S34) (hw : x.wf) : EqOK k34 13 x y := sameCons.lt _ x y (Nat.lt_succ_self _) hw
set_option maxHeartbeats 32000000 in
set_option maxRecDepth 100000 in
theorem refEqual.all (x y : S36) (hw4 : ∀ a ∈ x.f4, a.f2.wf) (hw5 : x.f5.wf) : EqOK k36 8 x y := by
  intro cs ds w hK1 hK2
  obtain ⟨A2, A2c, A3, A3c, A4, A4c, A7, A7c, A8, A8c, rfl, l2, g2, l3, g3, l4, g4, l7, g7, l8, g8⟩ := k36_open hK1
  obtain ⟨B2, B2c, B3, B3c, B4, B4c, B7, B7c, B8, B8c, rfl, p2, q2, p3, q3, p4, q4, p7, q7, p8, q8⟩ := k36_open hK2
  have hu36 := Try.underlying36
  have hu34 := Try.underlying34
  have hu23 := Try.underlying23
  have hu30 := Try.underlying30
  have hu28 := Try.underlying28
  have hu56 := Try.underlying56
  have hu54 := Try.underlying54
  have HW4 := Aside0.mk hw4
  have HW5 := Aside0.mk hw5
  have L2 := Aside0.mk l2
  clear l2
  have G2 := Aside0.mk g2
  clear g2
  have L3 := Aside0.mk l3
  clear l3
  have G3 := Aside0.mk g3
  clear g3
  have L4 := Aside0.mk l4
  clear l4
  have G4 := Aside0.mk g4
  clear g4
  have L7 := Aside0.mk l7
  clear l7
  have G7 := Aside0.mk g7
  clear g7
  have L8 := Aside0.mk l8
  clear l8
  have G8 := Aside0.mk g8
  clear g8
  have P2 := Aside0.mk p2
  clear p2
  have Q2 := Aside0.mk q2
  clear q2
  have P3 := Aside0.mk p3
  clear p3
  have Q3 := Aside0.mk q3
  clear q3
  have P4 := Aside0.mk p4
  clear p4
  have Q4 := Aside0.mk q4
  clear q4
  have P7 := Aside0.mk p7
  clear p7
  have Q7 := Aside0.mk q7
  clear q7
  have P8 := Aside0.mk p8
  clear p8
  have Q8 := Aside0.mk q8
  clear q8
  clear hK1 hK2 hw4 hw5
  have HB := Aside0.mk (Below.refl w.heap.size w)
  refine (Classical.em (x.f0 = y.f0)).elim (fun h0 => ?_) (fun h0 => ?_)
  rotate_left
  have ct0 : (x.f0.toList == y.f0.toList) = false := beq_eq_false_iff_ne.mpr (fun e => h0 ((toList_iff _ _).1 e))
  have cn0 : (x.f0.toList != y.f0.toList) = true := bne_iff_ne.mpr (fun e => h0 ((toList_iff _ _).1 e))
  have hsm : sm x y = false := sm_false (fun e => h0 (by rw [e]))
  clear h0
  rotate_right
  have ct0 : (x.f0.toList == y.f0.toList) = true := beq_iff_eq.mpr (by rw [h0])
  have cn0 : (x.f0.toList != y.f0.toList) = false := bne_eq_false_iff_eq.mpr (by rw [h0])
  have H0 := Aside0.mk h0
  clear h0
  refine (Classical.em (x.f1 = y.f1)).elim (fun h1 => ?_) (fun h1 => ?_)
  rotate_left
  have ct1 : sm x.f1 y.f1 = false := sm_false h1
  have hsm : sm x y = false := sm_false (fun e => h1 (by rw [e]))
  clear h1
  rotate_right
  have ct1 : sm x.f1 y.f1 = true := sm_true h1
  have H1 := Aside0.mk h1
  clear h1
  refine (Classical.em (x.f2 = y.f2)).elim (fun h2 => ?_) (fun h2 => ?_)
  rotate_left
  have ct2 : sm x.f2 y.f2 = false := sm_false h2
  have hsm : sm x y = false := sm_false (fun e => h2 (by rw [e]))
  clear h2
  rotate_right
  have ct2 : sm x.f2 y.f2 = true := sm_true h2
  have H2 := Aside0.mk h2
  clear h2
  refine (Classical.em (x.f3 = y.f3)).elim (fun h3 => ?_) (fun h3 => ?_)
  rotate_left
  have ct3 : sm x.f3 y.f3 = false := sm_false h3
  have hsm : sm x y = false := sm_false (fun e => h3 (by rw [e]))
  clear h3
  rotate_right
  have ct3 : sm x.f3 y.f3 = true := sm_true h3
  have H3 := Aside0.mk h3
  clear h3
  refine (Classical.em (x.f5 = y.f5)).elim (fun h4 => ?_) (fun h4 => ?_)
  rotate_left
  have ct4 : sm x.f5 y.f5 = false := sm_false h4
  have hsm : sm x y = false := sm_false (fun e => h4 (by rw [e]))
  clear h4
  rotate_right
  have ct4 : sm x.f5 y.f5 = true := sm_true h4
  have H4 := Aside0.mk h4
  clear h4
  refine (Classical.em (x.f4.length = y.f4.length)).elim (fun hl4 => ?_) (fun hl4 => ?_)
  rotate_left
  have ct9 : ((x.f4.length : Int) != (y.f4.length : Int)) = true := bne_iff_ne.mpr (by omega)
  have hsm : sm x y = false := sm_false (fun e => hl4 (by rw [e]))
  clear hl4
  rotate_right
  have ct9 : ((x.f4.length : Int) != (y.f4.length : Int)) = false := bne_eq_false_iff_eq.mpr (by omega)
  have HL4 := Aside0.mk hl4
  clear hl4
  · go_enter Try.func8, Try.ntmps8
    go_wp2_with (first | ((with_reducible refine gate_dst (N := 2) rfl ?_); (try (refine gate_guard (by rfl) ?_; dsimp only)); refine box_event ?hg (N := 2) ?hd (cs := #[.string x.f0, .int .i64 x.f1.f0, .int .i64 x.f1.f1, .int .i64 x.f1.f2, .slice A2 x.f2.length A2c, .slice A3 x.f3.length A3c, .slice A4 x.f4.length A4c, .int .i64 x.f5.f0, .string x.f5.f1, .string x.f5.f2, .string x.f5.f3, .int .i64 x.f5.f4, .int .i64 x.f5.f5.f0, .int .i64 x.f5.f5.f1, .int .i64 x.f5.f5.f2, .int .i64 x.f5.f6.f0, .int .i64 x.f5.f6.f1, .int .i64 x.f5.f6.f2, .int .i64 x.f5.f6.f3, .int .i64 x.f5.f6.f4.f0, .int .i64 x.f5.f6.f4.f1, .int .i64 x.f5.f6.f4.f2, .int .i64 x.f5.f6.f5.f0, .int .i64 x.f5.f6.f5.f1, .int .i64 x.f5.f6.f5.f2, .int .i64 x.f5.f6.f6.f0, .int .i64 x.f5.f6.f6.f1, .int .i64 x.f5.f6.f7, .slice A7 x.f5.f7.length A7c, .slice A8 x.f5.f8.length A8c]) (t := 36) ?hr ?_; (case hd => rfl); (case hg => rfl); (case hr => first | (go_simp; done) | (go_simp; rfl)); intro g1 hg wv1_ hbox hb; have n0_ := Aside0.mk (below_step HB.out hb); have n1_ := Aside0.mk (hbox); have n2_ := Aside0.mk ((show w.heap.size ≤ g1 by rw [hg]; exact below_size HB.out)); clear HB; have HB := n0_; have BK1 := n1_; have ORD := n2_; clear n0_ n1_ n2_; clear hb hbox hg) | ((with_reducible refine gate_dst (N := 3) rfl ?_); (try (refine gate_guard (by rfl) ?_; dsimp only)); refine box_event ?hg (N := 3) ?hd (cs := #[.string y.f0, .int .i64 y.f1.f0, .int .i64 y.f1.f1, .int .i64 y.f1.f2, .slice B2 y.f2.length B2c, .slice B3 y.f3.length B3c, .slice B4 y.f4.length B4c, .int .i64 y.f5.f0, .string y.f5.f1, .string y.f5.f2, .string y.f5.f3, .int .i64 y.f5.f4, .int .i64 y.f5.f5.f0, .int .i64 y.f5.f5.f1, .int .i64 y.f5.f5.f2, .int .i64 y.f5.f6.f0, .int .i64 y.f5.f6.f1, .int .i64 y.f5.f6.f2, .int .i64 y.f5.f6.f3, .int .i64 y.f5.f6.f4.f0, .int .i64 y.f5.f6.f4.f1, .int .i64 y.f5.f6.f4.f2, .int .i64 y.f5.f6.f5.f0, .int .i64 y.f5.f6.f5.f1, .int .i64 y.f5.f6.f5.f2, .int .i64 y.f5.f6.f6.f0, .int .i64 y.f5.f6.f6.f1, .int .i64 y.f5.f6.f7, .slice B7 y.f5.f7.length B7c, .slice B8 y.f5.f8.length B8c]) (t := 36) ?hr ?_; (case hd => rfl); (case hg => rfl); (case hr => first | (go_simp; done) | (go_simp; rfl)); intro g2 hg wv2_ hbox hb; have n0_ := Aside0.mk (below_step HB.out hb); have n1_ := Aside0.mk (blk_below BK1.out hb); have n2_ := Aside0.mk (hbox); have n3_ := Aside0.mk (And.intro ORD.out (show g1 < g2 by rw [hg]; exact blk_lt BK1.out)); clear HB BK1 ORD; have HB := n0_; have BK1 := n1_; have BK2 := n2_; have ORD := n3_; clear n0_ n1_ n2_ n3_; clear hb hbox hg) | ((with_reducible refine gate_dst (N := 12) rfl ?_); (try (refine gate_guard (by rfl) ?_; dsimp only)); refine ld_event rfl rfl (by first | rfl | (go_simp; done) | (go_simp; rfl)) Try.underlying24 trivial (.slice A2 x.f2.length A2c) ((blk_cell BK1.out 4).trans rfl) ?_) | ((with_reducible refine gate_dst (N := 14) rfl ?_); (try (refine gate_guard (by rfl) ?_; dsimp only)); refine ld_event rfl rfl (by first | rfl | (go_simp; done) | (go_simp; rfl)) Try.underlying24 trivial (.slice B2 y.f2.length B2c) ((blk_cell BK2.out 4).trans rfl) ?_) | ((with_reducible refine gate_dst (N := 17) rfl ?_); (try (refine gate_guard (by rfl) ?_; dsimp only)); refine ld_event rfl rfl (by first | rfl | (go_simp; done) | (go_simp; rfl)) Try.underlying25 trivial (.slice A3 x.f3.length A3c) ((blk_cell BK1.out 5).trans rfl) ?_) | ((with_reducible refine gate_dst (N := 19) rfl ?_); (try (refine gate_guard (by rfl) ?_; dsimp only)); refine ld_event rfl rfl (by first | rfl | (go_simp; done) | (go_simp; rfl)) Try.underlying25 trivial (.slice B3 y.f3.length B3c) ((blk_cell BK2.out 5).trans rfl) ?_) | ((with_reducible refine gate_dst (N := 27) rfl ?_); (try (refine gate_guard (by rfl) ?_; dsimp only)); refine ld_event rfl rfl (by first | rfl | (go_simp; done) | (go_simp; rfl)) Try.underlying9 trivial (.string x.f0) ((blk_cell BK1.out 0).trans rfl) ?_) | ((with_reducible refine gate_dst (N := 29) rfl ?_); (try (refine gate_guard (by rfl) ?_; dsimp only)); refine ld_event rfl rfl (by first | rfl | (go_simp; done) | (go_simp; rfl)) Try.underlying9 trivial (.string y.f0) ((blk_cell BK2.out 0).trans rfl) ?_) | ((with_reducible refine gate_dst (N := 52) rfl ?_); (try (refine gate_guard (by rfl) ?_; dsimp only)); refine ld_event rfl rfl (by first | rfl | (go_simp; done) | (go_simp; rfl)) Try.underlying26 trivial (.slice A4 x.f4.length A4c) ((blk_cell BK1.out 6).trans rfl) ?_) | ((with_reducible refine gate_dst (N := 55) rfl ?_); (try (refine gate_guard (by rfl) ?_; dsimp only)); refine ld_event rfl rfl (by first | rfl | (go_simp; done) | (go_simp; rfl)) Try.underlying26 trivial (.slice B4 y.f4.length B4c) ((blk_cell BK2.out 6).trans rfl) ?_) | ((with_reducible refine gate_dst (N := 22) rfl ?_); (try (refine gate_guard (by rfl) ?_; dsimp only)); refine ldb_event rfl rfl (by first | rfl | (go_simp; done) | (go_simp; rfl)) Try.underlying34 ⟨_, rfl⟩ BK1.out 23 size34 [.int .i64 x.f5.f0, .string x.f5.f1, .string x.f5.f2, .string x.f5.f3, .int .i64 x.f5.f4, .int .i64 x.f5.f5.f0, .int .i64 x.f5.f5.f1, .int .i64 x.f5.f5.f2, .int .i64 x.f5.f6.f0, .int .i64 x.f5.f6.f1, .int .i64 x.f5.f6.f2, .int .i64 x.f5.f6.f3, .int .i64 x.f5.f6.f4.f0, .int .i64 x.f5.f6.f4.f1, .int .i64 x.f5.f6.f4.f2, .int .i64 x.f5.f6.f5.f0, .int .i64 x.f5.f6.f5.f1, .int .i64 x.f5.f6.f5.f2, .int .i64 x.f5.f6.f6.f0, .int .i64 x.f5.f6.f6.f1, .int .i64 x.f5.f6.f7, .slice A7 x.f5.f7.length A7c, .slice A8 x.f5.f8.length A8c] rfl rfl ?_) | ((with_reducible refine gate_dst (N := 24) rfl ?_); (try (refine gate_guard (by rfl) ?_; dsimp only)); refine ldb_event rfl rfl (by first | rfl | (go_simp; done) | (go_simp; rfl)) Try.underlying34 ⟨_, rfl⟩ BK2.out 23 size34 [.int .i64 y.f5.f0, .string y.f5.f1, .string y.f5.f2, .string y.f5.f3, .int .i64 y.f5.f4, .int .i64 y.f5.f5.f0, .int .i64 y.f5.f5.f1, .int .i64 y.f5.f5.f2, .int .i64 y.f5.f6.f0, .int .i64 y.f5.f6.f1, .int .i64 y.f5.f6.f2, .int .i64 y.f5.f6.f3, .int .i64 y.f5.f6.f4.f0, .int .i64 y.f5.f6.f4.f1, .int .i64 y.f5.f6.f4.f2, .int .i64 y.f5.f6.f5.f0, .int .i64 y.f5.f6.f5.f1, .int .i64 y.f5.f6.f5.f2, .int .i64 y.f5.f6.f6.f0, .int .i64 y.f5.f6.f6.f1, .int .i64 y.f5.f6.f7, .slice B7 y.f5.f7.length B7c, .slice B8 y.f5.f8.length B8c] rfl rfl ?_) | ((with_reducible refine gate_dst (N := 33) rfl ?_); (try (refine gate_guard (by rfl) ?_; dsimp only)); refine ldb_event rfl rfl (by first | rfl | (go_simp; done) | (go_simp; rfl)) Try.underlying23 ⟨_, rfl⟩ BK1.out 3 size23 [.int .i64 x.f1.f0, .int .i64 x.f1.f1, .int .i64 x.f1.f2] rfl rfl ?_) | ((with_reducible refine gate_dst (N := 35) rfl ?_); (try (refine gate_guard (by rfl) ?_; dsimp only)); refine ldb_event rfl rfl (by first | rfl | (go_simp; done) | (go_simp; rfl)) Try.underlying23 ⟨_, rfl⟩ BK2.out 3 size23 [.int .i64 y.f1.f0, .int .i64 y.f1.f1, .int .i64 y.f1.f2] rfl rfl ?_) | ((with_reducible refine gate_callee (f := 27) rfl ?_); (try (refine gate_guard (by rfl) ?_; dsimp only)); refine goesL_ (some 15) rfl rfl Try.func27 (by kernel_rfl) rfl #[.slice A2 x.f2.length A2c, .slice B2 y.f2.length B2c] rfl (by (try simp only [List.map_toArray, List.map_cons, List.map_nil]); first | done | rfl) ?_; (with_reducible refine (sameDates.calls A2 A2c x.f2 B2 B2c y.f2 _ (Kd.C_below G2.out HB.out) L2.out (Kd.C_below Q2.out HB.out) P2.out).mono ?_); rintro e wv3_ ⟨rfl, hb⟩; refine ⟨_, rfl, ?_⟩; have n0_ := Aside0.mk (below_step HB.out hb); have n1_ := Aside0.mk (blk_below BK1.out hb); have n2_ := Aside0.mk (blk_below BK2.out hb); clear HB BK1 BK2; have HB := n0_; have BK1 := n1_; have BK2 := n2_; clear n0_ n1_ n2_; clear hb) | ((with_reducible refine gate_callee (f := 28) rfl ?_); (try (refine gate_guard (by rfl) ?_; dsimp only)); refine goesL_ (some 20) rfl rfl Try.func28 (by kernel_rfl) rfl #[.slice A3 x.f3.length A3c, .slice B3 y.f3.length B3c] rfl (by (try simp only [List.map_toArray, List.map_cons, List.map_nil]); first | done | rfl) ?_; (with_reducible refine (sameTexts.calls A3 A3c x.f3 B3 B3c y.f3 _ (Kd.C_below G3.out HB.out) L3.out (Kd.C_below Q3.out HB.out) P3.out).mono ?_); rintro e wv4_ ⟨rfl, hb⟩; refine ⟨_, rfl, ?_⟩; have n0_ := Aside0.mk (below_step HB.out hb); have n1_ := Aside0.mk (blk_below BK1.out hb); have n2_ := Aside0.mk (blk_below BK2.out hb); clear HB BK1 BK2; have HB := n0_; have BK1 := n1_; have BK2 := n2_; clear n0_ n1_ n2_; clear hb) | ((with_reducible refine gate_callee (f := 13) rfl ?_); (try (refine gate_guard (by rfl) ?_; dsimp only)); refine goesL_ (some 25) rfl rfl Try.func13 (by kernel_rfl) rfl #[.agg #[.int .i64 x.f5.f0, .string x.f5.f1, .string x.f5.f2, .string x.f5.f3, .int .i64 x.f5.f4, .int .i64 x.f5.f5.f0, .int .i64 x.f5.f5.f1, .int .i64 x.f5.f5.f2, .int .i64 x.f5.f6.f0, .int .i64 x.f5.f6.f1, .int .i64 x.f5.f6.f2, .int .i64 x.f5.f6.f3, .int .i64 x.f5.f6.f4.f0, .int .i64 x.f5.f6.f4.f1, .int .i64 x.f5.f6.f4.f2, .int .i64 x.f5.f6.f5.f0, .int .i64 x.f5.f6.f5.f1, .int .i64 x.f5.f6.f5.f2, .int .i64 x.f5.f6.f6.f0, .int .i64 x.f5.f6.f6.f1, .int .i64 x.f5.f6.f7, .slice A7 x.f5.f7.length A7c, .slice A8 x.f5.f8.length A8c], .agg #[.int .i64 y.f5.f0, .string y.f5.f1, .string y.f5.f2, .string y.f5.f3, .int .i64 y.f5.f4, .int .i64 y.f5.f5.f0, .int .i64 y.f5.f5.f1, .int .i64 y.f5.f5.f2, .int .i64 y.f5.f6.f0, .int .i64 y.f5.f6.f1, .int .i64 y.f5.f6.f2, .int .i64 y.f5.f6.f3, .int .i64 y.f5.f6.f4.f0, .int .i64 y.f5.f6.f4.f1, .int .i64 y.f5.f6.f4.f2, .int .i64 y.f5.f6.f5.f0, .int .i64 y.f5.f6.f5.f1, .int .i64 y.f5.f6.f5.f2, .int .i64 y.f5.f6.f6.f0, .int .i64 y.f5.f6.f6.f1, .int .i64 y.f5.f6.f7, .slice B7 y.f5.f7.length B7c, .slice B8 y.f5.f8.length B8c]] rfl (by (try simp only [List.map_toArray, List.map_cons, List.map_nil]); first | done | rfl) ?_; (with_reducible refine (EqOK.calls (sameCon.all x.f5 y.f5 HW5.out) [.int .i64 x.f5.f0, .string x.f5.f1, .string x.f5.f2, .string x.f5.f3, .int .i64 x.f5.f4, .int .i64 x.f5.f5.f0, .int .i64 x.f5.f5.f1, .int .i64 x.f5.f5.f2, .int .i64 x.f5.f6.f0, .int .i64 x.f5.f6.f1, .int .i64 x.f5.f6.f2, .int .i64 x.f5.f6.f3, .int .i64 x.f5.f6.f4.f0, .int .i64 x.f5.f6.f4.f1, .int .i64 x.f5.f6.f4.f2, .int .i64 x.f5.f6.f5.f0, .int .i64 x.f5.f6.f5.f1, .int .i64 x.f5.f6.f5.f2, .int .i64 x.f5.f6.f6.f0, .int .i64 x.f5.f6.f6.f1, .int .i64 x.f5.f6.f7, .slice A7 x.f5.f7.length A7c, .slice A8 x.f5.f8.length A8c] [.int .i64 y.f5.f0, .string y.f5.f1, .string y.f5.f2, .string y.f5.f3, .int .i64 y.f5.f4, .int .i64 y.f5.f5.f0, .int .i64 y.f5.f5.f1, .int .i64 y.f5.f5.f2, .int .i64 y.f5.f6.f0, .int .i64 y.f5.f6.f1, .int .i64 y.f5.f6.f2, .int .i64 y.f5.f6.f3, .int .i64 y.f5.f6.f4.f0, .int .i64 y.f5.f6.f4.f1, .int .i64 y.f5.f6.f4.f2, .int .i64 y.f5.f6.f5.f0, .int .i64 y.f5.f6.f5.f1, .int .i64 y.f5.f6.f5.f2, .int .i64 y.f5.f6.f6.f0, .int .i64 y.f5.f6.f6.f1, .int .i64 y.f5.f6.f7, .slice B7 y.f5.f7.length B7c, .slice B8 y.f5.f8.length B8c] _ (k34_mk _ x.f5 L7.out (Kd.C_below G7.out HB.out) L8.out (Kd.C_below G8.out HB.out)) (k34_mk _ y.f5 P7.out (Kd.C_below Q7.out HB.out) P8.out (Kd.C_below Q8.out HB.out))).mono ?_); rintro e wv5_ ⟨rfl, hb⟩; refine ⟨_, rfl, ?_⟩; have n0_ := Aside0.mk (below_step HB.out hb); have n1_ := Aside0.mk (blk_below BK1.out hb); have n2_ := Aside0.mk (blk_below BK2.out hb); clear HB BK1 BK2; have HB := n0_; have BK1 := n1_; have BK2 := n2_; clear n0_ n1_ n2_; clear hb))
    clear ct0 cn0 ct1 ct2 ct3 ct4 ct9
    go_loopg [8] x.f4.length (fun kq v8 w' => ∃ (i_ : Int), v8 = .int .i64 i_ ∧ Aside0 (0 ≤ i_ ∧ i_ + (kq : Int) = (x.f4.length : Int)) ∧ Aside0 (sm (x.f4.drop i_.toNat) (y.f4.drop i_.toNat) = sm x.f4 y.f4) ∧ Aside0 (w'.heap[g1]? = some (.cells #[.string x.f0, .int .i64 x.f1.f0, .int .i64 x.f1.f1, .int .i64 x.f1.f2, .slice A2 x.f2.length A2c, .slice A3 x.f3.length A3c, .slice A4 x.f4.length A4c, .int .i64 x.f5.f0, .string x.f5.f1, .string x.f5.f2, .string x.f5.f3, .int .i64 x.f5.f4, .int .i64 x.f5.f5.f0, .int .i64 x.f5.f5.f1, .int .i64 x.f5.f5.f2, .int .i64 x.f5.f6.f0, .int .i64 x.f5.f6.f1, .int .i64 x.f5.f6.f2, .int .i64 x.f5.f6.f3, .int .i64 x.f5.f6.f4.f0, .int .i64 x.f5.f6.f4.f1, .int .i64 x.f5.f6.f4.f2, .int .i64 x.f5.f6.f5.f0, .int .i64 x.f5.f6.f5.f1, .int .i64 x.f5.f6.f5.f2, .int .i64 x.f5.f6.f6.f0, .int .i64 x.f5.f6.f6.f1, .int .i64 x.f5.f6.f7, .slice A7 x.f5.f7.length A7c, .slice A8 x.f5.f8.length A8c] 36 (0, 0))) ∧ Aside0 (w'.heap[g2]? = some (.cells #[.string y.f0, .int .i64 y.f1.f0, .int .i64 y.f1.f1, .int .i64 y.f1.f2, .slice B2 y.f2.length B2c, .slice B3 y.f3.length B3c, .slice B4 y.f4.length B4c, .int .i64 y.f5.f0, .string y.f5.f1, .string y.f5.f2, .string y.f5.f3, .int .i64 y.f5.f4, .int .i64 y.f5.f5.f0, .int .i64 y.f5.f5.f1, .int .i64 y.f5.f5.f2, .int .i64 y.f5.f6.f0, .int .i64 y.f5.f6.f1, .int .i64 y.f5.f6.f2, .int .i64 y.f5.f6.f3, .int .i64 y.f5.f6.f4.f0, .int .i64 y.f5.f6.f4.f1, .int .i64 y.f5.f6.f4.f2, .int .i64 y.f5.f6.f5.f0, .int .i64 y.f5.f6.f5.f1, .int .i64 y.f5.f6.f5.f2, .int .i64 y.f5.f6.f6.f0, .int .i64 y.f5.f6.f6.f1, .int .i64 y.f5.f6.f7, .slice B7 y.f5.f7.length B7c, .slice B8 y.f5.f8.length B8c] 36 (0, 0))) ∧ Aside0 (Below w.heap.size w w'))
    case atStart => exact ⟨0, rfl, ⟨by omega, by omega⟩, ⟨rfl⟩, BK1, BK2, HB⟩
    case round =>
      clear HB BK1 BK2
      obtain ⟨i_, rfl, HQ, HX, BK1, BK2, HB⟩ := hrel
      by_cases c_ : i_ < (x.f4.length : Int)
      · have cb : decide (i_ < (x.f4.length : Int)) = true := decide_eq_true c_
        have p_ : 0 ≤ i_ := HQ.out.1
        have c2_ : i_ < (y.f4.length : Int) := by have := HL4.out; omega
        obtain ⟨ad, cv1_, e_, _, hK1, hc1_⟩ := Kd.C_get G4.out z56 i_ p_ c_
        obtain rfl := e_
        obtain ⟨bd, cv2_, e_, _, hK2, hc2_⟩ := Kd.C_get Q4.out z56 i_ p_ c2_
        obtain rfl := e_
        have hM1 := mem_getD z56 p_ c_
        have hN := sm_next z56 p_ c_ c2_
        obtain ⟨x_, hx_⟩ : ∃ q, q = x.f4.getD i_.toNat z56 := ⟨_, rfl⟩
        obtain ⟨y_, hy_⟩ : ∃ q, q = y.f4.getD i_.toNat z56 := ⟨_, rfl⟩
        rw [← hx_] at hK1 hM1 hN
        rw [← hy_] at hK2 hN
        clear hx_ hy_
        obtain ⟨E1, E1c, E5, E5c, E6, E6c, rfl, e1l, e1g, e5l, e5g, e6l, e6g⟩ := k56_open hK1
        obtain ⟨F1, F1c, F5, F5c, F6, F6c, rfl, f1l, f1g, f5l, f5g, f6l, f6g⟩ := k56_open hK2
        have hc1_ : ∀ j u, ([.string x_.f0, .slice E1 x_.f1.length E1c, .int .i64 x_.f2.f0, .int .i64 x_.f2.f1, .string x_.f2.f2, .slice E5 x_.f2.f3.length E5c, .slice E6 x_.f2.f4.length E6c] : List Value)[j]? = some u → wr.cell? (ad.add (i_.toNat * 7 + j)) = some u := fun j v hj => by have h1 := hc1_ j v hj; exact (HB.out.cell (World.block_lt_of_cell? w _ h1)).trans h1
        have hc2_ : ∀ j u, ([.string y_.f0, .slice F1 y_.f1.length F1c, .int .i64 y_.f2.f0, .int .i64 y_.f2.f1, .string y_.f2.f2, .slice F5 y_.f2.f3.length F5c, .slice F6 y_.f2.f4.length F6c] : List Value)[j]? = some u → wr.cell? (bd.add (i_.toNat * 7 + j)) = some u := fun j v hj => by have h1 := hc2_ j v hj; exact (HB.out.cell (World.block_lt_of_cell? w _ h1)).trans h1
        have HX0 := Aside0.mk (show wr.cell? (ad.add (i_.toNat * 7)) = some (.string x_.f0) from hc1_ 0 _ rfl)
        have HX1 := Aside0.mk (show wr.cell? ⟨(ad.add (i_.toNat * 7)).block, (ad.add (i_.toNat * 7)).off + 1, none⟩ = some (.slice E1 x_.f1.length E1c) from by rw [← add_field _ _ 1 (by omega)]; exact hc1_ 1 _ rfl)
        have HCS := Aside0.mk (show CSat wr ⟨(ad.add (i_.toNat * 7)).block, (ad.add (i_.toNat * 7)).off + 2, none⟩ [.int .i64 x_.f2.f0, .int .i64 x_.f2.f1, .string x_.f2.f2, .slice E5 x_.f2.f3.length E5c, .slice E6 x_.f2.f4.length E6c] from CSat.of_get hc1_ 2 (by decide))
        have HY0 := Aside0.mk (show wr.cell? (bd.add (i_.toNat * 7)) = some (.string y_.f0) from hc2_ 0 _ rfl)
        have HY1 := Aside0.mk (show wr.cell? ⟨(bd.add (i_.toNat * 7)).block, (bd.add (i_.toNat * 7)).off + 1, none⟩ = some (.slice F1 y_.f1.length F1c) from by rw [← add_field _ _ 1 (by omega)]; exact hc2_ 1 _ rfl)
        have HDS := Aside0.mk (show CSat wr ⟨(bd.add (i_.toNat * 7)).block, (bd.add (i_.toNat * 7)).off + 2, none⟩ [.int .i64 y_.f2.f0, .int .i64 y_.f2.f1, .string y_.f2.f2, .slice F5 y_.f2.f3.length F5c, .slice F6 y_.f2.f4.length F6c] from CSat.of_get hc2_ 2 (by decide))
        have E1l := Aside0.mk e1l; have E1g := Aside0.mk e1g; have E5l := Aside0.mk e5l; have E5g := Aside0.mk e5g; have E6l := Aside0.mk e6l; have E6g := Aside0.mk e6g
        have F1l := Aside0.mk f1l; have F1g := Aside0.mk f1g; have F5l := Aside0.mk f5l; have F5g := Aside0.mk f5g; have F6l := Aside0.mk f6l; have F6g := Aside0.mk f6g
        have HM1 := Aside0.mk hM1
        have HN := Aside0.mk hN
        clear hK1 hK2 hc1_ hc2_ hM1 hN e1l e1g e5l e5g e6l e6g f1l f1g f5l f5g f6l f6g
        have HC_ := Aside0.mk c_
        replace p_ := eq_true p_
        replace c_ := eq_true c_
        replace c2_ := eq_true c2_
        go_upto_region 9 with (first | ((with_reducible refine gate_dst (N := 61) rfl ?_); (try (refine gate_guard (by rfl) ?_; dsimp only)); refine ld_event rfl rfl (by first | rfl | (go_simp; done) | (go_simp; rfl)) Try.underlying26 trivial (.slice (some ad) x.f4.length A4c) ((blk_cell BK1.out 6).trans rfl) ?_))
        refine (Classical.em (x_.f0 = y_.f0)).elim (fun h0 => ?_) (fun h0 => ?_)
        rotate_left
        have ct0 : (x_.f0.toList == y_.f0.toList) = false := beq_eq_false_iff_ne.mpr (fun e => h0 ((toList_iff _ _).1 e))
        have cn0 : (x_.f0.toList != y_.f0.toList) = true := bne_iff_ne.mpr (fun e => h0 ((toList_iff _ _).1 e))
        have hxy : sm x_ y_ = false := sm_false (fun e => h0 (by rw [e]))
        have hxy := Aside0.mk hxy
        clear h0
        rotate_right
        have ct0 : (x_.f0.toList == y_.f0.toList) = true := beq_iff_eq.mpr (by rw [h0])
        have cn0 : (x_.f0.toList != y_.f0.toList) = false := bne_eq_false_iff_eq.mpr (by rw [h0])
        have K0 := Aside0.mk h0
        clear h0
        refine (Classical.em (x_.f1 = y_.f1)).elim (fun h1 => ?_) (fun h1 => ?_)
        rotate_left
        have ct1 : sm x_.f1 y_.f1 = false := sm_false h1
        have hxy : sm x_ y_ = false := sm_false (fun e => h1 (by rw [e]))
        have hxy := Aside0.mk hxy
        clear h1
        rotate_right
        have ct1 : sm x_.f1 y_.f1 = true := sm_true h1
        have K1 := Aside0.mk h1
        clear h1
        refine (Classical.em (x_.f2 = y_.f2)).elim (fun h2 => ?_) (fun h2 => ?_)
        rotate_left
        have ct2 : sm x_.f2 y_.f2 = false := sm_false h2
        have hxy : sm x_ y_ = false := sm_false (fun e => h2 (by rw [e]))
        have hxy := Aside0.mk hxy
        clear h2
        rotate_right
        have ct2 : sm x_.f2 y_.f2 = true := sm_true h2
        have K2 := Aside0.mk h2
        clear h2
        have hxy : sm x_ y_ = true := sm_true (S56_ext K0.out K1.out K2.out)
        have hxy := Aside0.mk hxy
        all_goals
          refine start_ (n := 14) (S := fun w' => w'.heap[g1]? = some (.cells #[.string x.f0, .int .i64 x.f1.f0, .int .i64 x.f1.f1, .int .i64 x.f1.f2, .slice A2 x.f2.length A2c, .slice A3 x.f3.length A3c, .slice (some ad) x.f4.length A4c, .int .i64 x.f5.f0, .string x.f5.f1, .string x.f5.f2, .string x.f5.f3, .int .i64 x.f5.f4, .int .i64 x.f5.f5.f0, .int .i64 x.f5.f5.f1, .int .i64 x.f5.f5.f2, .int .i64 x.f5.f6.f0, .int .i64 x.f5.f6.f1, .int .i64 x.f5.f6.f2, .int .i64 x.f5.f6.f3, .int .i64 x.f5.f6.f4.f0, .int .i64 x.f5.f6.f4.f1, .int .i64 x.f5.f6.f4.f2, .int .i64 x.f5.f6.f5.f0, .int .i64 x.f5.f6.f5.f1, .int .i64 x.f5.f6.f5.f2, .int .i64 x.f5.f6.f6.f0, .int .i64 x.f5.f6.f6.f1, .int .i64 x.f5.f6.f7, .slice A7 x.f5.f7.length A7c, .slice A8 x.f5.f8.length A8c] 36 (0, 0)) ∧ w'.heap[g2]? = some (.cells #[.string y.f0, .int .i64 y.f1.f0, .int .i64 y.f1.f1, .int .i64 y.f1.f2, .slice B2 y.f2.length B2c, .slice B3 y.f3.length B3c, .slice (some bd) y.f4.length B4c, .int .i64 y.f5.f0, .string y.f5.f1, .string y.f5.f2, .string y.f5.f3, .int .i64 y.f5.f4, .int .i64 y.f5.f5.f0, .int .i64 y.f5.f5.f1, .int .i64 y.f5.f5.f2, .int .i64 y.f5.f6.f0, .int .i64 y.f5.f6.f1, .int .i64 y.f5.f6.f2, .int .i64 y.f5.f6.f3, .int .i64 y.f5.f6.f4.f0, .int .i64 y.f5.f6.f4.f1, .int .i64 y.f5.f6.f4.f2, .int .i64 y.f5.f6.f5.f0, .int .i64 y.f5.f6.f5.f1, .int .i64 y.f5.f6.f5.f2, .int .i64 y.f5.f6.f6.f0, .int .i64 y.f5.f6.f6.f1, .int .i64 y.f5.f6.f7, .slice B7 y.f5.f7.length B7c, .slice B8 y.f5.f8.length B8c] 36 (0, 0)) ∧ w'.cell? (ad.add (i_.toNat * 7)) = some (.string x_.f0) ∧ w'.cell? ⟨(ad.add (i_.toNat * 7)).block, (ad.add (i_.toNat * 7)).off + 1, none⟩ = some (.slice E1 x_.f1.length E1c) ∧ CSat w' ⟨(ad.add (i_.toNat * 7)).block, (ad.add (i_.toNat * 7)).off + 2, none⟩ [.int .i64 x_.f2.f0, .int .i64 x_.f2.f1, .string x_.f2.f2, .slice E5 x_.f2.f3.length E5c, .slice E6 x_.f2.f4.length E6c] ∧ w'.cell? (bd.add (i_.toNat * 7)) = some (.string y_.f0) ∧ w'.cell? ⟨(bd.add (i_.toNat * 7)).block, (bd.add (i_.toNat * 7)).off + 1, none⟩ = some (.slice F1 y_.f1.length F1c) ∧ CSat w' ⟨(bd.add (i_.toNat * 7)).block, (bd.add (i_.toNat * 7)).off + 2, none⟩ [.int .i64 y_.f2.f0, .int .i64 y_.f2.f1, .string y_.f2.f2, .slice F5 y_.f2.f3.length F5c, .slice F6 y_.f2.f4.length F6c]) (ds := [12]) #[false, false, false, false, false, false, false, false, false, false, false, false, false, false] (by kernel_rfl) rfl rfl ⟨blk_below BK1.out (below_drew1 (Below.refl _ _)), blk_below BK2.out (below_drew1 (Below.refl _ _)), (((below_drew1 (Below.refl _ _))).cell (World.block_lt_of_cell? _ _ HX0.out)).trans HX0.out, (((below_drew1 (Below.refl _ _))).cell (World.block_lt_of_cell? _ _ HX1.out)).trans HX1.out, CSat.below HCS.out (below_drew1 (Below.refl _ _)), (((below_drew1 (Below.refl _ _))).cell (World.block_lt_of_cell? _ _ HY0.out)).trans HY0.out, (((below_drew1 (Below.refl _ _))).cell (World.block_lt_of_cell? _ _ HY1.out)).trans HY1.out, CSat.below HDS.out (below_drew1 (Below.refl _ _))⟩ (fun hHeld => ?_)
          have n0_ := Aside0.mk (below_drew1 HB.out)
          have n1_ := Aside0.mk (blk_drew BK1.out)
          have n2_ := Aside0.mk (blk_drew BK2.out)
          have n3_ := Aside0.mk ((((below_drew1 (Below.refl _ _))).cell (World.block_lt_of_cell? _ _ HX0.out)).trans HX0.out)
          have n4_ := Aside0.mk ((((below_drew1 (Below.refl _ _))).cell (World.block_lt_of_cell? _ _ HX1.out)).trans HX1.out)
          have n5_ := Aside0.mk (CSat.below HCS.out (below_drew1 (Below.refl _ _)))
          have n6_ := Aside0.mk ((((below_drew1 (Below.refl _ _))).cell (World.block_lt_of_cell? _ _ HY0.out)).trans HY0.out)
          have n7_ := Aside0.mk ((((below_drew1 (Below.refl _ _))).cell (World.block_lt_of_cell? _ _ HY1.out)).trans HY1.out)
          have n8_ := Aside0.mk (CSat.below HDS.out (below_drew1 (Below.refl _ _)))
          clear HB BK1 BK2 HX0 HX1 HCS HY0 HY1 HDS
          have HB := n0_
          have BK1 := n1_
          have BK2 := n2_
          have HX0 := n3_
          have HX1 := n4_
          have HCS := n5_
          have HY0 := n6_
          have HY1 := n7_
          have HDS := n8_
          clear n0_ n1_ n2_ n3_ n4_ n5_ n6_ n7_ n8_
          generalize wr.drew = wv6_ at HB BK1 BK2 HX0 HX1 HCS HY0 HY1 HDS hHeld ⊢
          refine pure_ (i := 0) (N := some 66) (v := ?_) (a' := ?_) #[true, false, false, false, false, false, false, false, false, false, false, false, false, false] rfl rfl (by kernel_rfl) (fun _ _ _ h => h) (Or.inl ⟨by rfl, ?_⟩) ?_ ?_
          rotate_left
          · intro w'
            go_simp
            with_reducible rfl
          rotate_left
          · simp only [Act.put, List.setIfInBounds_toArray, List.set_cons_zero, List.set_cons_succ, i64_w, i32_w]
            rfl
          refine pure_ (i := 2) (N := some 68) (v := ?_) (a' := ?_) #[true, false, true, false, false, false, false, false, false, false, false, false, false, false] rfl rfl (by kernel_rfl) (fun _ _ _ h => h) (Or.inl ⟨by rfl, ?_⟩) ?_ ?_
          rotate_left
          · intro w'
            go_simp
            with_reducible rfl
          rotate_left
          · simp only [Act.put, List.setIfInBounds_toArray, List.set_cons_zero, List.set_cons_succ, i64_w, i32_w]
            rfl
          refine pure_ (i := 6) (N := some 72) (v := ?_) (a' := ?_) #[true, false, true, false, false, false, true, false, false, false, false, false, false, false] rfl rfl (by kernel_rfl) (fun _ _ _ h => h) (Or.inl ⟨by rfl, ?_⟩) ?_ ?_
          rotate_left
          · intro w'
            go_simp
            with_reducible rfl
          rotate_left
          · simp only [Act.put, List.setIfInBounds_toArray, List.set_cons_zero, List.set_cons_succ, i64_w, i32_w]
            rfl
          refine pure_ (i := 8) (N := some 74) (v := ?_) (a' := ?_) #[true, false, true, false, false, false, true, false, true, false, false, false, false, false] rfl rfl (by kernel_rfl) (fun _ _ _ h => h) (Or.inl ⟨by rfl, ?_⟩) ?_ ?_
          rotate_left
          · intro w'
            go_simp
            with_reducible rfl
          rotate_left
          · simp only [Act.put, List.setIfInBounds_toArray, List.set_cons_zero, List.set_cons_succ, i64_w, i32_w]
            rfl
          refine take_ (i := 1) (N := some 67) (v := ?_) (a' := ?_) #[true, true, true, false, false, false, true, false, true, false, false, false, false, false] rfl rfl (by kernel_rfl) (fun _ _ _ h => h) (Or.inl ⟨by rfl, ?_⟩) hHeld ?_ ?_
          rotate_left
          · rintro w' ⟨s1, s2, x0, x1, x2, x3, x4, x5⟩
            refine Eq.trans (ld_run rfl (by first | rfl | (go_simp; done) | (go_simp; rfl)) Try.underlying26 trivial (.slice (some ad) x.f4.length A4c) ((blk_cell s1 6).trans rfl)) ?_
            with_reducible rfl
          rotate_left
          · simp only [Act.put, List.setIfInBounds_toArray, List.set_cons_zero, List.set_cons_succ, i64_w, i32_w]
            rfl
          refine take_ (i := 7) (N := some 73) (v := ?_) (a' := ?_) #[true, true, true, false, false, false, true, true, true, false, false, false, false, false] rfl rfl (by kernel_rfl) (fun _ _ _ h => h) (Or.inl ⟨by rfl, ?_⟩) hHeld ?_ ?_
          rotate_left
          · rintro w' ⟨s1, s2, x0, x1, x2, x3, x4, x5⟩
            refine Eq.trans (ld_run rfl (by first | rfl | (go_simp; done) | (go_simp; rfl)) Try.underlying26 trivial (.slice (some bd) y.f4.length B4c) ((blk_cell s2 6).trans rfl)) ?_
            with_reducible rfl
          rotate_left
          · simp only [Act.put, List.setIfInBounds_toArray, List.set_cons_zero, List.set_cons_succ, i64_w, i32_w]
            rfl
          refine pure_ (i := 3) (N := some 69) (v := ?_) (a' := ?_) #[true, true, true, true, false, false, true, true, true, false, false, false, false, false] rfl rfl (by kernel_rfl) (fun _ _ _ h => h) (Or.inl ⟨by rfl, ?_⟩) ?_ ?_
          rotate_left
          · intro w'
            go_simp
            with_reducible rfl
          rotate_left
          · simp only [Act.put, List.setIfInBounds_toArray, List.set_cons_zero, List.set_cons_succ, i64_w, i32_w]
            rfl
          refine pure_ (i := 4) (N := some 70) (v := ?_) (a' := ?_) #[true, true, true, true, true, false, true, true, true, false, false, false, false, false] rfl rfl (by kernel_rfl) (fun _ _ _ h => h) (Or.inl ⟨by rfl, ?_⟩) ?_ ?_
          rotate_left
          · intro w'
            go_simp
            with_reducible rfl
          rotate_left
          · simp only [Act.put, List.setIfInBounds_toArray, List.set_cons_zero, List.set_cons_succ, i64_w, i32_w]
            rfl
          refine pure_ (i := 9) (N := some 75) (v := ?_) (a' := ?_) #[true, true, true, true, true, false, true, true, true, true, false, false, false, false] rfl rfl (by kernel_rfl) (fun _ _ _ h => h) (Or.inl ⟨by rfl, ?_⟩) ?_ ?_
          rotate_left
          · intro w'
            go_simp
            with_reducible rfl
          rotate_left
          · simp only [Act.put, List.setIfInBounds_toArray, List.set_cons_zero, List.set_cons_succ, i64_w, i32_w]
            rfl
          refine pure_ (i := 10) (N := some 76) (v := ?_) (a' := ?_) #[true, true, true, true, true, false, true, true, true, true, true, false, false, false] rfl rfl (by kernel_rfl) (fun _ _ _ h => h) (Or.inl ⟨by rfl, ?_⟩) ?_ ?_
          rotate_left
          · intro w'
            go_simp
            with_reducible rfl
          rotate_left
          · simp only [Act.put, List.setIfInBounds_toArray, List.set_cons_zero, List.set_cons_succ, i64_w, i32_w]
            rfl
          refine take_ (i := 5) (N := some 71) (v := ?_) (a' := ?_) #[true, true, true, true, true, true, true, true, true, true, true, false, false, false] rfl rfl (by kernel_rfl) (fun _ _ _ h => h) (Or.inl ⟨by rfl, ?_⟩) hHeld ?_ ?_
          rotate_left
          · rintro w' ⟨s1, s2, x0, x1, x2, x3, x4, x5⟩
            refine Eq.trans (ld_run rfl (by first | rfl | (go_simp; done) | (go_simp; rfl)) Try.underlying25 trivial (.slice E1 x_.f1.length E1c) x1) ?_
            with_reducible rfl
          rotate_left
          · simp only [Act.put, List.setIfInBounds_toArray, List.set_cons_zero, List.set_cons_succ, i64_w, i32_w]
            rfl
          refine take_ (i := 11) (N := some 77) (v := ?_) (a' := ?_) #[true, true, true, true, true, true, true, true, true, true, true, true, false, false] rfl rfl (by kernel_rfl) (fun _ _ _ h => h) (Or.inl ⟨by rfl, ?_⟩) hHeld ?_ ?_
          rotate_left
          · rintro w' ⟨s1, s2, x0, x1, x2, x3, x4, x5⟩
            refine Eq.trans (ld_run rfl (by first | rfl | (go_simp; done) | (go_simp; rfl)) Try.underlying25 trivial (.slice F1 y_.f1.length F1c) x4) ?_
            with_reducible rfl
          rotate_left
          · simp only [Act.put, List.setIfInBounds_toArray, List.set_cons_zero, List.set_cons_succ, i64_w, i32_w]
            rfl
          refine last_ (i := 12) (N := some 78) #[true, true, true, true, true, true, true, true, true, true, true, true, true, false] rfl rfl (by kernel_rfl) (by decide) (fun K hK => ?_)
          refine goes_ Try.func28 (by kernel_rfl) rfl #[.slice E1 x_.f1.length E1c, .slice F1 y_.f1.length F1c] (by rfl) rfl rfl (by (try simp only [List.map_toArray, List.map_cons, List.map_nil]); first | done | rfl) ?_
          with_reducible refine (sameTexts.calls E1 E1c x_.f1 F1 F1c y_.f1 _ (Kd.C_below E1g.out HB.out) E1l.out (Kd.C_below F1g.out HB.out) F1l.out).mono ?_
          rintro e wv7_ ⟨rfl, hb⟩
          refine ⟨_, rfl, ?_⟩
          have n0_ := Aside0.mk (below_step HB.out hb)
          have n1_ := Aside0.mk (blk_below BK1.out hb)
          have n2_ := Aside0.mk (blk_below BK2.out hb)
          have n3_ := Aside0.mk (((hb).cell (World.block_lt_of_cell? _ _ HX0.out)).trans HX0.out)
          have n4_ := Aside0.mk (((hb).cell (World.block_lt_of_cell? _ _ HX1.out)).trans HX1.out)
          have n5_ := Aside0.mk (CSat.below HCS.out hb)
          have n6_ := Aside0.mk (((hb).cell (World.block_lt_of_cell? _ _ HY0.out)).trans HY0.out)
          have n7_ := Aside0.mk (((hb).cell (World.block_lt_of_cell? _ _ HY1.out)).trans HY1.out)
          have n8_ := Aside0.mk (CSat.below HDS.out hb)
          clear HB BK1 BK2 HX0 HX1 HCS HY0 HY1 HDS
          have HB := n0_
          have BK1 := n1_
          have BK2 := n2_
          have HX0 := n3_
          have HX1 := n4_
          have HCS := n5_
          have HY0 := n6_
          have HY1 := n7_
          have HDS := n8_
          clear n0_ n1_ n2_ n3_ n4_ n5_ n6_ n7_ n8_
          clear hb
          refine hK.out _ _ ?_
          clear hK K
          refine norm_ (a' := ?_) ?_ ?_
          rotate_left
          · show Act.put _ (some 78) _ = _
            simp only [Act.put, List.setIfInBounds_toArray, List.set_cons_zero, List.set_cons_succ, i64_w, i32_w]
            rfl
          refine pure_ (i := 13) (N := some 9) (v := ?_) (a' := ?_) #[true, true, true, true, true, true, true, true, true, true, true, true, true, true] rfl rfl (by kernel_rfl) (fun _ _ _ h => h) (Or.inl ⟨by rfl, ?_⟩) ?_ ?_
          rotate_left
          · intro w'
            go_simp
            with_reducible rfl
          rotate_left
          · simp only [Act.put, List.setIfInBounds_toArray, List.set_cons_zero, List.set_cons_succ, i64_w, i32_w]
            rfl
          refine done_ (by kernel_rfl) ?_
          go_upto_region 10 with (fail)
          refine start_ (n := 14) (S := fun w' => w'.heap[g1]? = some (.cells #[.string x.f0, .int .i64 x.f1.f0, .int .i64 x.f1.f1, .int .i64 x.f1.f2, .slice A2 x.f2.length A2c, .slice A3 x.f3.length A3c, .slice (some ad) x.f4.length A4c, .int .i64 x.f5.f0, .string x.f5.f1, .string x.f5.f2, .string x.f5.f3, .int .i64 x.f5.f4, .int .i64 x.f5.f5.f0, .int .i64 x.f5.f5.f1, .int .i64 x.f5.f5.f2, .int .i64 x.f5.f6.f0, .int .i64 x.f5.f6.f1, .int .i64 x.f5.f6.f2, .int .i64 x.f5.f6.f3, .int .i64 x.f5.f6.f4.f0, .int .i64 x.f5.f6.f4.f1, .int .i64 x.f5.f6.f4.f2, .int .i64 x.f5.f6.f5.f0, .int .i64 x.f5.f6.f5.f1, .int .i64 x.f5.f6.f5.f2, .int .i64 x.f5.f6.f6.f0, .int .i64 x.f5.f6.f6.f1, .int .i64 x.f5.f6.f7, .slice A7 x.f5.f7.length A7c, .slice A8 x.f5.f8.length A8c] 36 (0, 0)) ∧ w'.heap[g2]? = some (.cells #[.string y.f0, .int .i64 y.f1.f0, .int .i64 y.f1.f1, .int .i64 y.f1.f2, .slice B2 y.f2.length B2c, .slice B3 y.f3.length B3c, .slice (some bd) y.f4.length B4c, .int .i64 y.f5.f0, .string y.f5.f1, .string y.f5.f2, .string y.f5.f3, .int .i64 y.f5.f4, .int .i64 y.f5.f5.f0, .int .i64 y.f5.f5.f1, .int .i64 y.f5.f5.f2, .int .i64 y.f5.f6.f0, .int .i64 y.f5.f6.f1, .int .i64 y.f5.f6.f2, .int .i64 y.f5.f6.f3, .int .i64 y.f5.f6.f4.f0, .int .i64 y.f5.f6.f4.f1, .int .i64 y.f5.f6.f4.f2, .int .i64 y.f5.f6.f5.f0, .int .i64 y.f5.f6.f5.f1, .int .i64 y.f5.f6.f5.f2, .int .i64 y.f5.f6.f6.f0, .int .i64 y.f5.f6.f6.f1, .int .i64 y.f5.f6.f7, .slice B7 y.f5.f7.length B7c, .slice B8 y.f5.f8.length B8c] 36 (0, 0)) ∧ w'.cell? (ad.add (i_.toNat * 7)) = some (.string x_.f0) ∧ w'.cell? ⟨(ad.add (i_.toNat * 7)).block, (ad.add (i_.toNat * 7)).off + 1, none⟩ = some (.slice E1 x_.f1.length E1c) ∧ CSat w' ⟨(ad.add (i_.toNat * 7)).block, (ad.add (i_.toNat * 7)).off + 2, none⟩ [.int .i64 x_.f2.f0, .int .i64 x_.f2.f1, .string x_.f2.f2, .slice E5 x_.f2.f3.length E5c, .slice E6 x_.f2.f4.length E6c] ∧ w'.cell? (bd.add (i_.toNat * 7)) = some (.string y_.f0) ∧ w'.cell? ⟨(bd.add (i_.toNat * 7)).block, (bd.add (i_.toNat * 7)).off + 1, none⟩ = some (.slice F1 y_.f1.length F1c) ∧ CSat w' ⟨(bd.add (i_.toNat * 7)).block, (bd.add (i_.toNat * 7)).off + 2, none⟩ [.int .i64 y_.f2.f0, .int .i64 y_.f2.f1, .string y_.f2.f2, .slice F5 y_.f2.f3.length F5c, .slice F6 y_.f2.f4.length F6c]) (ds := [12]) #[false, false, false, false, false, false, false, false, false, false, false, false, false, false] (by kernel_rfl) rfl rfl ⟨blk_below BK1.out (below_drew1 (Below.refl _ _)), blk_below BK2.out (below_drew1 (Below.refl _ _)), (((below_drew1 (Below.refl _ _))).cell (World.block_lt_of_cell? _ _ HX0.out)).trans HX0.out, (((below_drew1 (Below.refl _ _))).cell (World.block_lt_of_cell? _ _ HX1.out)).trans HX1.out, CSat.below HCS.out (below_drew1 (Below.refl _ _)), (((below_drew1 (Below.refl _ _))).cell (World.block_lt_of_cell? _ _ HY0.out)).trans HY0.out, (((below_drew1 (Below.refl _ _))).cell (World.block_lt_of_cell? _ _ HY1.out)).trans HY1.out, CSat.below HDS.out (below_drew1 (Below.refl _ _))⟩ (fun hHeld => ?_)
          have n0_ := Aside0.mk (below_drew1 HB.out)
          have n1_ := Aside0.mk (blk_drew BK1.out)
          have n2_ := Aside0.mk (blk_drew BK2.out)
          have n3_ := Aside0.mk ((((below_drew1 (Below.refl _ _))).cell (World.block_lt_of_cell? _ _ HX0.out)).trans HX0.out)
          have n4_ := Aside0.mk ((((below_drew1 (Below.refl _ _))).cell (World.block_lt_of_cell? _ _ HX1.out)).trans HX1.out)
          have n5_ := Aside0.mk (CSat.below HCS.out (below_drew1 (Below.refl _ _)))
          have n6_ := Aside0.mk ((((below_drew1 (Below.refl _ _))).cell (World.block_lt_of_cell? _ _ HY0.out)).trans HY0.out)
          have n7_ := Aside0.mk ((((below_drew1 (Below.refl _ _))).cell (World.block_lt_of_cell? _ _ HY1.out)).trans HY1.out)
          have n8_ := Aside0.mk (CSat.below HDS.out (below_drew1 (Below.refl _ _)))
          clear HB BK1 BK2 HX0 HX1 HCS HY0 HY1 HDS
          have HB := n0_
          have BK1 := n1_
          have BK2 := n2_
          have HX0 := n3_
          have HX1 := n4_
          have HCS := n5_
          have HY0 := n6_
          have HY1 := n7_
          have HDS := n8_
          clear n0_ n1_ n2_ n3_ n4_ n5_ n6_ n7_ n8_
          generalize wv7_.drew = wv8_ at HB BK1 BK2 HX0 HX1 HCS HY0 HY1 HDS hHeld ⊢
          refine pure_ (i := 0) (N := some 79) (v := ?_) (a' := ?_) #[true, false, false, false, false, false, false, false, false, false, false, false, false, false] rfl rfl (by kernel_rfl) (fun _ _ _ h => h) (Or.inl ⟨by rfl, ?_⟩) ?_ ?_
          rotate_left
          · intro w'
            go_simp
            with_reducible rfl
          rotate_left
          · simp only [Act.put, List.setIfInBounds_toArray, List.set_cons_zero, List.set_cons_succ, i64_w, i32_w]
            rfl
          refine pure_ (i := 2) (N := some 81) (v := ?_) (a' := ?_) #[true, false, true, false, false, false, false, false, false, false, false, false, false, false] rfl rfl (by kernel_rfl) (fun _ _ _ h => h) (Or.inl ⟨by rfl, ?_⟩) ?_ ?_
          rotate_left
          · intro w'
            go_simp
            with_reducible rfl
          rotate_left
          · simp only [Act.put, List.setIfInBounds_toArray, List.set_cons_zero, List.set_cons_succ, i64_w, i32_w]
            rfl
          refine pure_ (i := 6) (N := some 85) (v := ?_) (a' := ?_) #[true, false, true, false, false, false, true, false, false, false, false, false, false, false] rfl rfl (by kernel_rfl) (fun _ _ _ h => h) (Or.inl ⟨by rfl, ?_⟩) ?_ ?_
          rotate_left
          · intro w'
            go_simp
            with_reducible rfl
          rotate_left
          · simp only [Act.put, List.setIfInBounds_toArray, List.set_cons_zero, List.set_cons_succ, i64_w, i32_w]
            rfl
          refine pure_ (i := 8) (N := some 87) (v := ?_) (a' := ?_) #[true, false, true, false, false, false, true, false, true, false, false, false, false, false] rfl rfl (by kernel_rfl) (fun _ _ _ h => h) (Or.inl ⟨by rfl, ?_⟩) ?_ ?_
          rotate_left
          · intro w'
            go_simp
            with_reducible rfl
          rotate_left
          · simp only [Act.put, List.setIfInBounds_toArray, List.set_cons_zero, List.set_cons_succ, i64_w, i32_w]
            rfl
          refine take_ (i := 1) (N := some 80) (v := ?_) (a' := ?_) #[true, true, true, false, false, false, true, false, true, false, false, false, false, false] rfl rfl (by kernel_rfl) (fun _ _ _ h => h) (Or.inl ⟨by rfl, ?_⟩) hHeld ?_ ?_
          rotate_left
          · rintro w' ⟨s1, s2, x0, x1, x2, x3, x4, x5⟩
            refine Eq.trans (ld_run rfl (by first | rfl | (go_simp; done) | (go_simp; rfl)) Try.underlying26 trivial (.slice (some ad) x.f4.length A4c) ((blk_cell s1 6).trans rfl)) ?_
            with_reducible rfl
          rotate_left
          · simp only [Act.put, List.setIfInBounds_toArray, List.set_cons_zero, List.set_cons_succ, i64_w, i32_w]
            rfl
          refine take_ (i := 7) (N := some 86) (v := ?_) (a' := ?_) #[true, true, true, false, false, false, true, true, true, false, false, false, false, false] rfl rfl (by kernel_rfl) (fun _ _ _ h => h) (Or.inl ⟨by rfl, ?_⟩) hHeld ?_ ?_
          rotate_left
          · rintro w' ⟨s1, s2, x0, x1, x2, x3, x4, x5⟩
            refine Eq.trans (ld_run rfl (by first | rfl | (go_simp; done) | (go_simp; rfl)) Try.underlying26 trivial (.slice (some bd) y.f4.length B4c) ((blk_cell s2 6).trans rfl)) ?_
            with_reducible rfl
          rotate_left
          · simp only [Act.put, List.setIfInBounds_toArray, List.set_cons_zero, List.set_cons_succ, i64_w, i32_w]
            rfl
          refine pure_ (i := 3) (N := some 82) (v := ?_) (a' := ?_) #[true, true, true, true, false, false, true, true, true, false, false, false, false, false] rfl rfl (by kernel_rfl) (fun _ _ _ h => h) (Or.inl ⟨by rfl, ?_⟩) ?_ ?_
          rotate_left
          · intro w'
            go_simp
            with_reducible rfl
          rotate_left
          · simp only [Act.put, List.setIfInBounds_toArray, List.set_cons_zero, List.set_cons_succ, i64_w, i32_w]
            rfl
          refine pure_ (i := 4) (N := some 83) (v := ?_) (a' := ?_) #[true, true, true, true, true, false, true, true, true, false, false, false, false, false] rfl rfl (by kernel_rfl) (fun _ _ _ h => h) (Or.inl ⟨by rfl, ?_⟩) ?_ ?_
          rotate_left
          · intro w'
            go_simp
            with_reducible rfl
          rotate_left
          · simp only [Act.put, List.setIfInBounds_toArray, List.set_cons_zero, List.set_cons_succ, i64_w, i32_w]
            rfl
          refine pure_ (i := 9) (N := some 88) (v := ?_) (a' := ?_) #[true, true, true, true, true, false, true, true, true, true, false, false, false, false] rfl rfl (by kernel_rfl) (fun _ _ _ h => h) (Or.inl ⟨by rfl, ?_⟩) ?_ ?_
          rotate_left
          · intro w'
            go_simp
            with_reducible rfl
          rotate_left
          · simp only [Act.put, List.setIfInBounds_toArray, List.set_cons_zero, List.set_cons_succ, i64_w, i32_w]
            rfl
          refine pure_ (i := 10) (N := some 89) (v := ?_) (a' := ?_) #[true, true, true, true, true, false, true, true, true, true, true, false, false, false] rfl rfl (by kernel_rfl) (fun _ _ _ h => h) (Or.inl ⟨by rfl, ?_⟩) ?_ ?_
          rotate_left
          · intro w'
            go_simp
            with_reducible rfl
          rotate_left
          · simp only [Act.put, List.setIfInBounds_toArray, List.set_cons_zero, List.set_cons_succ, i64_w, i32_w]
            rfl
          refine take_ (i := 5) (N := some 84) (v := ?_) (a' := ?_) #[true, true, true, true, true, true, true, true, true, true, true, false, false, false] rfl rfl (by kernel_rfl) (fun _ _ _ h => h) (Or.inl ⟨by rfl, ?_⟩) hHeld ?_ ?_
          rotate_left
          · rintro w' ⟨s1, s2, x0, x1, x2, x3, x4, x5⟩
            refine Eq.trans (lds_run rfl (by first | rfl | (go_simp; done) | (go_simp; rfl)) Try.underlying54 ⟨_, rfl⟩ [.int .i64 x_.f2.f0, .int .i64 x_.f2.f1, .string x_.f2.f2, .slice E5 x_.f2.f3.length E5c, .slice E6 x_.f2.f4.length E6c] size54 x2) ?_
            with_reducible rfl
          rotate_left
          · simp only [Act.put, List.setIfInBounds_toArray, List.set_cons_zero, List.set_cons_succ, i64_w, i32_w]
            rfl
          refine take_ (i := 11) (N := some 90) (v := ?_) (a' := ?_) #[true, true, true, true, true, true, true, true, true, true, true, true, false, false] rfl rfl (by kernel_rfl) (fun _ _ _ h => h) (Or.inl ⟨by rfl, ?_⟩) hHeld ?_ ?_
          rotate_left
          · rintro w' ⟨s1, s2, x0, x1, x2, x3, x4, x5⟩
            refine Eq.trans (lds_run rfl (by first | rfl | (go_simp; done) | (go_simp; rfl)) Try.underlying54 ⟨_, rfl⟩ [.int .i64 y_.f2.f0, .int .i64 y_.f2.f1, .string y_.f2.f2, .slice F5 y_.f2.f3.length F5c, .slice F6 y_.f2.f4.length F6c] size54 x5) ?_
            with_reducible rfl
          rotate_left
          · simp only [Act.put, List.setIfInBounds_toArray, List.set_cons_zero, List.set_cons_succ, i64_w, i32_w]
            rfl
          refine last_ (i := 12) (N := some 91) #[true, true, true, true, true, true, true, true, true, true, true, true, true, false] rfl rfl (by kernel_rfl) (by decide) (fun K hK => ?_)
          refine goes_ Try.func29 (by kernel_rfl) rfl #[.agg #[.int .i64 x_.f2.f0, .int .i64 x_.f2.f1, .string x_.f2.f2, .slice E5 x_.f2.f3.length E5c, .slice E6 x_.f2.f4.length E6c], .agg #[.int .i64 y_.f2.f0, .int .i64 y_.f2.f1, .string y_.f2.f2, .slice F5 y_.f2.f3.length F5c, .slice F6 y_.f2.f4.length F6c]] (by rfl) rfl rfl (by (try simp only [List.map_toArray, List.map_cons, List.map_nil]); first | done | rfl) ?_
          with_reducible refine (EqOK.calls (sameExpr.all x_.f2 y_.f2 (HW4.out _ HM1.out)) [.int .i64 x_.f2.f0, .int .i64 x_.f2.f1, .string x_.f2.f2, .slice E5 x_.f2.f3.length E5c, .slice E6 x_.f2.f4.length E6c] [.int .i64 y_.f2.f0, .int .i64 y_.f2.f1, .string y_.f2.f2, .slice F5 y_.f2.f3.length F5c, .slice F6 y_.f2.f4.length F6c] _ (k54_mk _ x_.f2 E5l.out (Kd.C_below E5g.out HB.out) E6l.out (Kd.C_below E6g.out HB.out)) (k54_mk _ y_.f2 F5l.out (Kd.C_below F5g.out HB.out) F6l.out (Kd.C_below F6g.out HB.out))).mono ?_
          rintro e wv9_ ⟨rfl, hb⟩
          refine ⟨_, rfl, ?_⟩
          have n0_ := Aside0.mk (below_step HB.out hb)
          have n1_ := Aside0.mk (blk_below BK1.out hb)
          have n2_ := Aside0.mk (blk_below BK2.out hb)
          have n3_ := Aside0.mk (((hb).cell (World.block_lt_of_cell? _ _ HX0.out)).trans HX0.out)
          have n4_ := Aside0.mk (((hb).cell (World.block_lt_of_cell? _ _ HX1.out)).trans HX1.out)
          have n5_ := Aside0.mk (CSat.below HCS.out hb)
          have n6_ := Aside0.mk (((hb).cell (World.block_lt_of_cell? _ _ HY0.out)).trans HY0.out)
          have n7_ := Aside0.mk (((hb).cell (World.block_lt_of_cell? _ _ HY1.out)).trans HY1.out)
          have n8_ := Aside0.mk (CSat.below HDS.out hb)
          clear HB BK1 BK2 HX0 HX1 HCS HY0 HY1 HDS
          have HB := n0_
          have BK1 := n1_
          have BK2 := n2_
          have HX0 := n3_
          have HX1 := n4_
          have HCS := n5_
          have HY0 := n6_
          have HY1 := n7_
          have HDS := n8_
          clear n0_ n1_ n2_ n3_ n4_ n5_ n6_ n7_ n8_
          clear hb
          refine hK.out _ _ ?_
          clear hK K
          refine norm_ (a' := ?_) ?_ ?_
          rotate_left
          · show Act.put _ (some 91) _ = _
            simp only [Act.put, List.setIfInBounds_toArray, List.set_cons_zero, List.set_cons_succ, i64_w, i32_w]
            rfl
          refine pure_ (i := 13) (N := some 10) (v := ?_) (a' := ?_) #[true, true, true, true, true, true, true, true, true, true, true, true, true, true] rfl rfl (by kernel_rfl) (fun _ _ _ h => h) (Or.inl ⟨by rfl, ?_⟩) ?_ ?_
          rotate_left
          · intro w'
            go_simp
            with_reducible rfl
          rotate_left
          · simp only [Act.put, List.setIfInBounds_toArray, List.set_cons_zero, List.set_cons_succ, i64_w, i32_w]
            rfl
          refine done_ (by kernel_rfl) ?_
          go_upto_region 11 with (fail)
          refine start_ (n := 21) (S := fun w' => w'.heap[g1]? = some (.cells #[.string x.f0, .int .i64 x.f1.f0, .int .i64 x.f1.f1, .int .i64 x.f1.f2, .slice A2 x.f2.length A2c, .slice A3 x.f3.length A3c, .slice (some ad) x.f4.length A4c, .int .i64 x.f5.f0, .string x.f5.f1, .string x.f5.f2, .string x.f5.f3, .int .i64 x.f5.f4, .int .i64 x.f5.f5.f0, .int .i64 x.f5.f5.f1, .int .i64 x.f5.f5.f2, .int .i64 x.f5.f6.f0, .int .i64 x.f5.f6.f1, .int .i64 x.f5.f6.f2, .int .i64 x.f5.f6.f3, .int .i64 x.f5.f6.f4.f0, .int .i64 x.f5.f6.f4.f1, .int .i64 x.f5.f6.f4.f2, .int .i64 x.f5.f6.f5.f0, .int .i64 x.f5.f6.f5.f1, .int .i64 x.f5.f6.f5.f2, .int .i64 x.f5.f6.f6.f0, .int .i64 x.f5.f6.f6.f1, .int .i64 x.f5.f6.f7, .slice A7 x.f5.f7.length A7c, .slice A8 x.f5.f8.length A8c] 36 (0, 0)) ∧ w'.heap[g2]? = some (.cells #[.string y.f0, .int .i64 y.f1.f0, .int .i64 y.f1.f1, .int .i64 y.f1.f2, .slice B2 y.f2.length B2c, .slice B3 y.f3.length B3c, .slice (some bd) y.f4.length B4c, .int .i64 y.f5.f0, .string y.f5.f1, .string y.f5.f2, .string y.f5.f3, .int .i64 y.f5.f4, .int .i64 y.f5.f5.f0, .int .i64 y.f5.f5.f1, .int .i64 y.f5.f5.f2, .int .i64 y.f5.f6.f0, .int .i64 y.f5.f6.f1, .int .i64 y.f5.f6.f2, .int .i64 y.f5.f6.f3, .int .i64 y.f5.f6.f4.f0, .int .i64 y.f5.f6.f4.f1, .int .i64 y.f5.f6.f4.f2, .int .i64 y.f5.f6.f5.f0, .int .i64 y.f5.f6.f5.f1, .int .i64 y.f5.f6.f5.f2, .int .i64 y.f5.f6.f6.f0, .int .i64 y.f5.f6.f6.f1, .int .i64 y.f5.f6.f7, .slice B7 y.f5.f7.length B7c, .slice B8 y.f5.f8.length B8c] 36 (0, 0)) ∧ w'.cell? (ad.add (i_.toNat * 7)) = some (.string x_.f0) ∧ w'.cell? ⟨(ad.add (i_.toNat * 7)).block, (ad.add (i_.toNat * 7)).off + 1, none⟩ = some (.slice E1 x_.f1.length E1c) ∧ CSat w' ⟨(ad.add (i_.toNat * 7)).block, (ad.add (i_.toNat * 7)).off + 2, none⟩ [.int .i64 x_.f2.f0, .int .i64 x_.f2.f1, .string x_.f2.f2, .slice E5 x_.f2.f3.length E5c, .slice E6 x_.f2.f4.length E6c] ∧ w'.cell? (bd.add (i_.toNat * 7)) = some (.string y_.f0) ∧ w'.cell? ⟨(bd.add (i_.toNat * 7)).block, (bd.add (i_.toNat * 7)).off + 1, none⟩ = some (.slice F1 y_.f1.length F1c) ∧ CSat w' ⟨(bd.add (i_.toNat * 7)).block, (bd.add (i_.toNat * 7)).off + 2, none⟩ [.int .i64 y_.f2.f0, .int .i64 y_.f2.f1, .string y_.f2.f2, .slice F5 y_.f2.f3.length F5c, .slice F6 y_.f2.f4.length F6c]) (ds := []) #[false, false, false, false, false, false, false, false, false, false, false, false, false, false, false, false, false, false, false, false, false] (by kernel_rfl) rfl rfl ⟨blk_below BK1.out (below_drew1 (Below.refl _ _)), blk_below BK2.out (below_drew1 (Below.refl _ _)), (((below_drew1 (Below.refl _ _))).cell (World.block_lt_of_cell? _ _ HX0.out)).trans HX0.out, (((below_drew1 (Below.refl _ _))).cell (World.block_lt_of_cell? _ _ HX1.out)).trans HX1.out, CSat.below HCS.out (below_drew1 (Below.refl _ _)), (((below_drew1 (Below.refl _ _))).cell (World.block_lt_of_cell? _ _ HY0.out)).trans HY0.out, (((below_drew1 (Below.refl _ _))).cell (World.block_lt_of_cell? _ _ HY1.out)).trans HY1.out, CSat.below HDS.out (below_drew1 (Below.refl _ _))⟩ (fun hHeld => ?_)
          have n0_ := Aside0.mk (below_drew1 HB.out)
          have n1_ := Aside0.mk (blk_drew BK1.out)
          have n2_ := Aside0.mk (blk_drew BK2.out)
          have n3_ := Aside0.mk ((((below_drew1 (Below.refl _ _))).cell (World.block_lt_of_cell? _ _ HX0.out)).trans HX0.out)
          have n4_ := Aside0.mk ((((below_drew1 (Below.refl _ _))).cell (World.block_lt_of_cell? _ _ HX1.out)).trans HX1.out)
          have n5_ := Aside0.mk (CSat.below HCS.out (below_drew1 (Below.refl _ _)))
          have n6_ := Aside0.mk ((((below_drew1 (Below.refl _ _))).cell (World.block_lt_of_cell? _ _ HY0.out)).trans HY0.out)
          have n7_ := Aside0.mk ((((below_drew1 (Below.refl _ _))).cell (World.block_lt_of_cell? _ _ HY1.out)).trans HY1.out)
          have n8_ := Aside0.mk (CSat.below HDS.out (below_drew1 (Below.refl _ _)))
          clear HB BK1 BK2 HX0 HX1 HCS HY0 HY1 HDS
          have HB := n0_
          have BK1 := n1_
          have BK2 := n2_
          have HX0 := n3_
          have HX1 := n4_
          have HCS := n5_
          have HY0 := n6_
          have HY1 := n7_
          have HDS := n8_
          clear n0_ n1_ n2_ n3_ n4_ n5_ n6_ n7_ n8_
          generalize wv9_.drew = wv10_ at HB BK1 BK2 HX0 HX1 HCS HY0 HY1 HDS hHeld ⊢
          refine pure_ (i := 0) (N := some 92) (v := ?_) (a' := ?_) #[true, false, false, false, false, false, false, false, false, false, false, false, false, false, false, false, false, false, false, false, false] rfl rfl (by kernel_rfl) (fun _ _ _ h => h) (Or.inl ⟨by rfl, ?_⟩) ?_ ?_
          rotate_left
          · intro w'
            go_simp
            with_reducible rfl
          rotate_left
          · simp only [Act.put, List.setIfInBounds_toArray, List.set_cons_zero, List.set_cons_succ, i64_w, i32_w]
            rfl
          refine pure_ (i := 2) (N := some 94) (v := ?_) (a' := ?_) #[true, false, true, false, false, false, false, false, false, false, false, false, false, false, false, false, false, false, false, false, false] rfl rfl (by kernel_rfl) (fun _ _ _ h => h) (Or.inl ⟨by rfl, ?_⟩) ?_ ?_
          rotate_left
          · intro w'
            go_simp
            with_reducible rfl
          rotate_left
          · simp only [Act.put, List.setIfInBounds_toArray, List.set_cons_zero, List.set_cons_succ, i64_w, i32_w]
            rfl
          refine pure_ (i := 6) (N := some 98) (v := ?_) (a' := ?_) #[true, false, true, false, false, false, true, false, false, false, false, false, false, false, false, false, false, false, false, false, false] rfl rfl (by kernel_rfl) (fun _ _ _ h => h) (Or.inl ⟨by rfl, ?_⟩) ?_ ?_
          rotate_left
          · intro w'
            go_simp
            with_reducible rfl
          rotate_left
          · simp only [Act.put, List.setIfInBounds_toArray, List.set_cons_zero, List.set_cons_succ, i64_w, i32_w]
            rfl
          refine pure_ (i := 8) (N := some 100) (v := ?_) (a' := ?_) #[true, false, true, false, false, false, true, false, true, false, false, false, false, false, false, false, false, false, false, false, false] rfl rfl (by kernel_rfl) (fun _ _ _ h => h) (Or.inl ⟨by rfl, ?_⟩) ?_ ?_
          rotate_left
          · intro w'
            go_simp
            with_reducible rfl
          rotate_left
          · simp only [Act.put, List.setIfInBounds_toArray, List.set_cons_zero, List.set_cons_succ, i64_w, i32_w]
            rfl
          refine take_ (i := 1) (N := some 93) (v := ?_) (a' := ?_) #[true, true, true, false, false, false, true, false, true, false, false, false, false, false, false, false, false, false, false, false, false] rfl rfl (by kernel_rfl) (fun _ _ _ h => h) (Or.inl ⟨by rfl, ?_⟩) hHeld ?_ ?_
          rotate_left
          · rintro w' ⟨s1, s2, x0, x1, x2, x3, x4, x5⟩
            refine Eq.trans (ld_run rfl (by first | rfl | (go_simp; done) | (go_simp; rfl)) Try.underlying26 trivial (.slice (some ad) x.f4.length A4c) ((blk_cell s1 6).trans rfl)) ?_
            with_reducible rfl
          rotate_left
          · simp only [Act.put, List.setIfInBounds_toArray, List.set_cons_zero, List.set_cons_succ, i64_w, i32_w]
            rfl
          refine take_ (i := 7) (N := some 99) (v := ?_) (a' := ?_) #[true, true, true, false, false, false, true, true, true, false, false, false, false, false, false, false, false, false, false, false, false] rfl rfl (by kernel_rfl) (fun _ _ _ h => h) (Or.inl ⟨by rfl, ?_⟩) hHeld ?_ ?_
          rotate_left
          · rintro w' ⟨s1, s2, x0, x1, x2, x3, x4, x5⟩
            refine Eq.trans (ld_run rfl (by first | rfl | (go_simp; done) | (go_simp; rfl)) Try.underlying26 trivial (.slice (some bd) y.f4.length B4c) ((blk_cell s2 6).trans rfl)) ?_
            with_reducible rfl
          rotate_left
          · simp only [Act.put, List.setIfInBounds_toArray, List.set_cons_zero, List.set_cons_succ, i64_w, i32_w]
            rfl
          refine pure_ (i := 3) (N := some 95) (v := ?_) (a' := ?_) #[true, true, true, true, false, false, true, true, true, false, false, false, false, false, false, false, false, false, false, false, false] rfl rfl (by kernel_rfl) (fun _ _ _ h => h) (Or.inl ⟨by rfl, ?_⟩) ?_ ?_
          rotate_left
          · intro w'
            go_simp
            with_reducible rfl
          rotate_left
          · simp only [Act.put, List.setIfInBounds_toArray, List.set_cons_zero, List.set_cons_succ, i64_w, i32_w]
            rfl
          refine pure_ (i := 4) (N := some 96) (v := ?_) (a' := ?_) #[true, true, true, true, true, false, true, true, true, false, false, false, false, false, false, false, false, false, false, false, false] rfl rfl (by kernel_rfl) (fun _ _ _ h => h) (Or.inl ⟨by rfl, ?_⟩) ?_ ?_
          rotate_left
          · intro w'
            go_simp
            with_reducible rfl
          rotate_left
          · simp only [Act.put, List.setIfInBounds_toArray, List.set_cons_zero, List.set_cons_succ, i64_w, i32_w]
            rfl
          refine pure_ (i := 9) (N := some 101) (v := ?_) (a' := ?_) #[true, true, true, true, true, false, true, true, true, true, false, false, false, false, false, false, false, false, false, false, false] rfl rfl (by kernel_rfl) (fun _ _ _ h => h) (Or.inl ⟨by rfl, ?_⟩) ?_ ?_
          rotate_left
          · intro w'
            go_simp
            with_reducible rfl
          rotate_left
          · simp only [Act.put, List.setIfInBounds_toArray, List.set_cons_zero, List.set_cons_succ, i64_w, i32_w]
            rfl
          refine pure_ (i := 10) (N := some 102) (v := ?_) (a' := ?_) #[true, true, true, true, true, false, true, true, true, true, true, false, false, false, false, false, false, false, false, false, false] rfl rfl (by kernel_rfl) (fun _ _ _ h => h) (Or.inl ⟨by rfl, ?_⟩) ?_ ?_
          rotate_left
          · intro w'
            go_simp
            with_reducible rfl
          rotate_left
          · simp only [Act.put, List.setIfInBounds_toArray, List.set_cons_zero, List.set_cons_succ, i64_w, i32_w]
            rfl
          refine take_ (i := 5) (N := some 97) (v := ?_) (a' := ?_) #[true, true, true, true, true, true, true, true, true, true, true, false, false, false, false, false, false, false, false, false, false] rfl rfl (by kernel_rfl) (fun _ _ _ h => h) (Or.inl ⟨by rfl, ?_⟩) hHeld ?_ ?_
          rotate_left
          · rintro w' ⟨s1, s2, x0, x1, x2, x3, x4, x5⟩
            refine Eq.trans (ld_run rfl (by first | rfl | (go_simp; done) | (go_simp; rfl)) Try.underlying9 trivial (.string x_.f0) x0) ?_
            with_reducible rfl
          rotate_left
          · simp only [Act.put, List.setIfInBounds_toArray, List.set_cons_zero, List.set_cons_succ, i64_w, i32_w]
            rfl
          refine take_ (i := 11) (N := some 103) (v := ?_) (a' := ?_) #[true, true, true, true, true, true, true, true, true, true, true, true, false, false, false, false, false, false, false, false, false] rfl rfl (by kernel_rfl) (fun _ _ _ h => h) (Or.inl ⟨by rfl, ?_⟩) hHeld ?_ ?_
          rotate_left
          · rintro w' ⟨s1, s2, x0, x1, x2, x3, x4, x5⟩
            refine Eq.trans (ld_run rfl (by first | rfl | (go_simp; done) | (go_simp; rfl)) Try.underlying9 trivial (.string y_.f0) x3) ?_
            with_reducible rfl
          rotate_left
          · simp only [Act.put, List.setIfInBounds_toArray, List.set_cons_zero, List.set_cons_succ, i64_w, i32_w]
            rfl
          refine pure_ (i := 12) (N := some 104) (v := ?_) (a' := ?_) #[true, true, true, true, true, true, true, true, true, true, true, true, true, false, false, false, false, false, false, false, false] rfl rfl (by kernel_rfl) (fun _ _ _ h => h) (Or.inl ⟨by rfl, ?_⟩) ?_ ?_
          rotate_left
          · intro w'
            go_simp
            with_reducible rfl
          rotate_left
          · simp only [Act.put, List.setIfInBounds_toArray, List.set_cons_zero, List.set_cons_succ, i64_w, i32_w]
            rfl
          refine pure_ (i := 13) (N := some 105) (v := ?_) (a' := ?_) #[true, true, true, true, true, true, true, true, true, true, true, true, true, true, false, false, false, false, false, false, false] rfl rfl (by kernel_rfl) (fun _ _ _ h => h) (Or.inl ⟨by rfl, ?_⟩) ?_ ?_
          rotate_left
          · intro w'
            go_simp
            with_reducible rfl
          rotate_left
          · simp only [Act.put, List.setIfInBounds_toArray, List.set_cons_zero, List.set_cons_succ, i64_w, i32_w]
            rfl
          first
          | (refine pure_ (i := 14) (N := some 106) (v := ?_) (a' := ?_) #[true, true, true, true, true, true, true, true, true, true, true, true, true, true, true, false, false, false, false, false, false] rfl rfl (by kernel_rfl) (fun _ _ _ h => h) (Or.inl ⟨by rfl, ?_⟩) ?_ ?_
             rotate_left
             · intro w'
               go_simp
               with_reducible rfl
             rotate_left
             · simp only [Act.put, List.setIfInBounds_toArray, List.set_cons_zero, List.set_cons_succ, i64_w, i32_w]
               rfl)
          | (refine pure_ (i := 14) (N := some 106) (v := undef) (a' := ?_) #[true, true, true, true, true, true, true, true, true, true, true, true, true, true, true, false, false, false, false, false, false] rfl rfl (by kernel_rfl) (fun _ _ _ h => h) (Or.inr ⟨by first | rfl | (go_simp; done) | (go_simp; rfl), rfl⟩) ?_ ?_
             rotate_left
             · simp only [Act.put, List.setIfInBounds_toArray, List.set_cons_zero, List.set_cons_succ, i64_w, i32_w]
               rfl)
          first
          | (refine pure_ (i := 15) (N := some 107) (v := ?_) (a' := ?_) #[true, true, true, true, true, true, true, true, true, true, true, true, true, true, true, true, false, false, false, false, false] rfl rfl (by kernel_rfl) (fun _ _ _ h => h) (Or.inl ⟨by rfl, ?_⟩) ?_ ?_
             rotate_left
             · intro w'
               go_simp
               with_reducible rfl
             rotate_left
             · simp only [Act.put, List.setIfInBounds_toArray, List.set_cons_zero, List.set_cons_succ, i64_w, i32_w]
               rfl)
          | (refine pure_ (i := 15) (N := some 107) (v := undef) (a' := ?_) #[true, true, true, true, true, true, true, true, true, true, true, true, true, true, true, true, false, false, false, false, false] rfl rfl (by kernel_rfl) (fun _ _ _ h => h) (Or.inr ⟨by first | rfl | (go_simp; done) | (go_simp; rfl), rfl⟩) ?_ ?_
             rotate_left
             · simp only [Act.put, List.setIfInBounds_toArray, List.set_cons_zero, List.set_cons_succ, i64_w, i32_w]
               rfl)
          refine pure_ (i := 16) (N := some 108) (v := ?_) (a' := ?_) #[true, true, true, true, true, true, true, true, true, true, true, true, true, true, true, true, true, false, false, false, false] rfl rfl (by kernel_rfl) (fun _ _ _ h => h) (Or.inl ⟨by rfl, ?_⟩) ?_ ?_
          rotate_left
          · intro w'
            go_simp
            with_reducible rfl
          rotate_left
          · simp only [Act.put, List.setIfInBounds_toArray, List.set_cons_zero, List.set_cons_succ, i64_w, i32_w]
            rfl
          refine pure_ (i := 17) (N := some 109) (v := ?_) (a' := ?_) #[true, true, true, true, true, true, true, true, true, true, true, true, true, true, true, true, true, true, false, false, false] rfl rfl (by kernel_rfl) (fun _ _ _ h => h) (Or.inl ⟨by rfl, ?_⟩) ?_ ?_
          rotate_left
          · intro w'
            go_simp
            with_reducible rfl
          rotate_left
          · simp only [Act.put, List.setIfInBounds_toArray, List.set_cons_zero, List.set_cons_succ, i64_w, i32_w]
            rfl
          first
          | (refine pure_ (i := 18) (N := some 110) (v := ?_) (a' := ?_) #[true, true, true, true, true, true, true, true, true, true, true, true, true, true, true, true, true, true, true, false, false] rfl rfl (by kernel_rfl) (fun _ _ _ h => h) (Or.inl ⟨by rfl, ?_⟩) ?_ ?_
             rotate_left
             · intro w'
               go_simp
               with_reducible rfl
             rotate_left
             · simp only [Act.put, List.setIfInBounds_toArray, List.set_cons_zero, List.set_cons_succ, i64_w, i32_w]
               rfl)
          | (refine pure_ (i := 18) (N := some 110) (v := undef) (a' := ?_) #[true, true, true, true, true, true, true, true, true, true, true, true, true, true, true, true, true, true, true, false, false] rfl rfl (by kernel_rfl) (fun _ _ _ h => h) (Or.inr ⟨by first | rfl | (go_simp; done) | (go_simp; rfl), rfl⟩) ?_ ?_
             rotate_left
             · simp only [Act.put, List.setIfInBounds_toArray, List.set_cons_zero, List.set_cons_succ, i64_w, i32_w]
               rfl)
          first
          | (refine pure_ (i := 19) (N := some 111) (v := ?_) (a' := ?_) #[true, true, true, true, true, true, true, true, true, true, true, true, true, true, true, true, true, true, true, true, false] rfl rfl (by kernel_rfl) (fun _ _ _ h => h) (Or.inl ⟨by rfl, ?_⟩) ?_ ?_
             rotate_left
             · intro w'
               go_simp
               with_reducible rfl
             rotate_left
             · simp only [Act.put, List.setIfInBounds_toArray, List.set_cons_zero, List.set_cons_succ, i64_w, i32_w]
               rfl)
          | (refine pure_ (i := 19) (N := some 111) (v := undef) (a' := ?_) #[true, true, true, true, true, true, true, true, true, true, true, true, true, true, true, true, true, true, true, true, false] rfl rfl (by kernel_rfl) (fun _ _ _ h => h) (Or.inr ⟨by first | rfl | (go_simp; done) | (go_simp; rfl), rfl⟩) ?_ ?_
             rotate_left
             · simp only [Act.put, List.setIfInBounds_toArray, List.set_cons_zero, List.set_cons_succ, i64_w, i32_w]
               rfl)
          refine pure_ (i := 20) (N := some 112) (v := ?_) (a' := ?_) #[true, true, true, true, true, true, true, true, true, true, true, true, true, true, true, true, true, true, true, true, true] rfl rfl (by kernel_rfl) (fun _ _ _ h => h) (Or.inl ⟨by rfl, ?_⟩) ?_ ?_
          rotate_left
          · intro w'
            go_simp
            with_reducible rfl
          rotate_left
          · simp only [Act.put, List.setIfInBounds_toArray, List.set_cons_zero, List.set_cons_succ, i64_w, i32_w]
            rfl
          refine done_ (by kernel_rfl) ?_
          go_wp2
          replace hxy := hxy.out
        · go_roundg (gk - 1)
          case measure => have := HQ.out; have := HC_.out; omega
          case rel => exact ⟨i_ + 1, by rw [show wrap64 (i_ + 1) = i_ + 1 from by have := HQ.out; have := HC_.out; have := Kd.C_max G4.out; unfold wrap64; omega], ⟨by have := HQ.out; have := HC_.out; omega⟩, ⟨by rw [← HX.out, HN.out, hxy, Bool.true_and]⟩, BK1, BK2, HB⟩
        all_goals
          have hsm : sm x y = false := sm_false (fun e => by have h8 : sm x.f4 y.f4 = false := (by rw [← HX.out, HN.out, hxy, Bool.false_and]); rw [e, sm_self] at h8; cases h8)
          go_ret
          exact ⟨by rw [hsm]; rfl, HB.out⟩
      · have cb : decide (i_ < (x.f4.length : Int)) = false := decide_eq_false c_
        have hsm4 : sm x.f4 y.f4 = true := by rw [← HX.out]; exact sm_end _ _ _ (by omega) (by have := HL4.out; omega)
        have hsm : sm x y = true := sm_true (S36_ext H0.out H1.out H2.out H3.out (sm_iff.1 hsm4) H4.out)
        clear c_ HQ HX hsm4
        go_wp2_with (first | ((with_reducible refine gate_dst (N := 61) rfl ?_); (try (refine gate_guard (by rfl) ?_; dsimp only)); refine ld_event rfl rfl (by first | rfl | (go_simp; done) | (go_simp; rfl)) Try.underlying26 trivial (.slice A4 x.f4.length A4c) ((blk_cell BK1.out 6).trans rfl) ?_))
        go_ret
        exact ⟨by rw [hsm]; rfl, HB.out⟩
  all_goals
    go_enter Try.func8, Try.ntmps8
    go_wp2_with (first | ((with_reducible refine gate_dst (N := 2) rfl ?_); (try (refine gate_guard (by rfl) ?_; dsimp only)); refine box_event ?hg (N := 2) ?hd (cs := #[.string x.f0, .int .i64 x.f1.f0, .int .i64 x.f1.f1, .int .i64 x.f1.f2, .slice A2 x.f2.length A2c, .slice A3 x.f3.length A3c, .slice A4 x.f4.length A4c, .int .i64 x.f5.f0, .string x.f5.f1, .string x.f5.f2, .string x.f5.f3, .int .i64 x.f5.f4, .int .i64 x.f5.f5.f0, .int .i64 x.f5.f5.f1, .int .i64 x.f5.f5.f2, .int .i64 x.f5.f6.f0, .int .i64 x.f5.f6.f1, .int .i64 x.f5.f6.f2, .int .i64 x.f5.f6.f3, .int .i64 x.f5.f6.f4.f0, .int .i64 x.f5.f6.f4.f1, .int .i64 x.f5.f6.f4.f2, .int .i64 x.f5.f6.f5.f0, .int .i64 x.f5.f6.f5.f1, .int .i64 x.f5.f6.f5.f2, .int .i64 x.f5.f6.f6.f0, .int .i64 x.f5.f6.f6.f1, .int .i64 x.f5.f6.f7, .slice A7 x.f5.f7.length A7c, .slice A8 x.f5.f8.length A8c]) (t := 36) ?hr ?_; (case hd => rfl); (case hg => rfl); (case hr => first | (go_simp; done) | (go_simp; rfl)); intro g1 hg wv1_ hbox hb; have n0_ := Aside0.mk (below_step HB.out hb); have n1_ := Aside0.mk (hbox); have n2_ := Aside0.mk ((show w.heap.size ≤ g1 by rw [hg]; exact below_size HB.out)); clear HB; have HB := n0_; have BK1 := n1_; have ORD := n2_; clear n0_ n1_ n2_; clear hb hbox hg) | ((with_reducible refine gate_dst (N := 3) rfl ?_); (try (refine gate_guard (by rfl) ?_; dsimp only)); refine box_event ?hg (N := 3) ?hd (cs := #[.string y.f0, .int .i64 y.f1.f0, .int .i64 y.f1.f1, .int .i64 y.f1.f2, .slice B2 y.f2.length B2c, .slice B3 y.f3.length B3c, .slice B4 y.f4.length B4c, .int .i64 y.f5.f0, .string y.f5.f1, .string y.f5.f2, .string y.f5.f3, .int .i64 y.f5.f4, .int .i64 y.f5.f5.f0, .int .i64 y.f5.f5.f1, .int .i64 y.f5.f5.f2, .int .i64 y.f5.f6.f0, .int .i64 y.f5.f6.f1, .int .i64 y.f5.f6.f2, .int .i64 y.f5.f6.f3, .int .i64 y.f5.f6.f4.f0, .int .i64 y.f5.f6.f4.f1, .int .i64 y.f5.f6.f4.f2, .int .i64 y.f5.f6.f5.f0, .int .i64 y.f5.f6.f5.f1, .int .i64 y.f5.f6.f5.f2, .int .i64 y.f5.f6.f6.f0, .int .i64 y.f5.f6.f6.f1, .int .i64 y.f5.f6.f7, .slice B7 y.f5.f7.length B7c, .slice B8 y.f5.f8.length B8c]) (t := 36) ?hr ?_; (case hd => rfl); (case hg => rfl); (case hr => first | (go_simp; done) | (go_simp; rfl)); intro g2 hg wv2_ hbox hb; have n0_ := Aside0.mk (below_step HB.out hb); have n1_ := Aside0.mk (blk_below BK1.out hb); have n2_ := Aside0.mk (hbox); have n3_ := Aside0.mk (And.intro ORD.out (show g1 < g2 by rw [hg]; exact blk_lt BK1.out)); clear HB BK1 ORD; have HB := n0_; have BK1 := n1_; have BK2 := n2_; have ORD := n3_; clear n0_ n1_ n2_ n3_; clear hb hbox hg) | ((with_reducible refine gate_dst (N := 12) rfl ?_); (try (refine gate_guard (by rfl) ?_; dsimp only)); refine ld_event rfl rfl (by first | rfl | (go_simp; done) | (go_simp; rfl)) Try.underlying24 trivial (.slice A2 x.f2.length A2c) ((blk_cell BK1.out 4).trans rfl) ?_) | ((with_reducible refine gate_dst (N := 14) rfl ?_); (try (refine gate_guard (by rfl) ?_; dsimp only)); refine ld_event rfl rfl (by first | rfl | (go_simp; done) | (go_simp; rfl)) Try.underlying24 trivial (.slice B2 y.f2.length B2c) ((blk_cell BK2.out 4).trans rfl) ?_) | ((with_reducible refine gate_dst (N := 17) rfl ?_); (try (refine gate_guard (by rfl) ?_; dsimp only)); refine ld_event rfl rfl (by first | rfl | (go_simp; done) | (go_simp; rfl)) Try.underlying25 trivial (.slice A3 x.f3.length A3c) ((blk_cell BK1.out 5).trans rfl) ?_) | ((with_reducible refine gate_dst (N := 19) rfl ?_); (try (refine gate_guard (by rfl) ?_; dsimp only)); refine ld_event rfl rfl (by first | rfl | (go_simp; done) | (go_simp; rfl)) Try.underlying25 trivial (.slice B3 y.f3.length B3c) ((blk_cell BK2.out 5).trans rfl) ?_) | ((with_reducible refine gate_dst (N := 27) rfl ?_); (try (refine gate_guard (by rfl) ?_; dsimp only)); refine ld_event rfl rfl (by first | rfl | (go_simp; done) | (go_simp; rfl)) Try.underlying9 trivial (.string x.f0) ((blk_cell BK1.out 0).trans rfl) ?_) | ((with_reducible refine gate_dst (N := 29) rfl ?_); (try (refine gate_guard (by rfl) ?_; dsimp only)); refine ld_event rfl rfl (by first | rfl | (go_simp; done) | (go_simp; rfl)) Try.underlying9 trivial (.string y.f0) ((blk_cell BK2.out 0).trans rfl) ?_) | ((with_reducible refine gate_dst (N := 52) rfl ?_); (try (refine gate_guard (by rfl) ?_; dsimp only)); refine ld_event rfl rfl (by first | rfl | (go_simp; done) | (go_simp; rfl)) Try.underlying26 trivial (.slice A4 x.f4.length A4c) ((blk_cell BK1.out 6).trans rfl) ?_) | ((with_reducible refine gate_dst (N := 55) rfl ?_); (try (refine gate_guard (by rfl) ?_; dsimp only)); refine ld_event rfl rfl (by first | rfl | (go_simp; done) | (go_simp; rfl)) Try.underlying26 trivial (.slice B4 y.f4.length B4c) ((blk_cell BK2.out 6).trans rfl) ?_) | ((with_reducible refine gate_dst (N := 22) rfl ?_); (try (refine gate_guard (by rfl) ?_; dsimp only)); refine ldb_event rfl rfl (by first | rfl | (go_simp; done) | (go_simp; rfl)) Try.underlying34 ⟨_, rfl⟩ BK1.out 23 size34 [.int .i64 x.f5.f0, .string x.f5.f1, .string x.f5.f2, .string x.f5.f3, .int .i64 x.f5.f4, .int .i64 x.f5.f5.f0, .int .i64 x.f5.f5.f1, .int .i64 x.f5.f5.f2, .int .i64 x.f5.f6.f0, .int .i64 x.f5.f6.f1, .int .i64 x.f5.f6.f2, .int .i64 x.f5.f6.f3, .int .i64 x.f5.f6.f4.f0, .int .i64 x.f5.f6.f4.f1, .int .i64 x.f5.f6.f4.f2, .int .i64 x.f5.f6.f5.f0, .int .i64 x.f5.f6.f5.f1, .int .i64 x.f5.f6.f5.f2, .int .i64 x.f5.f6.f6.f0, .int .i64 x.f5.f6.f6.f1, .int .i64 x.f5.f6.f7, .slice A7 x.f5.f7.length A7c, .slice A8 x.f5.f8.length A8c] rfl rfl ?_) | ((with_reducible refine gate_dst (N := 24) rfl ?_); (try (refine gate_guard (by rfl) ?_; dsimp only)); refine ldb_event rfl rfl (by first | rfl | (go_simp; done) | (go_simp; rfl)) Try.underlying34 ⟨_, rfl⟩ BK2.out 23 size34 [.int .i64 y.f5.f0, .string y.f5.f1, .string y.f5.f2, .string y.f5.f3, .int .i64 y.f5.f4, .int .i64 y.f5.f5.f0, .int .i64 y.f5.f5.f1, .int .i64 y.f5.f5.f2, .int .i64 y.f5.f6.f0, .int .i64 y.f5.f6.f1, .int .i64 y.f5.f6.f2, .int .i64 y.f5.f6.f3, .int .i64 y.f5.f6.f4.f0, .int .i64 y.f5.f6.f4.f1, .int .i64 y.f5.f6.f4.f2, .int .i64 y.f5.f6.f5.f0, .int .i64 y.f5.f6.f5.f1, .int .i64 y.f5.f6.f5.f2, .int .i64 y.f5.f6.f6.f0, .int .i64 y.f5.f6.f6.f1, .int .i64 y.f5.f6.f7, .slice B7 y.f5.f7.length B7c, .slice B8 y.f5.f8.length B8c] rfl rfl ?_) | ((with_reducible refine gate_dst (N := 33) rfl ?_); (try (refine gate_guard (by rfl) ?_; dsimp only)); refine ldb_event rfl rfl (by first | rfl | (go_simp; done) | (go_simp; rfl)) Try.underlying23 ⟨_, rfl⟩ BK1.out 3 size23 [.int .i64 x.f1.f0, .int .i64 x.f1.f1, .int .i64 x.f1.f2] rfl rfl ?_) | ((with_reducible refine gate_dst (N := 35) rfl ?_); (try (refine gate_guard (by rfl) ?_; dsimp only)); refine ldb_event rfl rfl (by first | rfl | (go_simp; done) | (go_simp; rfl)) Try.underlying23 ⟨_, rfl⟩ BK2.out 3 size23 [.int .i64 y.f1.f0, .int .i64 y.f1.f1, .int .i64 y.f1.f2] rfl rfl ?_) | ((with_reducible refine gate_callee (f := 27) rfl ?_); (try (refine gate_guard (by rfl) ?_; dsimp only)); refine goesL_ (some 15) rfl rfl Try.func27 (by kernel_rfl) rfl #[.slice A2 x.f2.length A2c, .slice B2 y.f2.length B2c] rfl (by (try simp only [List.map_toArray, List.map_cons, List.map_nil]); first | done | rfl) ?_; (with_reducible refine (sameDates.calls A2 A2c x.f2 B2 B2c y.f2 _ (Kd.C_below G2.out HB.out) L2.out (Kd.C_below Q2.out HB.out) P2.out).mono ?_); rintro e wv3_ ⟨rfl, hb⟩; refine ⟨_, rfl, ?_⟩; have n0_ := Aside0.mk (below_step HB.out hb); have n1_ := Aside0.mk (blk_below BK1.out hb); have n2_ := Aside0.mk (blk_below BK2.out hb); clear HB BK1 BK2; have HB := n0_; have BK1 := n1_; have BK2 := n2_; clear n0_ n1_ n2_; clear hb) | ((with_reducible refine gate_callee (f := 28) rfl ?_); (try (refine gate_guard (by rfl) ?_; dsimp only)); refine goesL_ (some 20) rfl rfl Try.func28 (by kernel_rfl) rfl #[.slice A3 x.f3.length A3c, .slice B3 y.f3.length B3c] rfl (by (try simp only [List.map_toArray, List.map_cons, List.map_nil]); first | done | rfl) ?_; (with_reducible refine (sameTexts.calls A3 A3c x.f3 B3 B3c y.f3 _ (Kd.C_below G3.out HB.out) L3.out (Kd.C_below Q3.out HB.out) P3.out).mono ?_); rintro e wv4_ ⟨rfl, hb⟩; refine ⟨_, rfl, ?_⟩; have n0_ := Aside0.mk (below_step HB.out hb); have n1_ := Aside0.mk (blk_below BK1.out hb); have n2_ := Aside0.mk (blk_below BK2.out hb); clear HB BK1 BK2; have HB := n0_; have BK1 := n1_; have BK2 := n2_; clear n0_ n1_ n2_; clear hb) | ((with_reducible refine gate_callee (f := 13) rfl ?_); (try (refine gate_guard (by rfl) ?_; dsimp only)); refine goesL_ (some 25) rfl rfl Try.func13 (by kernel_rfl) rfl #[.agg #[.int .i64 x.f5.f0, .string x.f5.f1, .string x.f5.f2, .string x.f5.f3, .int .i64 x.f5.f4, .int .i64 x.f5.f5.f0, .int .i64 x.f5.f5.f1, .int .i64 x.f5.f5.f2, .int .i64 x.f5.f6.f0, .int .i64 x.f5.f6.f1, .int .i64 x.f5.f6.f2, .int .i64 x.f5.f6.f3, .int .i64 x.f5.f6.f4.f0, .int .i64 x.f5.f6.f4.f1, .int .i64 x.f5.f6.f4.f2, .int .i64 x.f5.f6.f5.f0, .int .i64 x.f5.f6.f5.f1, .int .i64 x.f5.f6.f5.f2, .int .i64 x.f5.f6.f6.f0, .int .i64 x.f5.f6.f6.f1, .int .i64 x.f5.f6.f7, .slice A7 x.f5.f7.length A7c, .slice A8 x.f5.f8.length A8c], .agg #[.int .i64 y.f5.f0, .string y.f5.f1, .string y.f5.f2, .string y.f5.f3, .int .i64 y.f5.f4, .int .i64 y.f5.f5.f0, .int .i64 y.f5.f5.f1, .int .i64 y.f5.f5.f2, .int .i64 y.f5.f6.f0, .int .i64 y.f5.f6.f1, .int .i64 y.f5.f6.f2, .int .i64 y.f5.f6.f3, .int .i64 y.f5.f6.f4.f0, .int .i64 y.f5.f6.f4.f1, .int .i64 y.f5.f6.f4.f2, .int .i64 y.f5.f6.f5.f0, .int .i64 y.f5.f6.f5.f1, .int .i64 y.f5.f6.f5.f2, .int .i64 y.f5.f6.f6.f0, .int .i64 y.f5.f6.f6.f1, .int .i64 y.f5.f6.f7, .slice B7 y.f5.f7.length B7c, .slice B8 y.f5.f8.length B8c]] rfl (by (try simp only [List.map_toArray, List.map_cons, List.map_nil]); first | done | rfl) ?_; (with_reducible refine (EqOK.calls (sameCon.all x.f5 y.f5 HW5.out) [.int .i64 x.f5.f0, .string x.f5.f1, .string x.f5.f2, .string x.f5.f3, .int .i64 x.f5.f4, .int .i64 x.f5.f5.f0, .int .i64 x.f5.f5.f1, .int .i64 x.f5.f5.f2, .int .i64 x.f5.f6.f0, .int .i64 x.f5.f6.f1, .int .i64 x.f5.f6.f2, .int .i64 x.f5.f6.f3, .int .i64 x.f5.f6.f4.f0, .int .i64 x.f5.f6.f4.f1, .int .i64 x.f5.f6.f4.f2, .int .i64 x.f5.f6.f5.f0, .int .i64 x.f5.f6.f5.f1, .int .i64 x.f5.f6.f5.f2, .int .i64 x.f5.f6.f6.f0, .int .i64 x.f5.f6.f6.f1, .int .i64 x.f5.f6.f7, .slice A7 x.f5.f7.length A7c, .slice A8 x.f5.f8.length A8c] [.int .i64 y.f5.f0, .string y.f5.f1, .string y.f5.f2, .string y.f5.f3, .int .i64 y.f5.f4, .int .i64 y.f5.f5.f0, .int .i64 y.f5.f5.f1, .int .i64 y.f5.f5.f2, .int .i64 y.f5.f6.f0, .int .i64 y.f5.f6.f1, .int .i64 y.f5.f6.f2, .int .i64 y.f5.f6.f3, .int .i64 y.f5.f6.f4.f0, .int .i64 y.f5.f6.f4.f1, .int .i64 y.f5.f6.f4.f2, .int .i64 y.f5.f6.f5.f0, .int .i64 y.f5.f6.f5.f1, .int .i64 y.f5.f6.f5.f2, .int .i64 y.f5.f6.f6.f0, .int .i64 y.f5.f6.f6.f1, .int .i64 y.f5.f6.f7, .slice B7 y.f5.f7.length B7c, .slice B8 y.f5.f8.length B8c] _ (k34_mk _ x.f5 L7.out (Kd.C_below G7.out HB.out) L8.out (Kd.C_below G8.out HB.out)) (k34_mk _ y.f5 P7.out (Kd.C_below Q7.out HB.out) P8.out (Kd.C_below Q8.out HB.out))).mono ?_); rintro e wv5_ ⟨rfl, hb⟩; refine ⟨_, rfl, ?_⟩; have n0_ := Aside0.mk (below_step HB.out hb); have n1_ := Aside0.mk (blk_below BK1.out hb); have n2_ := Aside0.mk (blk_below BK2.out hb); clear HB BK1 BK2; have HB := n0_; have BK1 := n1_; have BK2 := n2_; clear n0_ n1_ n2_; clear hb))
    go_ret
    exact ⟨by rw [hsm]; rfl, HB.out⟩
end Go.Proofs.Ytkfbkjcdngipcaa.PTreeEquals
end
section
namespace Go.Proofs.Ytkfbkjcdngipcaa.PTreeEquals
open Go.RowKit Go.Proofs.YtkfbkjcdngipcaaW.PrintWords Go.Proofs.YtkfbkjcdngipcaaW.PrintLast Go.Proofs.YtkfbkjcdngipcaaW.PrintMore
attribute [local go_sem] nil24 nil25 nil26 nil31 nil32 nnil24 nnil25 nnil26 nnil31 nnil32 max2_int min2_int max_two min_two max_three min_three max_four min_four
set_option linter.unusedVariables false
set_option linter.unusedSimpArgs false
def SndL (l : List S54) : Prop := ∀ (A : Option Addr) (c : Nat) (w : World), (Kd.sliceB 54 k54B b54).K w l [.slice A l.length c] → Calls Try.prog 38 #[.slice A l.length c] w fun e w' => e = .returned (.bool true) ∧ Below w.heap.size w w'
theorem SndL.calls {l : List S54} (h : SndL l) (A : Option Addr) (c : Nat) (w : World) (hk : (Kd.sliceB 54 k54B b54).K w l [.slice A l.length c]) : Calls Try.prog 38 #[.slice A l.length c] w fun e w' => e = .returned (.bool true) ∧ Below w.heap.size w w' := h A c w hk
def SndE (x : S54) : Prop := ∀ (cs : List Value) (w : World), k54B.K w x cs → Calls Try.prog 31 #[.agg cs.toArray] w fun e w' => e = .returned (.bool true) ∧ Below w.heap.size w w'
theorem SndE.calls {x : S54} (h : SndE x) (cs : List Value) (w : World) (hk : k54B.K w x cs) : Calls Try.prog 31 #[.agg cs.toArray] w fun e w' => e = .returned (.bool true) ∧ Below w.heap.size w w' := h cs w hk
theorem getD_app {α : Type} (z m : α) (l : List α) : (l ++ [m]).getD l.length z = m := by simp [List.getD_eq_getElem?_getD]
theorem mark_cells {α : Type} {d : Kd α} {z0 z : α} {l : List α} {ad : Addr} {w : World} (h : d.C w (some ad) (l.length + 1) (l ++ [z])) : ∃ cs, d.K w z cs ∧ ∀ j u, cs[j]? = some u → w.cell? (ad.add (l.length * d.sz + j)) = some u := by
  obtain ⟨ad1, cs, e, _, hK, hc⟩ := Kd.C_get h z (l.length : Int) (by omega) (by omega)
  injection e with e
  subst e
  rw [Int.toNat_natCast, getD_app] at hK
  rw [Int.toNat_natCast] at hc
  exact ⟨cs, hK, hc⟩
set_option maxHeartbeats 8000000 in
set_option maxRecDepth 100000 in
theorem soundExprs.of (l : List S54) (hs : ∀ x ∈ l, SndE x) : SndL l := by
  intro A c w hk
  have hu54 := Try.underlying54
  have HS := Aside0.mk hs
  clear hs
  have HB := Aside0.mk (Below.refl w.heap.size w)
  obtain ⟨A', c', e_, hl, hr, hd⟩ := Kd.sB_read hk
  injection e_ with e1 e2 e3
  subst e1 e3
  clear e2 hk
  rcases hd with ⟨rfl, rfl⟩ | ⟨ad, rfl, hlc, hm⟩
  · clear hr
    go_enter Try.func38, Try.ntmps38
    go_wp2
    go_ret
    exact ⟨rfl, HB.out⟩
  obtain ⟨cm, hKm, hcm⟩ := mark_cells (z0 := z54) hm
  obtain ⟨m3, m4, rfl, _, _⟩ := k54B_open hKm
  have hx0 : w.cell? (ad.add (l.length * 5)) = some (.int .i64 (-5)) := hcm 0 _ rfl
  have hmx := Kd.C_max hr
  have HMX := Aside0.mk (Kd.C_max hm)
  have HR := Aside0.mk hr
  have HLC := Aside0.mk hlc
  clear hr hlc hm hKm hcm hl
  have hw_ : wrap64 ((l.length : Int) + 1) = (l.length : Int) + 1 := by (have := HMX.out; unfold wrap64; omega)
  have p_ : (0 ≤ (l.length : Int)) = True := eq_true (by omega)
  have q_ : ((l.length : Int) < (l.length : Int) + 1) = True := eq_true (by omega)
  have q2_ : ((l.length : Int) < ((l.length + 1 : Nat) : Int)) = True := eq_true (by omega)
  go_enter Try.func38, Try.ntmps38
  go_upto_region 6 with (((with_reducible refine gate_dst (N := 12) rfl ?_); refine Kd.cut_event rfl 31 54 (.tmp 8) (.tmp 11) rfl Try.underlying31 (by kernel_rfl) ((some ad)) (_) (c) (l.length + 1) rfl (by first | rfl | (go_simp; done) | (go_simp; rfl)) (by have := HLC.out; omega) ?_))
  clear hx0 p_ q_ q2_ hw_
  go_wp2
  go_loopg [4] l.length (fun kq v4 w' => ∃ (i_ : Int), v4 = .int .i64 i_ ∧ Aside0 (0 ≤ i_ ∧ i_ + (kq : Int) = (l.length : Int)) ∧ Aside0 (Below w.heap.size w w'))
  case atStart => exact ⟨0, rfl, ⟨by omega, by omega⟩, HB⟩
  case round =>
    clear HB
    obtain ⟨i_, rfl, HQ, HB⟩ := hrel
    by_cases c_ : i_ < (l.length : Int)
    · have cb : decide (i_ < (l.length : Int)) = true := decide_eq_true c_
      have p_ : 0 ≤ i_ := HQ.out.1
      obtain ⟨ad1, cv1_, e_, _, hK1, hc1_⟩ := Kd.C_get HR.out z54 i_ p_ c_
      injection e_ with e_
      subst e_
      have HCS1 := Aside0.mk (show CSat w (ad.add (i_.toNat * 5)) cv1_ from fun j v hj => by rw [World_add_add]; exact hc1_ j v hj)
      have SZ1 := Aside0.mk (show (Try.prog.info? 54).map (fun i => i.size) = some cv1_.length by rw [Kd.K_len _ hK1]; exact size54)
      have hM1 := mem_getD z54 p_ c_
      obtain ⟨x_, hx_⟩ : ∃ q, q = l.getD i_.toNat z54 := ⟨_, rfl⟩
      rw [← hx_] at hK1 hM1
      clear hx_
      have HK1 := Aside0.mk hK1
      have HM1 := Aside0.mk hM1
      clear hK1 hc1_ hM1
      have HC_ := Aside0.mk c_
      replace p_ := eq_true p_
      replace c_ := eq_true c_
      go_wp2_with (first | ((with_reducible refine gate_dst (N := 29) rfl ?_); refine load_event (t := 54) (p := .tmp 28) (ad := ad.add (i_.toNat * 5)) rfl rfl (by first | rfl | (go_simp; done) | (go_simp; rfl)) Try.underlying54 ⟨_, rfl⟩ cv1_ (SZ1.out) (CSat.below HCS1.out HB.out) ?_) | ((with_reducible refine gate_callee (f := 31) rfl ?_); (try (refine gate_guard (by rfl) ?_; dsimp only)); refine goesL_ (some 30) rfl rfl Try.func31 (by kernel_rfl) rfl #[.agg cv1_.toArray] rfl (by (try simp only [List.map_toArray, List.map_cons, List.map_nil]); first | done | rfl) ?_; (with_reducible refine (SndE.calls (HS.out _ HM1.out) cv1_ _ (Kd.K_below _ HB.out HK1.out)).mono ?_); rintro e wv1_ ⟨rfl, hb⟩; refine ⟨_, rfl, ?_⟩; have n0_ := Aside0.mk (below_step HB.out hb); clear HB; have HB := n0_; clear n0_; clear hb))
      go_roundg (gk - 1)
      case measure => have := HQ.out; have := HC_.out; omega
      case rel => exact ⟨i_ + 1, by rw [show wrap64 (i_ + 1) = i_ + 1 from by have := HQ.out; have := HC_.out; unfold wrap64; omega], ⟨by have := HQ.out; have := HC_.out; omega⟩, HB⟩
    · have cb : decide (i_ < (l.length : Int)) = false := decide_eq_false c_
      clear c_
      go_wp2
      go_ret
      exact ⟨rfl, HB.out⟩
set_option maxHeartbeats 8000000 in
set_option maxRecDepth 100000 in
theorem sound.of (x : S54) (hkl : SndL x.f4) : SndE x := by
  intro cs w hk
  have hu54 := Try.underlying54
  have hu23 := Try.underlying23
  have HKL := Aside0.mk hkl
  have HB := Aside0.mk (Below.refl w.heap.size w)
  obtain ⟨v3, v4, rfl, h3, h4⟩ := k54B_open hk
  obtain ⟨A4, c4, rfl, _, _, _⟩ := Kd.sB_read h4
  obtain ⟨A3, c3, rfl, hl, hr, hd⟩ := Kd.sB_read h3
  have H4 := Aside0.mk h4
  clear h3 h4 hk
  rcases hd with ⟨rfl, hx0⟩ | ⟨ad, rfl, hlc, hm⟩
  · rw [hx0]
    clear hr hl hx0
    go_enter Try.func31, Try.ntmps31
    go_wp2_with (first | ((with_reducible refine gate_dst (N := 1) rfl ?_); (try (refine gate_guard (by rfl) ?_; dsimp only)); refine box_event ?hg (N := 1) ?hd (cs := #[.int .i64 x.f0, .int .i64 x.f1, .string x.f2, .slice none ([] : List S23).length c3, .slice A4 x.f4.length c4]) (t := 54) ?hr ?_; (case hd => rfl); (case hg => rfl); (case hr => first | (go_simp; done) | (go_simp; rfl)); intro g1 hg wv1_ hbox hb; have n0_ := Aside0.mk (below_step HB.out hb); have n1_ := Aside0.mk (hbox); have n2_ := Aside0.mk ((show w.heap.size ≤ g1 by rw [hg]; exact below_size HB.out)); clear HB; have HB := n0_; have BK1 := n1_; have ORD := n2_; clear n0_ n1_ n2_; clear hb hbox hg) | ((with_reducible refine gate_dst (N := 5) rfl ?_); (try (refine gate_guard (by rfl) ?_; dsimp only)); refine ld_event rfl rfl (by first | rfl | (go_simp; done) | (go_simp; rfl)) Try.underlying24 trivial (.slice none ([] : List S23).length c3) ((blk_cell BK1.out 3).trans rfl) ?_) | ((with_reducible refine gate_dst (N := 23) rfl ?_); (try (refine gate_guard (by rfl) ?_; dsimp only)); refine ld_event rfl rfl (by first | rfl | (go_simp; done) | (go_simp; rfl)) Try.underlying31 trivial (.slice A4 x.f4.length c4) ((blk_cell BK1.out 4).trans rfl) ?_) | ((with_reducible refine gate_callee (f := 38) rfl ?_); (try (refine gate_guard (by rfl) ?_; dsimp only)); refine goesL_ (some 24) rfl rfl Try.func38 (by kernel_rfl) rfl #[.slice A4 x.f4.length c4] rfl (by (try simp only [List.map_toArray, List.map_cons, List.map_nil]); first | done | rfl) ?_; (with_reducible refine (SndL.calls HKL.out A4 c4 _ (Kd.K_below _ HB.out H4.out)).mono ?_); rintro e wv2_ ⟨rfl, hb⟩; refine ⟨_, rfl, ?_⟩; have n0_ := Aside0.mk (below_step HB.out hb); have n1_ := Aside0.mk (blk_below BK1.out hb); clear HB BK1; have HB := n0_; have BK1 := n1_; clear n0_ n1_; clear hb))
    go_ret
    exact ⟨rfl, HB.out⟩
  obtain ⟨cm, hKm, hcm⟩ := mark_cells (z0 := z23) hm
  obtain rfl := k23_open hKm
  have HCM := Aside0.mk (show CSat w (ad.add (x.f3.length * 3)) [.int .i64 (-5), .int .i64 0, .int .i64 0] from fun j v hj => by rw [World_add_add]; exact hcm j v hj)
  have hmx := Kd.C_max hr
  have HMX := Aside0.mk (Kd.C_max hm)
  have HLC := Aside0.mk hlc
  clear hr hlc hm hKm hcm hl
  have hw_ : wrap64 ((x.f3.length : Int) + 1) = (x.f3.length : Int) + 1 := by (have := HMX.out; unfold wrap64; omega)
  have p_ : (0 ≤ (x.f3.length : Int)) = True := eq_true (by omega)
  have q_ : ((x.f3.length : Int) < (x.f3.length : Int) + 1) = True := eq_true (by omega)
  have q2_ : ((x.f3.length : Int) < ((x.f3.length + 1 : Nat) : Int)) = True := eq_true (by omega)
  go_enter Try.func31, Try.ntmps31
  go_upto_region 3 with (first | ((with_reducible refine gate_dst (N := 1) rfl ?_); (try (refine gate_guard (by rfl) ?_; dsimp only)); refine box_event ?hg (N := 1) ?hd (cs := #[.int .i64 x.f0, .int .i64 x.f1, .string x.f2, .slice (some ad) x.f3.length c3, .slice A4 x.f4.length c4]) (t := 54) ?hr ?_; (case hd => rfl); (case hg => rfl); (case hr => first | (go_simp; done) | (go_simp; rfl)); intro g1 hg wv1_ hbox hb; have n0_ := Aside0.mk (below_step HB.out hb); have n1_ := Aside0.mk (hbox); have n2_ := Aside0.mk ((show w.heap.size ≤ g1 by rw [hg]; exact below_size HB.out)); clear HB; have HB := n0_; have BK1 := n1_; have ORD := n2_; clear n0_ n1_ n2_; clear hb hbox hg) | ((with_reducible refine gate_dst (N := 5) rfl ?_); (try (refine gate_guard (by rfl) ?_; dsimp only)); refine ld_event rfl rfl (by first | rfl | (go_simp; done) | (go_simp; rfl)) Try.underlying24 trivial (.slice (some ad) x.f3.length c3) ((blk_cell BK1.out 3).trans rfl) ?_) | ((with_reducible refine gate_dst (N := 8) rfl ?_); (try (refine gate_guard (by rfl) ?_; dsimp only)); refine ld_event rfl rfl (by first | rfl | (go_simp; done) | (go_simp; rfl)) Try.underlying24 trivial (.slice (some ad) x.f3.length c3) ((blk_cell BK1.out 3).trans rfl) ?_) | ((with_reducible refine gate_dst (N := 10) rfl ?_); (try (refine gate_guard (by rfl) ?_; dsimp only)); refine ld_event rfl rfl (by first | rfl | (go_simp; done) | (go_simp; rfl)) Try.underlying24 trivial (.slice (some ad) x.f3.length c3) ((blk_cell BK1.out 3).trans rfl) ?_) | ((with_reducible refine gate_dst (N := 13) rfl ?_); refine Kd.cut_event rfl 24 23 (.tmp 8) (.tmp 12) rfl Try.underlying24 (by kernel_rfl) ((some ad)) (_) (c3) (x.f3.length + 1) rfl (by first | rfl | (go_simp; done) | (go_simp; rfl)) (by have := HLC.out; omega) ?_))
  go_wp2_with (first | ((with_reducible refine gate_dst (N := 16) rfl ?_); (try (refine gate_guard (by rfl) ?_; dsimp only)); refine ld_event rfl rfl (by first | rfl | (go_simp; done) | (go_simp; rfl)) Try.underlying24 trivial (.slice (some ad) x.f3.length c3) ((blk_cell BK1.out 3).trans rfl) ?_) | ((with_reducible refine gate_dst (N := 19) rfl ?_); refine load_event (t := 23) (p := .tmp 18) (ad := ad.add (x.f3.length * 3)) rfl rfl (by first | rfl | (go_simp; done) | (go_simp; rfl)) Try.underlying23 ⟨_, rfl⟩ [.int .i64 (-5), .int .i64 0, .int .i64 0] (size23) (CSat.below HCM.out HB.out) ?_) | ((with_reducible refine gate_dst (N := 23) rfl ?_); (try (refine gate_guard (by rfl) ?_; dsimp only)); refine ld_event rfl rfl (by first | rfl | (go_simp; done) | (go_simp; rfl)) Try.underlying31 trivial (.slice A4 x.f4.length c4) ((blk_cell BK1.out 4).trans rfl) ?_) | ((with_reducible refine gate_callee (f := 38) rfl ?_); (try (refine gate_guard (by rfl) ?_; dsimp only)); refine goesL_ (some 24) rfl rfl Try.func38 (by kernel_rfl) rfl #[.slice A4 x.f4.length c4] rfl (by (try simp only [List.map_toArray, List.map_cons, List.map_nil]); first | done | rfl) ?_; (with_reducible refine (SndL.calls HKL.out A4 c4 _ (Kd.K_below _ HB.out H4.out)).mono ?_); rintro e wv2_ ⟨rfl, hb⟩; refine ⟨_, rfl, ?_⟩; have n0_ := Aside0.mk (below_step HB.out hb); have n1_ := Aside0.mk (blk_below BK1.out hb); clear HB BK1; have HB := n0_; have BK1 := n1_; clear n0_ n1_; clear hb))
  go_ret
  exact ⟨rfl, HB.out⟩
theorem soundExprs.lt : ∀ (n : Nat) (l : List S54), S54.wts l < n → SndL l := by
  intro n
  induction n with
  | zero => intro l h; omega
  | succ n ih =>
    intro l h
    refine soundExprs.of l (fun x hx => sound.of x (ih x.f4 ?_))
    have h1 := S54.wt_le hx
    have h2 := S54.wt_eq x
    omega
theorem soundExprs.all (l : List S54) : SndL l := soundExprs.lt _ l (Nat.lt_succ_self _)
theorem sound.all (x : S54) : SndE x := sound.of x (soundExprs.all _)
end Go.Proofs.Ytkfbkjcdngipcaa.PTreeEquals
end
section
namespace Go.Proofs.Ytkfbkjcdngipcaa.PTreeEquals
open Go.RowKit Go.Proofs.YtkfbkjcdngipcaaW.PrintWords Go.Proofs.YtkfbkjcdngipcaaW.PrintLast Go.Proofs.YtkfbkjcdngipcaaW.PrintMore
attribute [local go_sem] nil24 nil25 nil26 nil31 nil32 nnil24 nnil25 nnil26 nnil31 nnil32 max2_int min2_int max_two min_two max_three min_three max_four min_four
set_option linter.unusedVariables false
set_option linter.unusedSimpArgs false
def SndC (x : S34) : Prop := ∀ (cs : List Value) (w : World), k34B.K w x cs → Calls Try.prog 30 #[.agg cs.toArray] w fun e w' => e = .returned (.bool true) ∧ Below w.heap.size w w'
theorem SndC.calls {x : S34} (h : SndC x) (cs : List Value) (w : World) (hk : k34B.K w x cs) : Calls Try.prog 30 #[.agg cs.toArray] w fun e w' => e = .returned (.bool true) ∧ Below w.heap.size w w' := h cs w hk
set_option maxHeartbeats 8000000 in
set_option maxRecDepth 100000 in
theorem soundCon.of (x : S34) (hs : ∀ a ∈ x.f8, SndC a) : SndC x := by
  intro cs w hk
  have hu54 := Try.underlying54
  have hu34 := Try.underlying34
  have hu23 := Try.underlying23
  have HS := Aside0.mk hs
  clear hs
  have HB := Aside0.mk (Below.refl w.heap.size w)
  obtain ⟨v7, v8, rfl, h7, h8⟩ := k34B_open hk
  obtain ⟨A7, c7, rfl, _, _, _⟩ := Kd.sB_read h7
  obtain ⟨A8, c8, rfl, hl, hr, hd⟩ := Kd.sB_read h8
  have H7 := Aside0.mk h7
  clear h7 h8 hk
  rcases hd with ⟨rfl, hx0⟩ | ⟨ad, rfl, hlc, hm⟩
  · rw [hx0]
    clear hr hl hx0
    go_enter Try.func30, Try.ntmps30
    go_wp2_with (first | ((with_reducible refine gate_dst (N := 1) rfl ?_); (try (refine gate_guard (by rfl) ?_; dsimp only)); refine box_event ?hg (N := 1) ?hd (cs := #[.int .i64 x.f0, .string x.f1, .string x.f2, .string x.f3, .int .i64 x.f4, .int .i64 x.f5.f0, .int .i64 x.f5.f1, .int .i64 x.f5.f2, .int .i64 x.f6.f0, .int .i64 x.f6.f1, .int .i64 x.f6.f2, .int .i64 x.f6.f3, .int .i64 x.f6.f4.f0, .int .i64 x.f6.f4.f1, .int .i64 x.f6.f4.f2, .int .i64 x.f6.f5.f0, .int .i64 x.f6.f5.f1, .int .i64 x.f6.f5.f2, .int .i64 x.f6.f6.f0, .int .i64 x.f6.f6.f1, .int .i64 x.f6.f7, .slice A7 x.f7.length c7, .slice none ([] : List S34).length c8]) (t := 34) ?hr ?_; (case hd => rfl); (case hg => rfl); (case hr => first | (go_simp; done) | (go_simp; rfl)); intro g1 hg wv1_ hbox hb; have n0_ := Aside0.mk (below_step HB.out hb); have n1_ := Aside0.mk (hbox); have n2_ := Aside0.mk ((show w.heap.size ≤ g1 by rw [hg]; exact below_size HB.out)); clear HB; have HB := n0_; have BK1 := n1_; have ORD := n2_; clear n0_ n1_ n2_; clear hb hbox hg) | ((with_reducible refine gate_dst (N := 7) rfl ?_); (try (refine gate_guard (by rfl) ?_; dsimp only)); refine ld_event rfl rfl (by first | rfl | (go_simp; done) | (go_simp; rfl)) Try.underlying31 trivial (.slice A7 x.f7.length c7) ((blk_cell BK1.out 21).trans rfl) ?_) | ((with_reducible refine gate_callee (f := 38) rfl ?_); (try (refine gate_guard (by rfl) ?_; dsimp only)); refine goesL_ (some 8) rfl rfl Try.func38 (by kernel_rfl) rfl #[.slice A7 x.f7.length c7] rfl (by (try simp only [List.map_toArray, List.map_cons, List.map_nil]); first | done | rfl) ?_; (with_reducible refine (SndL.calls (soundExprs.all x.f7) A7 c7 _ (Kd.K_below _ HB.out H7.out)).mono ?_); rintro e wv2_ ⟨rfl, hb⟩; refine ⟨_, rfl, ?_⟩; have n0_ := Aside0.mk (below_step HB.out hb); have n1_ := Aside0.mk (blk_below BK1.out hb); clear HB BK1; have HB := n0_; have BK1 := n1_; clear n0_ n1_; clear hb) | ((with_reducible refine gate_dst (N := 12) rfl ?_); (try (refine gate_guard (by rfl) ?_; dsimp only)); refine ld_event rfl rfl (by first | rfl | (go_simp; done) | (go_simp; rfl)) Try.underlying32 trivial (.slice none ([] : List S34).length c8) ((blk_cell BK1.out 22).trans rfl) ?_))
    go_loopg [5] 0 (fun kq v5 w' => v5 = .int .i64 0 ∧ Aside0 (w'.heap[g1]? = some (.cells #[.int .i64 x.f0, .string x.f1, .string x.f2, .string x.f3, .int .i64 x.f4, .int .i64 x.f5.f0, .int .i64 x.f5.f1, .int .i64 x.f5.f2, .int .i64 x.f6.f0, .int .i64 x.f6.f1, .int .i64 x.f6.f2, .int .i64 x.f6.f3, .int .i64 x.f6.f4.f0, .int .i64 x.f6.f4.f1, .int .i64 x.f6.f4.f2, .int .i64 x.f6.f5.f0, .int .i64 x.f6.f5.f1, .int .i64 x.f6.f5.f2, .int .i64 x.f6.f6.f0, .int .i64 x.f6.f6.f1, .int .i64 x.f6.f7, .slice A7 x.f7.length c7, .slice none ([] : List S34).length c8] 34 (0, 0))) ∧ Aside0 (Below w.heap.size w w'))
    case atStart => exact ⟨rfl, BK1, HB⟩
    case round =>
      clear HB BK1
      obtain ⟨rfl, BK1, HB⟩ := hrel
      go_wp2_with (((with_reducible refine gate_dst (N := 31) rfl ?_); (try (refine gate_guard (by rfl) ?_; dsimp only)); refine ld_event rfl rfl (by first | rfl | (go_simp; done) | (go_simp; rfl)) Try.underlying32 trivial (.slice none ([] : List S34).length c8) ((blk_cell BK1.out 22).trans rfl) ?_))
      go_ret
      exact ⟨rfl, HB.out⟩
  obtain ⟨cm, hKm, hcm⟩ := mark_cells (z0 := z34) hm
  obtain ⟨m3, m4, rfl, _, _⟩ := k34B_open hKm
  have HCM := Aside0.mk (show w.cell? (ad.add (x.f8.length * 23)) = some (.int .i64 (-5)) from hcm 0 _ rfl)
  have hmx := Kd.C_max hr
  have HMX := Aside0.mk (Kd.C_max hm)
  have HR := Aside0.mk hr
  have HLC := Aside0.mk hlc
  clear hr hlc hm hKm hcm hl
  have hw_ : wrap64 ((x.f8.length : Int) + 1) = (x.f8.length : Int) + 1 := by (have := HMX.out; unfold wrap64; omega)
  have p_ : (0 ≤ (x.f8.length : Int)) = True := eq_true (by omega)
  have q_ : ((x.f8.length : Int) < (x.f8.length : Int) + 1) = True := eq_true (by omega)
  have q2_ : ((x.f8.length : Int) < ((x.f8.length + 1 : Nat) : Int)) = True := eq_true (by omega)
  go_enter Try.func30, Try.ntmps30
  go_upto_region 6 with (first | ((with_reducible refine gate_dst (N := 1) rfl ?_); (try (refine gate_guard (by rfl) ?_; dsimp only)); refine box_event ?hg (N := 1) ?hd (cs := #[.int .i64 x.f0, .string x.f1, .string x.f2, .string x.f3, .int .i64 x.f4, .int .i64 x.f5.f0, .int .i64 x.f5.f1, .int .i64 x.f5.f2, .int .i64 x.f6.f0, .int .i64 x.f6.f1, .int .i64 x.f6.f2, .int .i64 x.f6.f3, .int .i64 x.f6.f4.f0, .int .i64 x.f6.f4.f1, .int .i64 x.f6.f4.f2, .int .i64 x.f6.f5.f0, .int .i64 x.f6.f5.f1, .int .i64 x.f6.f5.f2, .int .i64 x.f6.f6.f0, .int .i64 x.f6.f6.f1, .int .i64 x.f6.f7, .slice A7 x.f7.length c7, .slice (some ad) x.f8.length c8]) (t := 34) ?hr ?_; (case hd => rfl); (case hg => rfl); (case hr => first | (go_simp; done) | (go_simp; rfl)); intro g1 hg wv1_ hbox hb; have n0_ := Aside0.mk (below_step HB.out hb); have n1_ := Aside0.mk (hbox); have n2_ := Aside0.mk ((show w.heap.size ≤ g1 by rw [hg]; exact below_size HB.out)); clear HB; have HB := n0_; have BK1 := n1_; have ORD := n2_; clear n0_ n1_ n2_; clear hb hbox hg) | ((with_reducible refine gate_dst (N := 7) rfl ?_); (try (refine gate_guard (by rfl) ?_; dsimp only)); refine ld_event rfl rfl (by first | rfl | (go_simp; done) | (go_simp; rfl)) Try.underlying31 trivial (.slice A7 x.f7.length c7) ((blk_cell BK1.out 21).trans rfl) ?_) | ((with_reducible refine gate_callee (f := 38) rfl ?_); (try (refine gate_guard (by rfl) ?_; dsimp only)); refine goesL_ (some 8) rfl rfl Try.func38 (by kernel_rfl) rfl #[.slice A7 x.f7.length c7] rfl (by (try simp only [List.map_toArray, List.map_cons, List.map_nil]); first | done | rfl) ?_; (with_reducible refine (SndL.calls (soundExprs.all x.f7) A7 c7 _ (Kd.K_below _ HB.out H7.out)).mono ?_); rintro e wv2_ ⟨rfl, hb⟩; refine ⟨_, rfl, ?_⟩; have n0_ := Aside0.mk (below_step HB.out hb); have n1_ := Aside0.mk (blk_below BK1.out hb); clear HB BK1; have HB := n0_; have BK1 := n1_; clear n0_ n1_; clear hb) | ((with_reducible refine gate_dst (N := 12) rfl ?_); (try (refine gate_guard (by rfl) ?_; dsimp only)); refine ld_event rfl rfl (by first | rfl | (go_simp; done) | (go_simp; rfl)) Try.underlying32 trivial (.slice (some ad) x.f8.length c8) ((blk_cell BK1.out 22).trans rfl) ?_) | ((with_reducible refine gate_dst (N := 15) rfl ?_); (try (refine gate_guard (by rfl) ?_; dsimp only)); refine ld_event rfl rfl (by first | rfl | (go_simp; done) | (go_simp; rfl)) Try.underlying32 trivial (.slice (some ad) x.f8.length c8) ((blk_cell BK1.out 22).trans rfl) ?_) | ((with_reducible refine gate_dst (N := 17) rfl ?_); (try (refine gate_guard (by rfl) ?_; dsimp only)); refine ld_event rfl rfl (by first | rfl | (go_simp; done) | (go_simp; rfl)) Try.underlying32 trivial (.slice (some ad) x.f8.length c8) ((blk_cell BK1.out 22).trans rfl) ?_) | ((with_reducible refine gate_dst (N := 20) rfl ?_); refine Kd.cut_event rfl 32 34 (.tmp 15) (.tmp 19) rfl Try.underlying32 (by kernel_rfl) ((some ad)) (_) (c8) (x.f8.length + 1) rfl (by first | rfl | (go_simp; done) | (go_simp; rfl)) (by have := HLC.out; omega) ?_))
  go_upto_region 8 with (first | ((with_reducible refine gate_dst (N := 23) rfl ?_); (try (refine gate_guard (by rfl) ?_; dsimp only)); refine ld_event rfl rfl (by first | rfl | (go_simp; done) | (go_simp; rfl)) Try.underlying32 trivial (.slice (some ad) x.f8.length c8) ((blk_cell BK1.out 22).trans rfl) ?_) | ((with_reducible refine gate_dst (N := 27) rfl ?_); refine ld_event rfl rfl (by first | rfl | (go_simp; done) | (go_simp; rfl)) Try.underlying3 trivial (.int .i64 (-5)) ((HB.out.cell (World.block_lt_of_cell? _ _ HCM.out)).trans HCM.out) ?_))
  clear p_ q_ q2_ hw_
  go_wp2
  go_loopg [5] x.f8.length (fun kq v5 w' => ∃ (i_ : Int), v5 = .int .i64 i_ ∧ Aside0 (0 ≤ i_ ∧ i_ + (kq : Int) = (x.f8.length : Int)) ∧ Aside0 (w'.heap[g1]? = some (.cells #[.int .i64 x.f0, .string x.f1, .string x.f2, .string x.f3, .int .i64 x.f4, .int .i64 x.f5.f0, .int .i64 x.f5.f1, .int .i64 x.f5.f2, .int .i64 x.f6.f0, .int .i64 x.f6.f1, .int .i64 x.f6.f2, .int .i64 x.f6.f3, .int .i64 x.f6.f4.f0, .int .i64 x.f6.f4.f1, .int .i64 x.f6.f4.f2, .int .i64 x.f6.f5.f0, .int .i64 x.f6.f5.f1, .int .i64 x.f6.f5.f2, .int .i64 x.f6.f6.f0, .int .i64 x.f6.f6.f1, .int .i64 x.f6.f7, .slice A7 x.f7.length c7, .slice (some ad) x.f8.length c8] 34 (0, 0))) ∧ Aside0 (Below w.heap.size w w'))
  case atStart => exact ⟨0, rfl, ⟨by omega, by omega⟩, BK1, HB⟩
  case round =>
    clear HB BK1
    obtain ⟨i_, rfl, HQ, BK1, HB⟩ := hrel
    by_cases c_ : i_ < (x.f8.length : Int)
    · have cb : decide (i_ < (x.f8.length : Int)) = true := decide_eq_true c_
      have p_ : 0 ≤ i_ := HQ.out.1
      obtain ⟨ad1, cv1_, e_, _, hK1, hc1_⟩ := Kd.C_get HR.out z34 i_ p_ c_
      injection e_ with e_
      subst e_
      have HCS1 := Aside0.mk (show CSat w (ad.add (i_.toNat * 23)) cv1_ from fun j v hj => by rw [World_add_add]; exact hc1_ j v hj)
      have SZ1 := Aside0.mk (show (Try.prog.info? 34).map (fun i => i.size) = some cv1_.length by rw [Kd.K_len _ hK1]; exact size34)
      have hM1 := mem_getD z34 p_ c_
      obtain ⟨x_, hx_⟩ : ∃ q, q = x.f8.getD i_.toNat z34 := ⟨_, rfl⟩
      rw [← hx_] at hK1 hM1
      clear hx_
      have HK1 := Aside0.mk hK1
      have HM1 := Aside0.mk hM1
      clear hK1 hc1_ hM1
      have HC_ := Aside0.mk c_
      replace p_ := eq_true p_
      replace c_ := eq_true c_
      go_wp2_with (first | ((with_reducible refine gate_dst (N := 31) rfl ?_); (try (refine gate_guard (by rfl) ?_; dsimp only)); refine ld_event rfl rfl (by first | rfl | (go_simp; done) | (go_simp; rfl)) Try.underlying32 trivial (.slice (some ad) x.f8.length c8) ((blk_cell BK1.out 22).trans rfl) ?_) | ((with_reducible refine gate_dst (N := 37) rfl ?_); (try (refine gate_guard (by rfl) ?_; dsimp only)); refine ld_event rfl rfl (by first | rfl | (go_simp; done) | (go_simp; rfl)) Try.underlying32 trivial (.slice (some ad) x.f8.length c8) ((blk_cell BK1.out 22).trans rfl) ?_) | ((with_reducible refine gate_dst (N := 40) rfl ?_); refine load_event (t := 34) (p := .tmp 39) (ad := ad.add (i_.toNat * 23)) rfl rfl (by first | rfl | (go_simp; done) | (go_simp; rfl)) Try.underlying34 ⟨_, rfl⟩ cv1_ (SZ1.out) (CSat.below HCS1.out HB.out) ?_) | ((with_reducible refine gate_callee (f := 30) rfl ?_); (try (refine gate_guard (by rfl) ?_; dsimp only)); refine goesL_ (some 41) rfl rfl Try.func30 (by kernel_rfl) rfl #[.agg cv1_.toArray] rfl (by (try simp only [List.map_toArray, List.map_cons, List.map_nil]); first | done | rfl) ?_; (with_reducible refine (SndC.calls (HS.out _ HM1.out) cv1_ _ (Kd.K_below _ HB.out HK1.out)).mono ?_); rintro e wv3_ ⟨rfl, hb⟩; refine ⟨_, rfl, ?_⟩; have n0_ := Aside0.mk (below_step HB.out hb); have n1_ := Aside0.mk (blk_below BK1.out hb); clear HB BK1; have HB := n0_; have BK1 := n1_; clear n0_ n1_; clear hb))
      go_roundg (gk - 1)
      case measure => have := HQ.out; have := HC_.out; omega
      case rel => exact ⟨i_ + 1, by rw [show wrap64 (i_ + 1) = i_ + 1 from by have := HQ.out; have := HC_.out; unfold wrap64; omega], ⟨by have := HQ.out; have := HC_.out; omega⟩, BK1, HB⟩
    · have cb : decide (i_ < (x.f8.length : Int)) = false := decide_eq_false c_
      clear c_
      go_wp2_with (first | ((with_reducible refine gate_dst (N := 31) rfl ?_); (try (refine gate_guard (by rfl) ?_; dsimp only)); refine ld_event rfl rfl (by first | rfl | (go_simp; done) | (go_simp; rfl)) Try.underlying32 trivial (.slice (some ad) x.f8.length c8) ((blk_cell BK1.out 22).trans rfl) ?_))
      go_ret
      exact ⟨rfl, HB.out⟩
theorem soundCon.lt : ∀ (n : Nat) (x : S34), S34.wt x < n → SndC x := by
  intro n
  induction n with
  | zero => intro x h; omega
  | succ n ih =>
    intro x h
    refine soundCon.of x (fun a ha => ih a ?_)
    have h3 := S34.wt_le ha
    have h4 := S34.wt_eq x
    omega
theorem soundCon.all (x : S34) : SndC x := soundCon.lt _ x (Nat.lt_succ_self _)
end Go.Proofs.Ytkfbkjcdngipcaa.PTreeEquals
end
