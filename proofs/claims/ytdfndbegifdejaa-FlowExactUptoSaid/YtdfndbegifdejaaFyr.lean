import Derived.Test.YtdfndbegifdejaaFyq
import Derived.Lib.Bytealg
section
namespace Go.Proofs.Ytdfndbegifdejaa.GParses
open Go.RowKit Go.Proofs.YtdfndbegifdejaaW.PrintWords Go.Proofs.YtdfndbegifdejaaW.PrintLast Go.Proofs.YtdfndbegifdejaaW.PrintMore
attribute [local go_sem] max2_int min2_int max_two min_two max_three min_three max_four min_four
set_option linter.unusedVariables false
set_option linter.unusedSimpArgs false
mutual
def payoffref03_line.j0 : Nat → ByteArray → Int → Int → Bool → Int → ByteArray → Int → Option (Int × ByteArray × Int × Int × Bool)
  | 0, _, _, _, _, _, _, _ => none
  | k + 1, x0, x1, x8, x32, x133000, x133001, x133002 => if x32 = true then (some (x133000, x133001, x133002, x8, false)) else (if 0 ≤ x1 then (if x1 ≤ x8 then (if x8 ≤ (x0.size : Int) then ((payoffref03_value.f k (x0.extract (x1 : Int).toNat (x8 : Int).toNat)).bind fun t135 => (payoffref03_line.l0 k x0 (wrap64 (x8 + 1)) 0 t135 x133001 x133002)) else (none)) else (none)) else (none))
def payoffref03_line.l0 : Nat → ByteArray → Int → Int → Int → ByteArray → Int → Option (Int × ByteArray × Int × Int × Bool)
  | 0, _, _, _, _, _, _ => none
  | k + 1, x0, x10, x11, x133000, x133001, x133002 => if x11 < 3 then (if (wrap64 (x10 + x11)) ≥ (x0.size : Int) then (some (x133000, x133001, x133002, wrap64 (x10 + x11), false)) else (if 0 ≤ (wrap64 (x10 + x11)) then (if (wrap64 (x10 + x11)) < (x0.size : Int) then (if (bt x0 (wrap64 (x10 + x11))) < 65 then (some (x133000, x133001, x133002, wrap64 (x10 + x11), false)) else (if (bt x0 (wrap64 (x10 + x11))) > 90 then (some (x133000, x133001, x133002, wrap64 (x10 + x11), false)) else (payoffref03_line.l0 k x0 x10 (wrap64 (x11 + 1)) x133000 x133001 x133002))) else (none)) else (none))) else (if 0 ≤ x10 then (if x10 ≤ (wrap64 (x10 + 3)) then (if (wrap64 (x10 + 3)) ≤ (x0.size : Int) then (if (wrap64 (x10 + 3)) ≥ (x0.size : Int) then (payoffref03_line.j2 k x0 x10 true x133000 (x0.extract (x10 : Int).toNat ((wrap64 (x10 + 3)) : Int).toNat) x133002) else (if 0 ≤ (wrap64 (x10 + 3)) then (if (wrap64 (x10 + 3)) < (x0.size : Int) then (payoffref03_line.j2 k x0 x10 ((bt x0 (wrap64 (x10 + 3))) != 32) x133000 (x0.extract (x10 : Int).toNat ((wrap64 (x10 + 3)) : Int).toNat) x133002) else (none)) else (none))) else (none)) else (none)) else (none))
def payoffref03_line.j2 : Nat → ByteArray → Int → Bool → Int → ByteArray → Int → Option (Int × ByteArray × Int × Int × Bool)
  | 0, _, _, _, _, _, _ => none
  | k + 1, x0, x10, x90, x133000, x133001, x133002 => if x90 = true then (some (x133000, x133001, x133002, wrap64 (x10 + 3), false)) else ((payoffref03_number.f k x0 (wrap64 (x10 + 4)) 9223372036854775807 true).bind fun bt136 => (if bt136.2 = true then (if bt136.1 ≥ (x0.size : Int) then (some (x133000, x133001, x133002, bt136.1, false)) else (if 0 ≤ bt136.1 then (if bt136.1 < (x0.size : Int) then (if (bt x0 bt136.1) = 10 then (if 0 ≤ (wrap64 (x10 + 4)) then (if (wrap64 (x10 + 4)) ≤ bt136.1 then (if bt136.1 ≤ (x0.size : Int) then ((payoffref03_value.f k (x0.extract ((wrap64 (x10 + 4)) : Int).toNat (bt136.1 : Int).toNat)).bind fun t138 => (some (x133000, x133001, t138, wrap64 (bt136.1 + 1), true))) else (none)) else (none)) else (none)) else (some (x133000, x133001, x133002, bt136.1, false))) else (none)) else (none))) else (some (x133000, x133001, x133002, bt136.1, false))))
end
def payoffref03_line.f (k : Nat) (a0 : ByteArray) (a1 : Int) : Option (Int × ByteArray × Int × Int × Bool) := (payoffref03_number.f k a0 a1 1073741824 false).bind fun bt133 => (if bt133.2 = true then (if bt133.1 ≥ (a0.size : Int) then (payoffref03_line.j0 k a0 a1 bt133.1 true 0 (⟨#[]⟩ : ByteArray) 0) else (if 0 ≤ bt133.1 then (if bt133.1 < (a0.size : Int) then (payoffref03_line.j0 k a0 a1 bt133.1 ((bt a0 bt133.1) != 32) 0 (⟨#[]⟩ : ByteArray) 0) else (none)) else (none))) else (payoffref03_line.j0 k a0 a1 bt133.1 true 0 (⟨#[]⟩ : ByteArray) 0))
theorem payoffref03_line.mono_l : ∀ k, (∀ y0 y1 y2 y3 y4 y5 y6, LeO (payoffref03_line.j0 k y0 y1 y2 y3 y4 y5 y6) (payoffref03_line.j0 (k + 1) y0 y1 y2 y3 y4 y5 y6)) ∧ (∀ y0 y1 y2 y3 y4 y5, LeO (payoffref03_line.l0 k y0 y1 y2 y3 y4 y5) (payoffref03_line.l0 (k + 1) y0 y1 y2 y3 y4 y5)) ∧ (∀ y0 y1 y2 y3 y4 y5, LeO (payoffref03_line.j2 k y0 y1 y2 y3 y4 y5) (payoffref03_line.j2 (k + 1) y0 y1 y2 y3 y4 y5))
 | 0 => ⟨fun _ _ _ _ _ _ _ r h => by simp [payoffref03_line.j0] at h, fun _ _ _ _ _ _ r h => by simp [payoffref03_line.l0] at h, fun _ _ _ _ _ _ r h => by simp [payoffref03_line.j2] at h⟩
 | k + 1 => by
  obtain ⟨ih0, ih1, ih2⟩ := payoffref03_line.mono_l k
  refine ⟨?_, ?_, ?_⟩
  ·intro y0 y1 y2 y3 y4 y5 y6
   unfold payoffref03_line.j0
   repeat' first
   | (with_reducible exact ih0 _ _ _ _ _ _ _)
   | (with_reducible exact ih1 _ _ _ _ _ _)
   | (with_reducible exact ih2 _ _ _ _ _ _)
   | (with_reducible exact payoffref03_number.mono _ _ _ _ _)
   | (with_reducible exact payoffref03_value.mono _ _)
   | (with_reducible exact LeO.refl _)
   | (with_reducible exact LeO.none _)
   | (with_reducible refine LeO.ite ?_ ?_)
   | (with_reducible refine LeO.bind ?_ (fun _ => ?_))
   | exact ih0 _ _ _ _ _ _ _
   | exact ih1 _ _ _ _ _ _
   | exact ih2 _ _ _ _ _ _
   | exact payoffref03_number.mono _ _ _ _ _
   | exact payoffref03_value.mono _ _
   | exact LeO.none _
   | refine LeO.ite ?_ ?_
   | refine LeO.bind ?_ (fun _ => ?_)
  ·intro y0 y1 y2 y3 y4 y5
   unfold payoffref03_line.l0
   repeat' first
   | (with_reducible exact ih0 _ _ _ _ _ _ _)
   | (with_reducible exact ih1 _ _ _ _ _ _)
   | (with_reducible exact ih2 _ _ _ _ _ _)
   | (with_reducible exact payoffref03_number.mono _ _ _ _ _)
   | (with_reducible exact payoffref03_value.mono _ _)
   | (with_reducible exact LeO.refl _)
   | (with_reducible exact LeO.none _)
   | (with_reducible refine LeO.ite ?_ ?_)
   | (with_reducible refine LeO.bind ?_ (fun _ => ?_))
   | exact ih0 _ _ _ _ _ _ _
   | exact ih1 _ _ _ _ _ _
   | exact ih2 _ _ _ _ _ _
   | exact payoffref03_number.mono _ _ _ _ _
   | exact payoffref03_value.mono _ _
   | exact LeO.none _
   | refine LeO.ite ?_ ?_
   | refine LeO.bind ?_ (fun _ => ?_)
  ·intro y0 y1 y2 y3 y4 y5
   unfold payoffref03_line.j2
   repeat' first
   | (with_reducible exact ih0 _ _ _ _ _ _ _)
   | (with_reducible exact ih1 _ _ _ _ _ _)
   | (with_reducible exact ih2 _ _ _ _ _ _)
   | (with_reducible exact payoffref03_number.mono _ _ _ _ _)
   | (with_reducible exact payoffref03_value.mono _ _)
   | (with_reducible exact LeO.refl _)
   | (with_reducible exact LeO.none _)
   | (with_reducible refine LeO.ite ?_ ?_)
   | (with_reducible refine LeO.bind ?_ (fun _ => ?_))
   | exact ih0 _ _ _ _ _ _ _
   | exact ih1 _ _ _ _ _ _
   | exact ih2 _ _ _ _ _ _
   | exact payoffref03_number.mono _ _ _ _ _
   | exact payoffref03_value.mono _ _
   | exact LeO.none _
   | refine LeO.ite ?_ ?_
   | refine LeO.bind ?_ (fun _ => ?_)
theorem payoffref03_line.mono : ∀ a0 a1 k, LeO (payoffref03_line.f k a0 a1) (payoffref03_line.f (k + 1) a0 a1) := by
 intro a0 a1 k
 obtain ⟨ih0, ih1, ih2⟩ := payoffref03_line.mono_l k
 unfold payoffref03_line.f
 repeat' first
  | (with_reducible exact ih0 _ _ _ _ _ _ _)
  | (with_reducible exact ih1 _ _ _ _ _ _)
  | (with_reducible exact ih2 _ _ _ _ _ _)
  | (with_reducible exact payoffref03_number.mono _ _ _ _ _)
  | (with_reducible exact payoffref03_value.mono _ _)
  | (with_reducible exact LeO.refl _)
  | (with_reducible exact LeO.none _)
  | (with_reducible refine LeO.ite ?_ ?_)
  | (with_reducible refine LeO.bind ?_ (fun _ => ?_))
  | exact ih0 _ _ _ _ _ _ _
  | exact ih1 _ _ _ _ _ _
  | exact ih2 _ _ _ _ _ _
  | exact payoffref03_number.mono _ _ _ _ _
  | exact payoffref03_value.mono _ _
  | exact LeO.none _
  | refine LeO.ite ?_ ?_
  | refine LeO.bind ?_ (fun _ => ?_)
set_option maxHeartbeats 8000000 in
set_option maxRecDepth 100000 in
theorem payoffref03_line.calls (k : Nat) (a0 : ByteArray) (a1 : Int) (r1 : Int) (r2 : ByteArray) (r3 : Int) (r4 : Int) (r5 : Bool) (w : World) (h : payoffref03_line.f k a0 a1 = some (r1, r2, r3, r4, r5)) :
  Calls Try.prog 39 #[.string a0, .int .i64 a1] w fun e w' => e = .returned (.tuple #[.agg #[.int .i64 r1, .string r2, .int .i64 r3], .int .i64 r4, .bool r5]) ∧ Below w.heap.size w w' := by
 have hu32 := Try.underlying32
 have HB := ak (Below.refl w.heap.size w)
 have H : ((payoffref03_number.f k a0 a1 1073741824 false).bind fun bt133 => (if bt133.2 = true then (if bt133.1 ≥ (a0.size : Int) then (payoffref03_line.j0 k a0 a1 bt133.1 true 0 (⟨#[]⟩ : ByteArray) 0) else (if 0 ≤ bt133.1 then (if bt133.1 < (a0.size : Int) then (payoffref03_line.j0 k a0 a1 bt133.1 ((bt a0 bt133.1) != 32) 0 (⟨#[]⟩ : ByteArray) 0) else (none)) else (none))) else (payoffref03_line.j0 k a0 a1 bt133.1 true 0 (⟨#[]⟩ : ByteArray) 0))) = some (r1, r2, r3, r4, r5) := h
 clear h
 replace H := Option.bind_eq_some_iff.mp H
 obtain ⟨⟨t133, t134⟩, A30, H⟩ := H
 replace H : (if t134 = true then (if t133 ≥ (a0.size : Int) then (payoffref03_line.j0 k a0 a1 t133 true 0 (⟨#[]⟩ : ByteArray) 0) else (if 0 ≤ t133 then (if t133 < (a0.size : Int) then (payoffref03_line.j0 k a0 a1 t133 ((bt a0 t133) != 32) 0 (⟨#[]⟩ : ByteArray) 0) else (none)) else (none))) else (payoffref03_line.j0 k a0 a1 t133 true 0 (⟨#[]⟩ : ByteArray) 0)) = some (r1, r2, r3, r4, r5) := H
 have A3 := ak A30
 clear A30
 have HC4 := ak H
 clear H
 go_enter Try.func39, Try.ntmps39
 go_upto_region 3 with (first | ((with_reducible refine gate_dst (N := 4) rfl ?_); (try (refine gate_guard (by rfl) ?_; dsimp only)); refine box_event ?hg (N := 4) ?hd (cs := #[.int .i64 0, .string (⟨#[]⟩ : ByteArray), .int .i64 0]) (t := 32) ?hr ?_; (case hd => rfl); (case hg => rfl); (case hr => first | (go_simp; done) | (go_simp; rfl)); intro gb131 hg w5 hbox hb; have BK131 := ak (hbox); have GW131 := ak ((by rw [hg]; exact (below_size (by repeat (first | (with_reducible first | exact HB.out | apply below_alloc | apply pw_below_drewN | apply below_drew1) | exact HB.out))) : w.heap.size ≤ gb131)); have GE131 := ak ((by rw [hg]; exact (below_size (by repeat (first | (with_reducible first | exact HB.out | apply below_alloc | apply pw_below_drewN | apply below_drew1) | exact HB.out))) : w.heap.size ≤ gb131)); replace HB := ak (below_step (by repeat (first | (with_reducible first | exact HB.out | apply below_alloc | apply pw_below_drewN | apply below_drew1) | exact HB.out)) hb); clear hb hbox hg) | ((with_reducible refine gate_dst (N := 7) rfl ?_); (try (refine gate_guard (by rfl) ?_; dsimp only)); refine box_event ?hg (N := 7) ?hd (cs := #[.int .i64 0, .string (⟨#[]⟩ : ByteArray), .int .i64 0]) (t := 32) ?hr ?_; (case hd => rfl); (case hg => rfl); (case hr => first | (go_simp; done) | (go_simp; rfl)); intro gb132 hg w6 hbox hb; have n0_ := ak (blk_below (g := gb131) (o := .cells #[.int .i64 0, .string (⟨#[]⟩ : ByteArray), .int .i64 0] 32 (0, 0)) (by (with_reducible repeat (first | refine blk_drewN ?_ _ | refine blk_drew ?_ | refine blk_alloc ?_ _)); exact BK131.out) hb); have n1_ := ak (below_step (by repeat (first | (with_reducible first | exact HB.out | apply below_alloc | apply pw_below_drewN | apply below_drew1 | refine below_set ?_ GE131.out) | exact HB.out)) hb); have n2_ := ak (hbox); have n3_ := ak ((by rw [hg]; exact (below_size (by repeat (first | (with_reducible first | exact HB.out | apply below_alloc | apply pw_below_drewN | apply below_drew1 | refine below_set ?_ GE131.out) | exact HB.out))) : w.heap.size ≤ gb132)); have n4_ := ak ((by rw [hg]; exact (below_size (by repeat (first | (with_reducible first | exact HB.out | apply below_alloc | apply pw_below_drewN | apply below_drew1 | refine below_set ?_ GE131.out) | exact HB.out))) : w.heap.size ≤ gb132)); have n5_ := ak ((by rw [hg]; exact Nat.ne_of_lt (blk_lt (g := gb131) (o := .cells #[.int .i64 0, .string (⟨#[]⟩ : ByteArray), .int .i64 0] 32 (0, 0)) (by (with_reducible repeat (first | refine blk_drewN ?_ _ | refine blk_drew ?_ | refine blk_alloc ?_ _)); exact BK131.out)) : gb131 ≠ gb132)); have n6_ := ak ((by rw [hg]; exact Nat.ne_of_gt (blk_lt (g := gb131) (o := .cells #[.int .i64 0, .string (⟨#[]⟩ : ByteArray), .int .i64 0] 32 (0, 0)) (by (with_reducible repeat (first | refine blk_drewN ?_ _ | refine blk_drew ?_ | refine blk_alloc ?_ _)); exact BK131.out)) : gb132 ≠ gb131)); clear BK131; clear HB; have BK131 := n0_; have HB := n1_; have BK132 := n2_; have GW132 := n3_; have GE132 := n4_; have NB131_132 := n5_; have NB132_131 := n6_; clear n0_ n1_ n2_ n3_ n4_ n5_ n6_; clear hb hbox hg) | ((with_reducible refine gate_callee (f := 57) rfl ?_); refine goesL_ (some 16) rfl rfl Try.func57 (by kernel_rfl) rfl #[.string a0, .int .i64 a1, .int .u64 1073741824, .bool false] rfl (by (try simp only [List.map_toArray, List.map_cons, List.map_nil]); first | done | rfl | (simp only [List.length_drop, List.length_take]; rfl)) ?_; (with_reducible refine (payoffref03_number.calls k a0 a1 1073741824 false t133 t134 _ A3.out).mono ?_); rintro e w' ⟨rfl, ⟨nd, rfl⟩⟩; refine ⟨_, rfl, ?_⟩))
 (try simp only [Act.put, List.setIfInBounds_toArray, List.set_cons_zero, List.set_cons_succ])
 go_cut [32] (fun v32 wc => ∃ (kq : Nat) (x32_3 : Bool), v32 = .bool x32_3 ∧ Aside0 (payoffref03_line.j0 kq a0 a1 t133 x32_3 0 (⟨#[]⟩ : ByteArray) 0 = some (r1, r2, r3, r4, r5)) ∧ Aside0 (kq ≤ k) ∧ Aside0 (wc.heap[gb131]? = some (.cells #[.int .i64 0, .string (⟨#[]⟩ : ByteArray), .int .i64 0] 32 (0, 0))) ∧ Aside0 (wc.heap[gb132]? = some (.cells #[.int .i64 0, .string (⟨#[]⟩ : ByteArray), .int .i64 0] 32 (0, 0))) ∧ Aside0 (Below w.heap.size w wc))
 case first =>
  have H := HC4.out
  clear HC4
  by_cases c7 : t134 = true
  ·subst c7
   have H1 : (if t133 ≥ (a0.size : Int) then (payoffref03_line.j0 k a0 a1 t133 true 0 (⟨#[]⟩ : ByteArray) 0) else (if 0 ≤ t133 then (if t133 < (a0.size : Int) then (payoffref03_line.j0 k a0 a1 t133 ((bt a0 t133) != 32) 0 (⟨#[]⟩ : ByteArray) 0) else (none)) else (none))) = some (r1, r2, r3, r4, r5) := by rw [if_pos rfl] at H; exact H
   clear H
   have H := H1
   clear H1
   by_cases c8 : t133 ≥ (a0.size : Int)
   ·rw [if_pos c8] at H
    have c8b0 := decide_eq_true c8
    clear c8
    (first | rw [c8b0] | (simp only [i64_w, i32_w]; rw [c8b0]) | skip)
    have H' := ak H
    clear H
    go_wp2
    go_meet
    case rel => exact ⟨_, (true), (by first | rfl | (simp; done) | (simp [*]; done)), H', ⟨by first | omega | exact Nat.le_refl _⟩, ⟨by (with_reducible repeat (first | refine blk_drewN ?_ _ | refine blk_drew ?_ | refine blk_alloc ?_ _)); exact BK131.out⟩, ⟨by (with_reducible repeat (first | refine blk_drewN ?_ _ | refine blk_drew ?_ | refine blk_alloc ?_ _)); exact BK132.out⟩, ⟨by repeat (first | (with_reducible first | exact HB.out | apply below_alloc | apply pw_below_drewN | apply below_drew1 | refine below_set ?_ GE131.out | refine below_set ?_ GE132.out) | exact HB.out)⟩⟩
   ·rw [if_neg c8] at H
    have c8b0 := decide_eq_false c8
    clear c8
    (first | rw [c8b0] | (simp only [i64_w, i32_w]; rw [c8b0]) | skip)
    by_cases c9 : 0 ≤ t133
    ·rw [if_pos c9] at H
     have c9b0 := decide_eq_true c9
     clear c9
     by_cases c10 : t133 < (a0.size : Int)
     ·rw [if_pos c10] at H
      have c10b0 := decide_eq_true c10
      clear c10
      have H' := ak H
      clear H
      have p11 : 0 ≤ (t133 : Int) := of_decide_eq_true (by first | (with_reducible assumption) | assumption)
      have q11 : t133 < (a0.size : Int) := of_decide_eq_true (by first | (with_reducible assumption) | assumption)
      have hx11 := bt_at a0 t133
      replace p11 := eq_true p11
      replace q11 := eq_true q11
      go_wp2
      go_meet
      case rel => exact ⟨_, (((bt a0 t133) != 32)), (by first | rfl | (simp; done) | (simp [*]; done)), H', ⟨by first | omega | exact Nat.le_refl _⟩, ⟨by (with_reducible repeat (first | refine blk_drewN ?_ _ | refine blk_drew ?_ | refine blk_alloc ?_ _)); exact BK131.out⟩, ⟨by (with_reducible repeat (first | refine blk_drewN ?_ _ | refine blk_drew ?_ | refine blk_alloc ?_ _)); exact BK132.out⟩, ⟨by repeat (first | (with_reducible first | exact HB.out | apply below_alloc | apply pw_below_drewN | apply below_drew1 | refine below_set ?_ GE131.out | refine below_set ?_ GE132.out) | exact HB.out)⟩⟩
     ·rw [if_neg c10] at H
      exact absurd H (by simp)
    ·rw [if_neg c9] at H
     exact absurd H (by simp)
  ·replace c7 := Bool.eq_false_iff.mpr c7
   subst c7
   have H1 : (payoffref03_line.j0 k a0 a1 t133 true 0 (⟨#[]⟩ : ByteArray) 0) = some (r1, r2, r3, r4, r5) := by rw [if_neg (show ¬ (false = true) by decide)] at H; exact H
   clear H
   have H := H1
   clear H1
   have H' := ak H
   clear H
   go_wp2
   go_meet
   case rel => exact ⟨_, (true), (by first | rfl | (simp; done) | (simp [*]; done)), H', ⟨by first | omega | exact Nat.le_refl _⟩, ⟨by (with_reducible repeat (first | refine blk_drewN ?_ _ | refine blk_drew ?_ | refine blk_alloc ?_ _)); exact BK131.out⟩, ⟨by (with_reducible repeat (first | refine blk_drewN ?_ _ | refine blk_drew ?_ | refine blk_alloc ?_ _)); exact BK132.out⟩, ⟨by repeat (first | (with_reducible first | exact HB.out | apply below_alloc | apply pw_below_drewN | apply below_drew1 | refine below_set ?_ GE131.out | refine below_set ?_ GE132.out) | exact HB.out)⟩⟩
 case rest =>
  clear HC4
  try clear c1
  try clear p1
  try clear q1
  try clear hx1
  try clear p2
  try clear c3
  try clear c5
  try clear c7
  try clear c8
  try clear c8b0
  try clear c9
  try clear c9b0
  try clear c10
  try clear c10b0
  try clear p11
  try clear q11
  try clear hx11
  try clear p11
  try clear q11
  obtain ⟨kq, x32_3, rfl, HA, HJ3, BK131, BK132, HB⟩ := hcut
  cases kq with
  | zero => exact absurd HA.out (by simp [payoffref03_line.j0])
  | succ kj3 =>
   have H := HA.out
   clear HA
   simp only [payoffref03_line.j0] at H
   by_cases c12 : x32_3 = true
   ·subst c12
    have H1 : (some (0, (⟨#[]⟩ : ByteArray), 0, t133, false)) = some (r1, r2, r3, r4, r5) := by rw [if_pos rfl] at H; exact H
    clear H
    have H := H1
    clear H1
    simp only [Option.some.injEq, Prod.mk.injEq] at H
    obtain ⟨rfl, rfl, rfl, rfl, rfl⟩ := H
    have hnb13 := NB132_131.out
    have hnc13 := NB131_132.out
    have hcz14_0 : wc.cell? ⟨gb132, 0, none⟩ = some (.int .i64 0) := (blk_cell BK132.out 0).trans rfl
    have hcz14_1 : wc.cell? ⟨gb132, 1, none⟩ = some (.string (⟨#[]⟩ : ByteArray)) := (blk_cell BK132.out 1).trans rfl
    have hcz14_2 : wc.cell? ⟨gb132, 2, none⟩ = some (.int .i64 0) := (blk_cell BK132.out 2).trans rfl
    have hfz14_0 := blk_frozen BK132.out 0
    have hfz14_1 := blk_frozen BK132.out 1
    have hfz14_2 := blk_frozen BK132.out 2
    have hcz15_0 : wc.cell? ⟨gb131, 0, none⟩ = some (.int .i64 0) := (blk_cell BK131.out 0).trans rfl
    have hcz15_1 : wc.cell? ⟨gb131, 1, none⟩ = some (.string (⟨#[]⟩ : ByteArray)) := (blk_cell BK131.out 1).trans rfl
    have hcz15_2 : wc.cell? ⟨gb131, 2, none⟩ = some (.int .i64 0) := (blk_cell BK131.out 2).trans rfl
    have hfz15_0 := blk_frozen BK131.out 0
    have hfz15_1 := blk_frozen BK131.out 1
    have hfz15_2 := blk_frozen BK131.out 2
    go_wp2
    refine bodyPost_ret (results_ctt rfl _ _ gb131 32 #[.int .i64 0, .string (⟨#[]⟩ : ByteArray), .int .i64 0] (0, 0) _ rfl (by (with_reducible repeat (first | refine blk_drewN ?_ _ | refine blk_drew ?_ | refine blk_alloc ?_ _)); refine blk_put (cs := #[.int .i64 0, .string (⟨#[]⟩ : ByteArray), .int .i64 0]) ?_ 2 _ rfl; (with_reducible repeat (first | refine blk_drewN ?_ _ | refine blk_drew ?_ | refine blk_alloc ?_ _)); refine blk_put (cs := #[.int .i64 0, .string (⟨#[]⟩ : ByteArray), .int .i64 0]) ?_ 1 _ rfl; (with_reducible repeat (first | refine blk_drewN ?_ _ | refine blk_drew ?_ | refine blk_alloc ?_ _)); refine blk_put (cs := #[.int .i64 0, .string (⟨#[]⟩ : ByteArray), .int .i64 0]) ?_ 0 _ rfl; (with_reducible repeat (first | refine blk_drewN ?_ _ | refine blk_drew ?_ | refine blk_alloc ?_ _)); exact BK131.out) Try.underlying32 rfl (by kernel_rfl)) rfl ?_
    exact ⟨by first | rfl | (simp [errW_none, errW_some] <;> rfl) | (simp [*, errW_none, errW_some] <;> rfl), by repeat (first | (with_reducible first | exact HB.out | apply below_alloc | apply pw_below_drewN | apply below_drew1 | refine below_set ?_ GE131.out | refine below_set ?_ GE132.out) | exact HB.out)⟩
   ·replace c12 := Bool.eq_false_iff.mpr c12
    subst c12
    have H1 : (if 0 ≤ a1 then (if a1 ≤ t133 then (if t133 ≤ (a0.size : Int) then ((payoffref03_value.f kj3 (a0.extract (a1 : Int).toNat (t133 : Int).toNat)).bind fun t135 => (payoffref03_line.l0 kj3 a0 (wrap64 (t133 + 1)) 0 t135 (⟨#[]⟩ : ByteArray) 0)) else (none)) else (none)) else (none)) = some (r1, r2, r3, r4, r5) := by rw [if_neg (show ¬ (false = true) by decide)] at H; exact H
    clear H
    have H := H1
    clear H1
    by_cases c16 : 0 ≤ a1
    ·rw [if_pos c16] at H
     have c16b0 := eq_true c16
     have c16b1 := decide_eq_true c16
     clear c16
     by_cases c17 : a1 ≤ t133
     ·rw [if_pos c17] at H
      have c17b0 := eq_true c17
      have c17b1 := decide_eq_true c17
      clear c17
      by_cases c18 : t133 ≤ (a0.size : Int)
      ·rw [if_pos c18] at H
       have c18b0 := eq_true c18
       have c18b1 := decide_eq_true c18
       clear c18
       replace H := Option.bind_eq_some_iff.mp H
       obtain ⟨t135, A190, H⟩ := H
       replace H : (payoffref03_line.l0 kj3 a0 (wrap64 (t133 + 1)) 0 t135 (⟨#[]⟩ : ByteArray) 0) = some (r1, r2, r3, r4, r5) := H
       have A19 := ak A190
       clear A190
       have H' := ak H
       clear H
       go_wp2_with (first | ((with_reducible refine gate_callee (f := 58) rfl ?_); refine goesL_ (some 39) rfl rfl Try.func58 (by kernel_rfl) rfl #[.string (a0.extract (a1 : Int).toNat (t133 : Int).toNat)] rfl (by (try simp only [List.map_toArray, List.map_cons, List.map_nil]); first | done | rfl | (simp only [List.length_drop, List.length_take]; rfl)) ?_; (with_reducible refine (payoffref03_value.calls kj3 (a0.extract (a1 : Int).toNat (t133 : Int).toNat) t135 _ A19.out).mono ?_); rintro e w' ⟨rfl, ⟨nd, rfl⟩⟩; refine ⟨_, rfl, ?_⟩; (try (rw [drewN_self wc]; generalize hq_ : World.drewN wc _ = wc; have n0_ : Aside0 (wc.heap[gb131]? = some (.cells #[.int .i64 0, .string (⟨#[]⟩ : ByteArray), .int .i64 0] 32 (0, 0))) := ⟨by rw [← hq_]; exact (by (with_reducible repeat (first | refine blk_drewN ?_ _ | refine blk_drew ?_ | refine blk_alloc ?_ _)); exact BK131.out)⟩; have n1_ : Aside0 (wc.heap[gb132]? = some (.cells #[.int .i64 0, .string (⟨#[]⟩ : ByteArray), .int .i64 0] 32 (0, 0))) := ⟨by rw [← hq_]; exact (by (with_reducible repeat (first | refine blk_drewN ?_ _ | refine blk_drew ?_ | refine blk_alloc ?_ _)); exact BK132.out)⟩; have n2_ : Aside0 (Below w.heap.size w wc) := ⟨by rw [← hq_]; exact (by repeat (first | (with_reducible first | exact HB.out | apply below_alloc | apply pw_below_drewN | apply below_drew1 | refine below_set ?_ GE131.out | refine below_set ?_ GE132.out) | exact HB.out))⟩; clear BK131 BK132 HB hq_; have BK131 := n0_; have BK132 := n1_; have HB := n2_; clear n0_ n1_ n2_)); have hnb20 := NB132_131.out; have hnc20 := NB131_132.out; have hcz21_0 : wc.cell? ⟨gb132, 0, none⟩ = some (.int .i64 0) := (blk_cell BK132.out 0).trans rfl; have hcz21_1 : wc.cell? ⟨gb132, 1, none⟩ = some (.string (⟨#[]⟩ : ByteArray)) := (blk_cell BK132.out 1).trans rfl; have hcz21_2 : wc.cell? ⟨gb132, 2, none⟩ = some (.int .i64 0) := (blk_cell BK132.out 2).trans rfl; have hfz21_0 := blk_frozen BK132.out 0; have hfz21_1 := blk_frozen BK132.out 1; have hfz21_2 := blk_frozen BK132.out 2))
       go_loopg [11] kj3 (fun kq v11 w' => ∃ (x11_2 : Int) (x132000_2 : Int) (x132001_2 : ByteArray) (x132002_2 : Int), v11 = .int .i64 x11_2 ∧ Aside0 (payoffref03_line.l0 kq a0 (wrap64 (t133 + 1)) x11_2 t135 (⟨#[]⟩ : ByteArray) 0 = some (r1, r2, r3, r4, r5)) ∧ Aside0 (kq ≤ kj3) ∧ Aside0 (w'.heap[gb131]? = some (.cells #[.int .i64 x132000_2, .string x132001_2, .int .i64 x132002_2] 32 (0, 0))) ∧ Aside0 (w'.heap[gb132]? = some (.cells #[.int .i64 t135, .string (⟨#[]⟩ : ByteArray), .int .i64 0] 32 (0, 0))) ∧ Aside0 (Below w.heap.size w w'))
       case atStart => exact ⟨(0), (0), ((⟨#[]⟩ : ByteArray)), (0), (by first | rfl | (simp; done) | (simp [*]; done)), H', ⟨Nat.le_refl _⟩, ⟨by (with_reducible repeat (first | refine blk_drewN ?_ _ | refine blk_drew ?_ | refine blk_alloc ?_ _)); refine blk_far ?_ NB131_132.out _; (with_reducible repeat (first | refine blk_drewN ?_ _ | refine blk_drew ?_ | refine blk_alloc ?_ _)); exact BK131.out⟩, ⟨by (with_reducible repeat (first | refine blk_drewN ?_ _ | refine blk_drew ?_ | refine blk_alloc ?_ _)); refine blk_put (cs := #[.int .i64 0, .string (⟨#[]⟩ : ByteArray), .int .i64 0]) ?_ 0 _ rfl; (with_reducible repeat (first | refine blk_drewN ?_ _ | refine blk_drew ?_ | refine blk_alloc ?_ _)); exact BK132.out⟩, ⟨by repeat (first | (with_reducible first | exact HB.out | apply below_alloc | apply pw_below_drewN | apply below_drew1 | refine below_set ?_ GE131.out | refine below_set ?_ GE132.out) | exact HB.out)⟩⟩
       case round =>
        clear H'
        try clear c1
        try clear p1
        try clear q1
        try clear hx1
        try clear c2
        try clear p2
        try clear c3
        try clear c5
        try clear p6
        try clear c7
        try clear c8
        try clear c8b0
        try clear c9
        try clear c9b0
        try clear c10
        try clear c10b0
        try clear p11
        try clear q11
        try clear hx11
        try clear c12
        try clear c13
        try clear c16
        try clear c16b0
        try clear c16b1
        try clear c17
        try clear c17b0
        try clear c17b1
        try clear c18
        try clear c18b0
        try clear c18b1
        try clear c20
        try clear hcz14_0
        try clear hcz14_1
        try clear hcz14_2
        try clear hcz15_0
        try clear hcz15_1
        try clear hcz15_2
        try clear hcz21_0
        try clear hcz21_1
        try clear hcz21_2
        try clear hfz14_0
        try clear hfz14_1
        try clear hfz14_2
        try clear hfz15_0
        try clear hfz15_1
        try clear hfz15_2
        try clear hfz21_0
        try clear hfz21_1
        try clear hfz21_2
        try clear p1
        try clear p11
        try clear p2
        try clear q1
        try clear q11
        obtain ⟨x11_2, x132000_2, x132001_2, x132002_2, rfl, HA, HK2, BK131, BK132, HB⟩ := hrel
        cases gk with
        | zero => exact absurd HA.out (by simp [payoffref03_line.l0])
        | succ k2 =>
         have H := HA.out
         clear HA
         simp only [payoffref03_line.l0] at H
         by_cases c22 : x11_2 < 3
         ·rw [if_pos c22] at H
          have c22b0 := decide_eq_true c22
          clear c22
          by_cases c23 : (wrap64 ((wrap64 (t133 + 1)) + x11_2)) ≥ (a0.size : Int)
          ·rw [if_pos c23] at H
           have c23b0 := decide_eq_true c23
           clear c23
           simp only [Option.some.injEq, Prod.mk.injEq] at H
           obtain ⟨rfl, rfl, rfl, rfl, rfl⟩ := H
           have hnb24 := NB132_131.out
           have hnc24 := NB131_132.out
           have hcz25_0 : wr.cell? ⟨gb132, 0, none⟩ = some (.int .i64 t135) := (blk_cell BK132.out 0).trans rfl
           have hcz25_1 : wr.cell? ⟨gb132, 1, none⟩ = some (.string (⟨#[]⟩ : ByteArray)) := (blk_cell BK132.out 1).trans rfl
           have hcz25_2 : wr.cell? ⟨gb132, 2, none⟩ = some (.int .i64 0) := (blk_cell BK132.out 2).trans rfl
           have hfz25_0 := blk_frozen BK132.out 0
           have hfz25_1 := blk_frozen BK132.out 1
           have hfz25_2 := blk_frozen BK132.out 2
           have hcz26_0 : wr.cell? ⟨gb131, 0, none⟩ = some (.int .i64 x132000_2) := (blk_cell BK131.out 0).trans rfl
           have hcz26_1 : wr.cell? ⟨gb131, 1, none⟩ = some (.string x132001_2) := (blk_cell BK131.out 1).trans rfl
           have hcz26_2 : wr.cell? ⟨gb131, 2, none⟩ = some (.int .i64 x132002_2) := (blk_cell BK131.out 2).trans rfl
           have hfz26_0 := blk_frozen BK131.out 0
           have hfz26_1 := blk_frozen BK131.out 1
           have hfz26_2 := blk_frozen BK131.out 2
           go_wp2
           refine bodyPost_ret (results_ctt rfl _ _ gb131 32 #[.int .i64 t135, .string (⟨#[]⟩ : ByteArray), .int .i64 0] (0, 0) _ rfl (by (with_reducible repeat (first | refine blk_drewN ?_ _ | refine blk_drew ?_ | refine blk_alloc ?_ _)); refine blk_put (cs := #[.int .i64 t135, .string (⟨#[]⟩ : ByteArray), .int .i64 x132002_2]) ?_ 2 _ rfl; (with_reducible repeat (first | refine blk_drewN ?_ _ | refine blk_drew ?_ | refine blk_alloc ?_ _)); refine blk_put (cs := #[.int .i64 t135, .string x132001_2, .int .i64 x132002_2]) ?_ 1 _ rfl; (with_reducible repeat (first | refine blk_drewN ?_ _ | refine blk_drew ?_ | refine blk_alloc ?_ _)); refine blk_put (cs := #[.int .i64 x132000_2, .string x132001_2, .int .i64 x132002_2]) ?_ 0 _ rfl; (with_reducible repeat (first | refine blk_drewN ?_ _ | refine blk_drew ?_ | refine blk_alloc ?_ _)); exact BK131.out) Try.underlying32 rfl (by kernel_rfl)) rfl ?_
           exact ⟨by first | rfl | (simp [errW_none, errW_some] <;> rfl) | (simp [*, errW_none, errW_some] <;> rfl), by repeat (first | (with_reducible first | exact HB.out | apply below_alloc | apply pw_below_drewN | apply below_drew1 | refine below_set ?_ GE131.out | refine below_set ?_ GE132.out) | exact HB.out)⟩
          ·rw [if_neg c23] at H
           have c23b0 := decide_eq_false c23
           clear c23
           obtain ⟨ji27, hji27⟩ : ∃ j_ : Int, (wrap64 ((wrap64 (t133 + 1)) + x11_2)) = j_ := ⟨_, rfl⟩
           replace H : (if 0 ≤ (ji27) then (if (ji27) < (a0.size : Int) then (if (bt a0 (ji27)) < 65 then (some (t135, (⟨#[]⟩ : ByteArray), 0, ji27, false)) else (if (bt a0 (ji27)) > 90 then (some (t135, (⟨#[]⟩ : ByteArray), 0, ji27, false)) else (payoffref03_line.l0 k2 a0 (wrap64 (t133 + 1)) (wrap64 (x11_2 + 1)) t135 (⟨#[]⟩ : ByteArray) 0))) else (none)) else (none)) = some (r1, r2, r3, r4, r5) := by first | (rw [hji27] at H; exact H) | (simp only [hji27] at H ⊢; exact H)
           (try rw [hji27] at c23b0)
           have hji27w : (IntKind.i64.wrap ((wrap64 (t133 + 1)) + x11_2)) = ji27 := (i64_w _).trans hji27
           by_cases c28 : 0 ≤ (ji27)
           ·rw [if_pos c28] at H
            have c28b0 := decide_eq_true c28
            clear c28
            by_cases c29 : (ji27) < (a0.size : Int)
            ·rw [if_pos c29] at H
             have c29b0 := decide_eq_true c29
             clear c29
             by_cases c31 : (bt a0 (ji27)) < 65
             ·rw [if_pos c31] at H
              have c31b0 := decide_eq_true c31
              clear c31
              simp only [Option.some.injEq, Prod.mk.injEq] at H
              obtain ⟨rfl, rfl, rfl, rfl, rfl⟩ := H
              have p30 : 0 ≤ ((ji27) : Int) := of_decide_eq_true (by first | (with_reducible assumption) | assumption)
              have q30 : (ji27) < (a0.size : Int) := of_decide_eq_true (by first | (with_reducible assumption) | assumption)
              have hx30 := bt_at a0 (ji27)
              replace p30 := eq_true p30
              replace q30 := eq_true q30
              have hnb32 := NB132_131.out
              have hnc32 := NB131_132.out
              have hcz33_0 : wr.cell? ⟨gb132, 0, none⟩ = some (.int .i64 t135) := (blk_cell BK132.out 0).trans rfl
              have hcz33_1 : wr.cell? ⟨gb132, 1, none⟩ = some (.string (⟨#[]⟩ : ByteArray)) := (blk_cell BK132.out 1).trans rfl
              have hcz33_2 : wr.cell? ⟨gb132, 2, none⟩ = some (.int .i64 0) := (blk_cell BK132.out 2).trans rfl
              have hfz33_0 := blk_frozen BK132.out 0
              have hfz33_1 := blk_frozen BK132.out 1
              have hfz33_2 := blk_frozen BK132.out 2
              have hcz34_0 : wr.cell? ⟨gb131, 0, none⟩ = some (.int .i64 x132000_2) := (blk_cell BK131.out 0).trans rfl
              have hcz34_1 : wr.cell? ⟨gb131, 1, none⟩ = some (.string x132001_2) := (blk_cell BK131.out 1).trans rfl
              have hcz34_2 : wr.cell? ⟨gb131, 2, none⟩ = some (.int .i64 x132002_2) := (blk_cell BK131.out 2).trans rfl
              have hfz34_0 := blk_frozen BK131.out 0
              have hfz34_1 := blk_frozen BK131.out 1
              have hfz34_2 := blk_frozen BK131.out 2
              go_wp2
              refine bodyPost_ret (results_ctt rfl _ _ gb131 32 #[.int .i64 t135, .string (⟨#[]⟩ : ByteArray), .int .i64 0] (0, 0) _ rfl (by (with_reducible repeat (first | refine blk_drewN ?_ _ | refine blk_drew ?_ | refine blk_alloc ?_ _)); refine blk_put (cs := #[.int .i64 t135, .string (⟨#[]⟩ : ByteArray), .int .i64 x132002_2]) ?_ 2 _ rfl; (with_reducible repeat (first | refine blk_drewN ?_ _ | refine blk_drew ?_ | refine blk_alloc ?_ _)); refine blk_put (cs := #[.int .i64 t135, .string x132001_2, .int .i64 x132002_2]) ?_ 1 _ rfl; (with_reducible repeat (first | refine blk_drewN ?_ _ | refine blk_drew ?_ | refine blk_alloc ?_ _)); refine blk_put (cs := #[.int .i64 x132000_2, .string x132001_2, .int .i64 x132002_2]) ?_ 0 _ rfl; (with_reducible repeat (first | refine blk_drewN ?_ _ | refine blk_drew ?_ | refine blk_alloc ?_ _)); exact BK131.out) Try.underlying32 rfl (by kernel_rfl)) rfl ?_
              exact ⟨by first | rfl | (simp [errW_none, errW_some] <;> rfl) | (simp only [← hji27]; first | rfl | (simp [errW_none, errW_some] <;> rfl)) | (simp [*, errW_none, errW_some] <;> rfl), by repeat (first | (with_reducible first | exact HB.out | apply below_alloc | apply pw_below_drewN | apply below_drew1 | refine below_set ?_ GE131.out | refine below_set ?_ GE132.out) | exact HB.out)⟩
             ·rw [if_neg c31] at H
              have c31b0 := decide_eq_false c31
              clear c31
              by_cases c36 : (bt a0 (ji27)) > 90
              ·rw [if_pos c36] at H
               have c36b0 := decide_eq_true c36
               clear c36
               simp only [Option.some.injEq, Prod.mk.injEq] at H
               obtain ⟨rfl, rfl, rfl, rfl, rfl⟩ := H
               have p30 : 0 ≤ ((ji27) : Int) := of_decide_eq_true (by first | (with_reducible assumption) | assumption)
               have q30 : (ji27) < (a0.size : Int) := of_decide_eq_true (by first | (with_reducible assumption) | assumption)
               have hx30 := bt_at a0 (ji27)
               replace p30 := eq_true p30
               replace q30 := eq_true q30
               have p35 : 0 ≤ ((ji27) : Int) := of_decide_eq_true (by first | (with_reducible assumption) | assumption)
               have q35 : (ji27) < (a0.size : Int) := of_decide_eq_true (by first | (with_reducible assumption) | assumption)
               have hx35 := bt_at a0 (ji27)
               replace p35 := eq_true p35
               replace q35 := eq_true q35
               have hnb37 := NB132_131.out
               have hnc37 := NB131_132.out
               have hcz38_0 : wr.cell? ⟨gb132, 0, none⟩ = some (.int .i64 t135) := (blk_cell BK132.out 0).trans rfl
               have hcz38_1 : wr.cell? ⟨gb132, 1, none⟩ = some (.string (⟨#[]⟩ : ByteArray)) := (blk_cell BK132.out 1).trans rfl
               have hcz38_2 : wr.cell? ⟨gb132, 2, none⟩ = some (.int .i64 0) := (blk_cell BK132.out 2).trans rfl
               have hfz38_0 := blk_frozen BK132.out 0
               have hfz38_1 := blk_frozen BK132.out 1
               have hfz38_2 := blk_frozen BK132.out 2
               have hcz39_0 : wr.cell? ⟨gb131, 0, none⟩ = some (.int .i64 x132000_2) := (blk_cell BK131.out 0).trans rfl
               have hcz39_1 : wr.cell? ⟨gb131, 1, none⟩ = some (.string x132001_2) := (blk_cell BK131.out 1).trans rfl
               have hcz39_2 : wr.cell? ⟨gb131, 2, none⟩ = some (.int .i64 x132002_2) := (blk_cell BK131.out 2).trans rfl
               have hfz39_0 := blk_frozen BK131.out 0
               have hfz39_1 := blk_frozen BK131.out 1
               have hfz39_2 := blk_frozen BK131.out 2
               go_wp2
               refine bodyPost_ret (results_ctt rfl _ _ gb131 32 #[.int .i64 t135, .string (⟨#[]⟩ : ByteArray), .int .i64 0] (0, 0) _ rfl (by (with_reducible repeat (first | refine blk_drewN ?_ _ | refine blk_drew ?_ | refine blk_alloc ?_ _)); refine blk_put (cs := #[.int .i64 t135, .string (⟨#[]⟩ : ByteArray), .int .i64 x132002_2]) ?_ 2 _ rfl; (with_reducible repeat (first | refine blk_drewN ?_ _ | refine blk_drew ?_ | refine blk_alloc ?_ _)); refine blk_put (cs := #[.int .i64 t135, .string x132001_2, .int .i64 x132002_2]) ?_ 1 _ rfl; (with_reducible repeat (first | refine blk_drewN ?_ _ | refine blk_drew ?_ | refine blk_alloc ?_ _)); refine blk_put (cs := #[.int .i64 x132000_2, .string x132001_2, .int .i64 x132002_2]) ?_ 0 _ rfl; (with_reducible repeat (first | refine blk_drewN ?_ _ | refine blk_drew ?_ | refine blk_alloc ?_ _)); exact BK131.out) Try.underlying32 rfl (by kernel_rfl)) rfl ?_
               exact ⟨by first | rfl | (simp [errW_none, errW_some] <;> rfl) | (simp only [← hji27]; first | rfl | (simp [errW_none, errW_some] <;> rfl)) | (simp [*, errW_none, errW_some] <;> rfl), by repeat (first | (with_reducible first | exact HB.out | apply below_alloc | apply pw_below_drewN | apply below_drew1 | refine below_set ?_ GE131.out | refine below_set ?_ GE132.out) | exact HB.out)⟩
              ·rw [if_neg c36] at H
               have c36b0 := decide_eq_false c36
               clear c36
               have H' := ak H
               clear H
               have p30 : 0 ≤ ((ji27) : Int) := of_decide_eq_true (by first | (with_reducible assumption) | assumption)
               have q30 : (ji27) < (a0.size : Int) := of_decide_eq_true (by first | (with_reducible assumption) | assumption)
               have hx30 := bt_at a0 (ji27)
               replace p30 := eq_true p30
               replace q30 := eq_true q30
               have p35 : 0 ≤ ((ji27) : Int) := of_decide_eq_true (by first | (with_reducible assumption) | assumption)
               have q35 : (ji27) < (a0.size : Int) := of_decide_eq_true (by first | (with_reducible assumption) | assumption)
               have hx35 := bt_at a0 (ji27)
               replace p35 := eq_true p35
               replace q35 := eq_true q35
               go_wp2
               go_roundg k2
               case measure => have := HJ3.out; have := HK2.out; omega
               case rel => exact ⟨(wrap64 (x11_2 + 1)), (x132000_2), (x132001_2), (x132002_2), (by first | rfl | (simp; done) | (simp [*]; done)), H', ⟨by have := HJ3.out; have := HK2.out; omega⟩, ⟨by (with_reducible repeat (first | refine blk_drewN ?_ _ | refine blk_drew ?_ | refine blk_alloc ?_ _)); exact BK131.out⟩, ⟨by (with_reducible repeat (first | refine blk_drewN ?_ _ | refine blk_drew ?_ | refine blk_alloc ?_ _)); exact BK132.out⟩, ⟨by repeat (first | (with_reducible first | exact HB.out | apply below_alloc | apply pw_below_drewN | apply below_drew1 | refine below_set ?_ GE131.out | refine below_set ?_ GE132.out) | exact HB.out)⟩⟩
            ·rw [if_neg c29] at H
             exact absurd H (by simp)
           ·rw [if_neg c28] at H
            exact absurd H (by simp)
         ·rw [if_neg c22] at H
          have c22b0 := decide_eq_false c22
          clear c22
          obtain ⟨ji40, hji40⟩ : ∃ j_ : Int, (wrap64 (t133 + 1)) = j_ := ⟨_, rfl⟩
          replace H : (if 0 ≤ (ji40) then (if (ji40) ≤ (wrap64 ((ji40) + 3)) then (if (wrap64 ((ji40) + 3)) ≤ (a0.size : Int) then (if (wrap64 ((ji40) + 3)) ≥ (a0.size : Int) then (payoffref03_line.j2 k2 a0 (ji40) true t135 (a0.extract ((ji40) : Int).toNat ((wrap64 ((ji40) + 3)) : Int).toNat) 0) else (if 0 ≤ (wrap64 ((ji40) + 3)) then (if (wrap64 ((ji40) + 3)) < (a0.size : Int) then (payoffref03_line.j2 k2 a0 (ji40) ((bt a0 (wrap64 ((ji40) + 3))) != 32) t135 (a0.extract ((ji40) : Int).toNat ((wrap64 ((ji40) + 3)) : Int).toNat) 0) else (none)) else (none))) else (none)) else (none)) else (none)) = some (r1, r2, r3, r4, r5) := by first | (rw [hji40] at H; exact H) | (simp only [hji40] at H ⊢; exact H)
          have hji40w : (IntKind.i64.wrap (t133 + 1)) = ji40 := (i64_w _).trans hji40
          by_cases c41 : 0 ≤ (ji40)
          ·rw [if_pos c41] at H
           have c41b0 := eq_true c41
           have c41b1 := decide_eq_true c41
           clear c41
           by_cases c42 : (ji40) ≤ (wrap64 ((ji40) + 3))
           ·rw [if_pos c42] at H
            have c42b0 := eq_true c42
            have c42b1 := decide_eq_true c42
            by_cases c43 : (wrap64 ((ji40) + 3)) ≤ (a0.size : Int)
            ·rw [if_pos c43] at H
             have c43b0 := eq_true c43
             have c43b1 := decide_eq_true c43
             have HC44 := ak H
             clear H
             have hnb45 := NB132_131.out
             have hnc45 := NB131_132.out
             have hcz46_0 : wr.cell? ⟨gb132, 0, none⟩ = some (.int .i64 t135) := (blk_cell BK132.out 0).trans rfl
             have hcz46_1 : wr.cell? ⟨gb132, 1, none⟩ = some (.string (⟨#[]⟩ : ByteArray)) := (blk_cell BK132.out 1).trans rfl
             have hcz46_2 : wr.cell? ⟨gb132, 2, none⟩ = some (.int .i64 0) := (blk_cell BK132.out 2).trans rfl
             have hfz46_0 := blk_frozen BK132.out 0
             have hfz46_1 := blk_frozen BK132.out 1
             have hfz46_2 := blk_frozen BK132.out 2
             go_upto_region 13 with (fail)
             go_cut [90] (fun v90 wc => ∃ (kq : Nat) (x90_43 : Bool), v90 = .bool x90_43 ∧ Aside0 (payoffref03_line.j2 kq a0 (ji40) x90_43 t135 (a0.extract ((ji40) : Int).toNat ((wrap64 ((ji40) + 3)) : Int).toNat) 0 = some (r1, r2, r3, r4, r5)) ∧ Aside0 (kq ≤ k2) ∧ Aside0 (wc.heap[gb131]? = some (.cells #[.int .i64 x132000_2, .string x132001_2, .int .i64 x132002_2] 32 (0, 0))) ∧ Aside0 (wc.heap[gb132]? = some (.cells #[.int .i64 t135, .string (a0.extract ((ji40) : Int).toNat ((wrap64 ((ji40) + 3)) : Int).toNat), .int .i64 0] 32 (0, 0))) ∧ Aside0 (Below w.heap.size w wc))
             case first =>
              have H := HC44.out
              clear HC44
              by_cases c47 : (wrap64 ((ji40) + 3)) ≥ (a0.size : Int)
              ·rw [if_pos c47] at H
               have c47b0 := decide_eq_true c47
               clear c47
               (first | rw [c47b0] | (simp only [i64_w, i32_w]; rw [c47b0]) | skip)
               have H' := ak H
               clear H
               go_wp2
               go_meet
               case rel => exact ⟨_, (true), (by first | rfl | (simp; done) | (simp [*]; done)), H', ⟨by have := HJ3.out; have := HK2.out; first | omega | exact Nat.le_refl _⟩, ⟨by (with_reducible repeat (first | refine blk_drewN ?_ _ | refine blk_drew ?_ | refine blk_alloc ?_ _)); refine blk_far ?_ NB131_132.out _; (with_reducible repeat (first | refine blk_drewN ?_ _ | refine blk_drew ?_ | refine blk_alloc ?_ _)); exact BK131.out⟩, ⟨by (with_reducible repeat (first | refine blk_drewN ?_ _ | refine blk_drew ?_ | refine blk_alloc ?_ _)); refine blk_put (cs := #[.int .i64 t135, .string (⟨#[]⟩ : ByteArray), .int .i64 0]) ?_ 1 _ rfl; (with_reducible repeat (first | refine blk_drewN ?_ _ | refine blk_drew ?_ | refine blk_alloc ?_ _)); exact BK132.out⟩, ⟨by repeat (first | (with_reducible first | exact HB.out | apply below_alloc | apply pw_below_drewN | apply below_drew1 | refine below_set ?_ GE131.out | refine below_set ?_ GE132.out) | exact HB.out)⟩⟩
              ·rw [if_neg c47] at H
               have c47b0 := decide_eq_false c47
               clear c47
               (first | rw [c47b0] | (simp only [i64_w, i32_w]; rw [c47b0]) | skip)
               obtain ⟨ji48, hji48⟩ : ∃ j_ : Int, (wrap64 ((ji40) + 3)) = j_ := ⟨_, rfl⟩
               replace H : (if 0 ≤ (ji48) then (if (ji48) < (a0.size : Int) then (payoffref03_line.j2 k2 a0 (ji40) ((bt a0 (ji48)) != 32) t135 (a0.extract ((ji40) : Int).toNat ((ji48) : Int).toNat) 0) else (none)) else (none)) = some (r1, r2, r3, r4, r5) := by first | (rw [hji48] at H; exact H) | (simp only [hji48] at H ⊢; exact H)
               (try rw [hji48] at c42b0)
               (try rw [hji48] at c42b1)
               (try rw [hji48] at c42)
               (try rw [hji48] at c43b0)
               (try rw [hji48] at c43b1)
               (try rw [hji48] at c43)
               (try rw [hji48] at c47b0)
               have hji48w : (IntKind.i64.wrap ((ji40) + 3)) = ji48 := (i64_w _).trans hji48
               by_cases c49 : 0 ≤ (ji48)
               ·rw [if_pos c49] at H
                have c49b0 := decide_eq_true c49
                clear c49
                by_cases c50 : (ji48) < (a0.size : Int)
                ·rw [if_pos c50] at H
                 have c50b0 := decide_eq_true c50
                 clear c50
                 have H' := ak H
                 clear H
                 have p51 : 0 ≤ ((ji48) : Int) := of_decide_eq_true (by first | (with_reducible assumption) | assumption)
                 have q51 : (ji48) < (a0.size : Int) := of_decide_eq_true (by first | (with_reducible assumption) | assumption)
                 have hx51 := bt_at a0 (ji48)
                 replace p51 := eq_true p51
                 replace q51 := eq_true q51
                 go_wp2
                 go_meet
                 case rel => subst hji48; exact ⟨_, _, (by first | rfl | (simp; done) | (simp only [← hji48] <;> (first | rfl | simp)) | (simp [*]; done)), H', ⟨by have := HJ3.out; have := HK2.out; first | omega | exact Nat.le_refl _⟩, ⟨by (with_reducible repeat (first | refine blk_drewN ?_ _ | refine blk_drew ?_ | refine blk_alloc ?_ _)); refine blk_far ?_ NB131_132.out _; (with_reducible repeat (first | refine blk_drewN ?_ _ | refine blk_drew ?_ | refine blk_alloc ?_ _)); exact BK131.out⟩, ⟨by (with_reducible repeat (first | refine blk_drewN ?_ _ | refine blk_drew ?_ | refine blk_alloc ?_ _)); refine blk_put (cs := #[.int .i64 t135, .string (⟨#[]⟩ : ByteArray), .int .i64 0]) ?_ 1 _ rfl; (with_reducible repeat (first | refine blk_drewN ?_ _ | refine blk_drew ?_ | refine blk_alloc ?_ _)); exact BK132.out⟩, ⟨by repeat (first | (with_reducible first | exact HB.out | apply below_alloc | apply pw_below_drewN | apply below_drew1 | refine below_set ?_ GE131.out | refine below_set ?_ GE132.out) | exact HB.out)⟩⟩
                ·rw [if_neg c50] at H
                 exact absurd H (by simp)
               ·rw [if_neg c49] at H
                exact absurd H (by simp)
             case rest =>
              clear HC44
              try clear c1
              try clear p1
              try clear q1
              try clear hx1
              try clear c2
              try clear p2
              try clear c3
              try clear p3
              try clear q3
              try clear hx3
              try clear c4
              try clear c5
              try clear p5
              try clear q5
              try clear hx5
              try clear p6
              try clear c7
              try clear c8
              try clear c8b0
              try clear c9
              try clear c9b0
              try clear c10
              try clear c10b0
              try clear p11
              try clear q11
              try clear hx11
              try clear c12
              try clear c13
              try clear c16
              try clear c16b0
              try clear c16b1
              try clear c17
              try clear c17b0
              try clear c17b1
              try clear c18
              try clear c18b0
              try clear c18b1
              try clear c20
              try clear c22
              try clear c22b0
              try clear c23
              try clear c23b0
              try clear c24
              try clear c28
              try clear c28b0
              try clear c29
              try clear c29b0
              try clear p30
              try clear q30
              try clear hx30
              try clear c31
              try clear c31b0
              try clear c32
              try clear p35
              try clear q35
              try clear hx35
              try clear c36
              try clear c36b0
              try clear c37
              try clear c39
              try clear c41
              try clear c41b0
              try clear c41b1
              try clear c42
              try clear c42b0
              try clear c42b1
              try clear c43
              try clear c43b0
              try clear c43b1
              try clear c45
              try clear c47
              try clear c47b0
              try clear c49
              try clear c49b0
              try clear c50
              try clear c50b0
              try clear p51
              try clear q51
              try clear hx51
              try clear hcz14_0
              try clear hcz14_1
              try clear hcz14_2
              try clear hcz15_0
              try clear hcz15_1
              try clear hcz15_2
              try clear hcz21_0
              try clear hcz21_1
              try clear hcz21_2
              try clear hcz25_0
              try clear hcz25_1
              try clear hcz25_2
              try clear hcz26_0
              try clear hcz26_1
              try clear hcz26_2
              try clear hcz33_0
              try clear hcz33_1
              try clear hcz33_2
              try clear hcz34_0
              try clear hcz34_1
              try clear hcz34_2
              try clear hcz38_0
              try clear hcz38_1
              try clear hcz38_2
              try clear hcz39_0
              try clear hcz39_1
              try clear hcz39_2
              try clear hcz46_0
              try clear hcz46_1
              try clear hcz46_2
              try clear hfz14_0
              try clear hfz14_1
              try clear hfz14_2
              try clear hfz15_0
              try clear hfz15_1
              try clear hfz15_2
              try clear hfz21_0
              try clear hfz21_1
              try clear hfz21_2
              try clear hfz25_0
              try clear hfz25_1
              try clear hfz25_2
              try clear hfz26_0
              try clear hfz26_1
              try clear hfz26_2
              try clear hfz33_0
              try clear hfz33_1
              try clear hfz33_2
              try clear hfz34_0
              try clear hfz34_1
              try clear hfz34_2
              try clear hfz38_0
              try clear hfz38_1
              try clear hfz38_2
              try clear hfz39_0
              try clear hfz39_1
              try clear hfz39_2
              try clear hfz46_0
              try clear hfz46_1
              try clear hfz46_2
              try clear p1
              try clear p11
              try clear p2
              try clear p30
              try clear p35
              try clear p51
              try clear p6
              try clear q1
              try clear q11
              try clear q30
              try clear q35
              try clear q51
              obtain ⟨kq, x90_43, rfl, HA, HJ43, BK131, BK132, HB⟩ := hcut
              cases kq with
              | zero => exact absurd HA.out (by simp [payoffref03_line.j2])
              | succ kj43 =>
               have H := HA.out
               clear HA
               simp only [payoffref03_line.j2] at H
               by_cases c52 : x90_43 = true
               ·subst c52
                have H1 : (some (t135, (a0.extract ((ji40) : Int).toNat ((wrap64 ((ji40) + 3)) : Int).toNat), 0, wrap64 ((ji40) + 3), false)) = some (r1, r2, r3, r4, r5) := by rw [if_pos rfl] at H; exact H
                clear H
                have H := H1
                clear H1
                simp only [Option.some.injEq, Prod.mk.injEq] at H
                obtain ⟨rfl, rfl, rfl, rfl, rfl⟩ := H
                have hnb53 := NB132_131.out
                have hnc53 := NB131_132.out
                have hcz54_0 : wc.cell? ⟨gb132, 0, none⟩ = some (.int .i64 t135) := (blk_cell BK132.out 0).trans rfl
                have hcz54_1 : wc.cell? ⟨gb132, 1, none⟩ = some (.string (a0.extract ((ji40) : Int).toNat ((wrap64 ((ji40) + 3)) : Int).toNat)) := (blk_cell BK132.out 1).trans rfl
                have hcz54_2 : wc.cell? ⟨gb132, 2, none⟩ = some (.int .i64 0) := (blk_cell BK132.out 2).trans rfl
                have hfz54_0 := blk_frozen BK132.out 0
                have hfz54_1 := blk_frozen BK132.out 1
                have hfz54_2 := blk_frozen BK132.out 2
                have hcz55_0 : wc.cell? ⟨gb131, 0, none⟩ = some (.int .i64 x132000_2) := (blk_cell BK131.out 0).trans rfl
                have hcz55_1 : wc.cell? ⟨gb131, 1, none⟩ = some (.string x132001_2) := (blk_cell BK131.out 1).trans rfl
                have hcz55_2 : wc.cell? ⟨gb131, 2, none⟩ = some (.int .i64 x132002_2) := (blk_cell BK131.out 2).trans rfl
                have hfz55_0 := blk_frozen BK131.out 0
                have hfz55_1 := blk_frozen BK131.out 1
                have hfz55_2 := blk_frozen BK131.out 2
                go_wp2
                refine bodyPost_ret (results_ctt rfl _ _ gb131 32 #[.int .i64 t135, .string (a0.extract ((ji40) : Int).toNat ((wrap64 ((ji40) + 3)) : Int).toNat), .int .i64 0] (0, 0) _ rfl (by (with_reducible repeat (first | refine blk_drewN ?_ _ | refine blk_drew ?_ | refine blk_alloc ?_ _)); refine blk_put (cs := #[.int .i64 t135, .string (a0.extract ((ji40) : Int).toNat ((wrap64 ((ji40) + 3)) : Int).toNat), .int .i64 x132002_2]) ?_ 2 _ rfl; (with_reducible repeat (first | refine blk_drewN ?_ _ | refine blk_drew ?_ | refine blk_alloc ?_ _)); refine blk_put (cs := #[.int .i64 t135, .string x132001_2, .int .i64 x132002_2]) ?_ 1 _ rfl; (with_reducible repeat (first | refine blk_drewN ?_ _ | refine blk_drew ?_ | refine blk_alloc ?_ _)); refine blk_put (cs := #[.int .i64 x132000_2, .string x132001_2, .int .i64 x132002_2]) ?_ 0 _ rfl; (with_reducible repeat (first | refine blk_drewN ?_ _ | refine blk_drew ?_ | refine blk_alloc ?_ _)); exact BK131.out) Try.underlying32 rfl (by kernel_rfl)) rfl ?_
                exact ⟨by first | rfl | (simp [errW_none, errW_some] <;> rfl) | (simp only [← hji40]; first | rfl | (simp [errW_none, errW_some] <;> rfl)) | (simp [*, errW_none, errW_some] <;> rfl), by repeat (first | (with_reducible first | exact HB.out | apply below_alloc | apply pw_below_drewN | apply below_drew1 | refine below_set ?_ GE131.out | refine below_set ?_ GE132.out) | exact HB.out)⟩
               ·replace c52 := Bool.eq_false_iff.mpr c52
                subst c52
                have H1 : ((payoffref03_number.f kj43 a0 (wrap64 ((ji40) + 4)) 9223372036854775807 true).bind fun bt136 => (if bt136.2 = true then (if bt136.1 ≥ (a0.size : Int) then (some (t135, (a0.extract ((ji40) : Int).toNat ((wrap64 ((ji40) + 3)) : Int).toNat), 0, bt136.1, false)) else (if 0 ≤ bt136.1 then (if bt136.1 < (a0.size : Int) then (if (bt a0 bt136.1) = 10 then (if 0 ≤ (wrap64 ((ji40) + 4)) then (if (wrap64 ((ji40) + 4)) ≤ bt136.1 then (if bt136.1 ≤ (a0.size : Int) then ((payoffref03_value.f kj43 (a0.extract ((wrap64 ((ji40) + 4)) : Int).toNat (bt136.1 : Int).toNat)).bind fun t138 => (some (t135, (a0.extract ((ji40) : Int).toNat ((wrap64 ((ji40) + 3)) : Int).toNat), t138, wrap64 (bt136.1 + 1), true))) else (none)) else (none)) else (none)) else (some (t135, (a0.extract ((ji40) : Int).toNat ((wrap64 ((ji40) + 3)) : Int).toNat), 0, bt136.1, false))) else (none)) else (none))) else (some (t135, (a0.extract ((ji40) : Int).toNat ((wrap64 ((ji40) + 3)) : Int).toNat), 0, bt136.1, false)))) = some (r1, r2, r3, r4, r5) := by rw [if_neg (show ¬ (false = true) by decide)] at H; exact H
                clear H
                have H := H1
                clear H1
                replace H := Option.bind_eq_some_iff.mp H
                obtain ⟨⟨t136, t137⟩, A560, H⟩ := H
                replace H : (if t137 = true then (if t136 ≥ (a0.size : Int) then (some (t135, (a0.extract ((ji40) : Int).toNat ((wrap64 ((ji40) + 3)) : Int).toNat), 0, t136, false)) else (if 0 ≤ t136 then (if t136 < (a0.size : Int) then (if (bt a0 t136) = 10 then (if 0 ≤ (wrap64 ((ji40) + 4)) then (if (wrap64 ((ji40) + 4)) ≤ t136 then (if t136 ≤ (a0.size : Int) then ((payoffref03_value.f kj43 (a0.extract ((wrap64 ((ji40) + 4)) : Int).toNat (t136 : Int).toNat)).bind fun t138 => (some (t135, (a0.extract ((ji40) : Int).toNat ((wrap64 ((ji40) + 3)) : Int).toNat), t138, wrap64 (t136 + 1), true))) else (none)) else (none)) else (none)) else (some (t135, (a0.extract ((ji40) : Int).toNat ((wrap64 ((ji40) + 3)) : Int).toNat), 0, t136, false))) else (none)) else (none))) else (some (t135, (a0.extract ((ji40) : Int).toNat ((wrap64 ((ji40) + 3)) : Int).toNat), 0, t136, false))) = some (r1, r2, r3, r4, r5) := H
                have A56 := ak A560
                clear A560
                by_cases c57 : t137 = true
                ·subst c57
                 have H1 : (if t136 ≥ (a0.size : Int) then (some (t135, (a0.extract ((ji40) : Int).toNat ((wrap64 ((ji40) + 3)) : Int).toNat), 0, t136, false)) else (if 0 ≤ t136 then (if t136 < (a0.size : Int) then (if (bt a0 t136) = 10 then (if 0 ≤ (wrap64 ((ji40) + 4)) then (if (wrap64 ((ji40) + 4)) ≤ t136 then (if t136 ≤ (a0.size : Int) then ((payoffref03_value.f kj43 (a0.extract ((wrap64 ((ji40) + 4)) : Int).toNat (t136 : Int).toNat)).bind fun t138 => (some (t135, (a0.extract ((ji40) : Int).toNat ((wrap64 ((ji40) + 3)) : Int).toNat), t138, wrap64 (t136 + 1), true))) else (none)) else (none)) else (none)) else (some (t135, (a0.extract ((ji40) : Int).toNat ((wrap64 ((ji40) + 3)) : Int).toNat), 0, t136, false))) else (none)) else (none))) = some (r1, r2, r3, r4, r5) := by rw [if_pos rfl] at H; exact H
                 clear H
                 have H := H1
                 clear H1
                 by_cases c58 : t136 ≥ (a0.size : Int)
                 ·rw [if_pos c58] at H
                  have c58b0 := decide_eq_true c58
                  clear c58
                  simp only [Option.some.injEq, Prod.mk.injEq] at H
                  obtain ⟨rfl, rfl, rfl, rfl, rfl⟩ := H
                  go_wp2_with (first | ((with_reducible refine gate_callee (f := 57) rfl ?_); refine goesL_ (some 98) rfl rfl Try.func57 (by kernel_rfl) rfl #[.string a0, .int .i64 (wrap64 ((ji40) + 4)), .int .u64 9223372036854775807, .bool true] rfl (by (try simp only [List.map_toArray, List.map_cons, List.map_nil]); first | done | (simp only [hji40]; rfl) | rfl | (simp only [List.length_drop, List.length_take]; rfl)) ?_; (with_reducible refine (payoffref03_number.calls kj43 a0 (wrap64 ((ji40) + 4)) 9223372036854775807 true t136 true _ A56.out).mono ?_); rintro e w' ⟨rfl, ⟨nd, rfl⟩⟩; refine ⟨_, rfl, ?_⟩; (try (rw [drewN_self wc]; generalize hq_ : World.drewN wc _ = wc; have n0_ : Aside0 (wc.heap[gb131]? = some (.cells #[.int .i64 x132000_2, .string x132001_2, .int .i64 x132002_2] 32 (0, 0))) := ⟨by rw [← hq_]; exact (by (with_reducible repeat (first | refine blk_drewN ?_ _ | refine blk_drew ?_ | refine blk_alloc ?_ _)); exact BK131.out)⟩; have n1_ : Aside0 (wc.heap[gb132]? = some (.cells #[.int .i64 t135, .string (a0.extract ((ji40) : Int).toNat ((wrap64 ((ji40) + 3)) : Int).toNat), .int .i64 0] 32 (0, 0))) := ⟨by rw [← hq_]; exact (by (with_reducible repeat (first | refine blk_drewN ?_ _ | refine blk_drew ?_ | refine blk_alloc ?_ _)); exact BK132.out)⟩; have n2_ : Aside0 (Below w.heap.size w wc) := ⟨by rw [← hq_]; exact (by repeat (first | (with_reducible first | exact HB.out | apply below_alloc | apply pw_below_drewN | apply below_drew1 | refine below_set ?_ GE131.out | refine below_set ?_ GE132.out) | exact HB.out))⟩; clear BK131 BK132 HB hq_; have BK131 := n0_; have BK132 := n1_; have HB := n2_; clear n0_ n1_ n2_)); have hnb59 := NB132_131.out; have hnc59 := NB131_132.out; have hcz60_0 : wc.cell? ⟨gb132, 0, none⟩ = some (.int .i64 t135) := (blk_cell BK132.out 0).trans rfl; have hcz60_1 : wc.cell? ⟨gb132, 1, none⟩ = some (.string (a0.extract ((ji40) : Int).toNat ((wrap64 ((ji40) + 3)) : Int).toNat)) := (blk_cell BK132.out 1).trans rfl; have hcz60_2 : wc.cell? ⟨gb132, 2, none⟩ = some (.int .i64 0) := (blk_cell BK132.out 2).trans rfl; have hfz60_0 := blk_frozen BK132.out 0; have hfz60_1 := blk_frozen BK132.out 1; have hfz60_2 := blk_frozen BK132.out 2; have hcz61_0 : wc.cell? ⟨gb131, 0, none⟩ = some (.int .i64 x132000_2) := (blk_cell BK131.out 0).trans rfl; have hcz61_1 : wc.cell? ⟨gb131, 1, none⟩ = some (.string x132001_2) := (blk_cell BK131.out 1).trans rfl; have hcz61_2 : wc.cell? ⟨gb131, 2, none⟩ = some (.int .i64 x132002_2) := (blk_cell BK131.out 2).trans rfl; have hfz61_0 := blk_frozen BK131.out 0; have hfz61_1 := blk_frozen BK131.out 1; have hfz61_2 := blk_frozen BK131.out 2))
                  refine bodyPost_ret (results_ctt rfl _ _ gb131 32 #[.int .i64 t135, .string (a0.extract ((ji40) : Int).toNat ((wrap64 ((ji40) + 3)) : Int).toNat), .int .i64 0] (0, 0) _ rfl (by (with_reducible repeat (first | refine blk_drewN ?_ _ | refine blk_drew ?_ | refine blk_alloc ?_ _)); refine blk_put (cs := #[.int .i64 t135, .string (a0.extract ((ji40) : Int).toNat ((wrap64 ((ji40) + 3)) : Int).toNat), .int .i64 x132002_2]) ?_ 2 _ rfl; (with_reducible repeat (first | refine blk_drewN ?_ _ | refine blk_drew ?_ | refine blk_alloc ?_ _)); refine blk_put (cs := #[.int .i64 t135, .string x132001_2, .int .i64 x132002_2]) ?_ 1 _ rfl; (with_reducible repeat (first | refine blk_drewN ?_ _ | refine blk_drew ?_ | refine blk_alloc ?_ _)); refine blk_put (cs := #[.int .i64 x132000_2, .string x132001_2, .int .i64 x132002_2]) ?_ 0 _ rfl; (with_reducible repeat (first | refine blk_drewN ?_ _ | refine blk_drew ?_ | refine blk_alloc ?_ _)); exact BK131.out) Try.underlying32 rfl (by kernel_rfl)) rfl ?_
                  exact ⟨by first | rfl | (simp [errW_none, errW_some] <;> rfl) | (simp only [← hji40]; first | rfl | (simp [errW_none, errW_some] <;> rfl)) | (simp [*, errW_none, errW_some] <;> rfl), by repeat (first | (with_reducible first | exact HB.out | apply below_alloc | apply pw_below_drewN | apply below_drew1 | refine below_set ?_ GE131.out | refine below_set ?_ GE132.out) | exact HB.out)⟩
                 ·rw [if_neg c58] at H
                  have c58b0 := decide_eq_false c58
                  clear c58
                  by_cases c62 : 0 ≤ t136
                  ·rw [if_pos c62] at H
                   have c62b0 := decide_eq_true c62
                   clear c62
                   by_cases c63 : t136 < (a0.size : Int)
                   ·rw [if_pos c63] at H
                    have c63b0 := decide_eq_true c63
                    clear c63
                    by_cases c65 : (bt a0 t136) = 10
                    ·rw [if_pos c65] at H
                     have c65b0 : ((bt a0 t136) == 10) = true := beq_iff_eq.mpr c65
                     have c65b1 : ((bt a0 t136) != 10) = false := bne_eq_false_iff_eq.mpr c65
                     clear c65
                     obtain ⟨ji66, hji66⟩ : ∃ j_ : Int, (wrap64 ((ji40) + 4)) = j_ := ⟨_, rfl⟩
                     replace H : (if 0 ≤ (ji66) then (if (ji66) ≤ t136 then (if t136 ≤ (a0.size : Int) then ((payoffref03_value.f kj43 (a0.extract ((ji66) : Int).toNat (t136 : Int).toNat)).bind fun t138 => (some (t135, (a0.extract ((ji40) : Int).toNat ((wrap64 ((ji40) + 3)) : Int).toNat), t138, wrap64 (t136 + 1), true))) else (none)) else (none)) else (none)) = some (r1, r2, r3, r4, r5) := by first | (rw [hji66] at H; exact H) | (simp only [hji66] at H ⊢; exact H)
                     (try rw [hji66] at A56)
                     have hji66w : (IntKind.i64.wrap ((ji40) + 4)) = ji66 := (i64_w _).trans hji66
                     by_cases c67 : 0 ≤ (ji66)
                     ·rw [if_pos c67] at H
                      have c67b0 := eq_true c67
                      have c67b1 := decide_eq_true c67
                      clear c67
                      by_cases c68 : (ji66) ≤ t136
                      ·rw [if_pos c68] at H
                       have c68b0 := eq_true c68
                       have c68b1 := decide_eq_true c68
                       clear c68
                       by_cases c69 : t136 ≤ (a0.size : Int)
                       ·rw [if_pos c69] at H
                        have c69b0 := eq_true c69
                        have c69b1 := decide_eq_true c69
                        clear c69
                        replace H := Option.bind_eq_some_iff.mp H
                        obtain ⟨t138, A700, H⟩ := H
                        replace H : (some (t135, (a0.extract ((ji40) : Int).toNat ((wrap64 ((ji40) + 3)) : Int).toNat), t138, wrap64 (t136 + 1), true)) = some (r1, r2, r3, r4, r5) := H
                        have A70 := ak A700
                        clear A700
                        simp only [Option.some.injEq, Prod.mk.injEq] at H
                        obtain ⟨rfl, rfl, rfl, rfl, rfl⟩ := H
                        go_wp2_with (first | ((with_reducible refine gate_callee (f := 57) rfl ?_); refine goesL_ (some 98) rfl rfl Try.func57 (by kernel_rfl) rfl #[.string a0, .int .i64 ji66, .int .u64 9223372036854775807, .bool true] rfl (by (try simp only [List.map_toArray, List.map_cons, List.map_nil]); first | done | (simp only [hji66]; rfl) | rfl | (simp only [List.length_drop, List.length_take]; rfl)) ?_; (with_reducible refine (payoffref03_number.calls kj43 a0 ji66 9223372036854775807 true t136 true _ A56.out).mono ?_); rintro e w' ⟨rfl, ⟨nd, rfl⟩⟩; refine ⟨_, rfl, ?_⟩; (try (rw [drewN_self wc]; generalize hq_ : World.drewN wc _ = wc; have n0_ : Aside0 (wc.heap[gb131]? = some (.cells #[.int .i64 x132000_2, .string x132001_2, .int .i64 x132002_2] 32 (0, 0))) := ⟨by rw [← hq_]; exact (by (with_reducible repeat (first | refine blk_drewN ?_ _ | refine blk_drew ?_ | refine blk_alloc ?_ _)); exact BK131.out)⟩; have n1_ : Aside0 (wc.heap[gb132]? = some (.cells #[.int .i64 t135, .string (a0.extract ((ji40) : Int).toNat ((wrap64 ((ji40) + 3)) : Int).toNat), .int .i64 0] 32 (0, 0))) := ⟨by rw [← hq_]; exact (by (with_reducible repeat (first | refine blk_drewN ?_ _ | refine blk_drew ?_ | refine blk_alloc ?_ _)); exact BK132.out)⟩; have n2_ : Aside0 (Below w.heap.size w wc) := ⟨by rw [← hq_]; exact (by repeat (first | (with_reducible first | exact HB.out | apply below_alloc | apply pw_below_drewN | apply below_drew1 | refine below_set ?_ GE131.out | refine below_set ?_ GE132.out) | exact HB.out))⟩; clear BK131 BK132 HB hq_; have BK131 := n0_; have BK132 := n1_; have HB := n2_; clear n0_ n1_ n2_)); have p64 : 0 ≤ (t136 : Int) := of_decide_eq_true (by first | (with_reducible assumption) | assumption); have q64 : t136 < (a0.size : Int) := of_decide_eq_true (by first | (with_reducible assumption) | assumption); have hx64 := bt_at a0 t136; replace p64 := eq_true p64; replace q64 := eq_true q64) | ((with_reducible refine gate_callee (f := 58) rfl ?_); refine goesL_ (some 122) rfl rfl Try.func58 (by kernel_rfl) rfl #[.string (a0.extract ((ji66) : Int).toNat (t136 : Int).toNat)] rfl (by (try simp only [List.map_toArray, List.map_cons, List.map_nil]); first | done | (simp only [hji66]; rfl) | rfl | (simp only [List.length_drop, List.length_take]; rfl)) ?_; (with_reducible refine (payoffref03_value.calls kj43 (a0.extract ((ji66) : Int).toNat (t136 : Int).toNat) t138 _ A70.out).mono ?_); rintro e w' ⟨rfl, ⟨nd, rfl⟩⟩; refine ⟨_, rfl, ?_⟩; (try (rw [drewN_self wc]; generalize hq_ : World.drewN wc _ = wc; have n0_ : Aside0 (wc.heap[gb131]? = some (.cells #[.int .i64 x132000_2, .string x132001_2, .int .i64 x132002_2] 32 (0, 0))) := ⟨by rw [← hq_]; exact (by (with_reducible repeat (first | refine blk_drewN ?_ _ | refine blk_drew ?_ | refine blk_alloc ?_ _)); exact BK131.out)⟩; have n1_ : Aside0 (wc.heap[gb132]? = some (.cells #[.int .i64 t135, .string (a0.extract ((ji40) : Int).toNat ((wrap64 ((ji40) + 3)) : Int).toNat), .int .i64 0] 32 (0, 0))) := ⟨by rw [← hq_]; exact (by (with_reducible repeat (first | refine blk_drewN ?_ _ | refine blk_drew ?_ | refine blk_alloc ?_ _)); exact BK132.out)⟩; have n2_ : Aside0 (Below w.heap.size w wc) := ⟨by rw [← hq_]; exact (by repeat (first | (with_reducible first | exact HB.out | apply below_alloc | apply pw_below_drewN | apply below_drew1 | refine below_set ?_ GE131.out | refine below_set ?_ GE132.out) | exact HB.out))⟩; clear BK131 BK132 HB hq_; have BK131 := n0_; have BK132 := n1_; have HB := n2_; clear n0_ n1_ n2_)); have hnb71 := NB132_131.out; have hnc71 := NB131_132.out; have hcz72_0 : wc.cell? ⟨gb132, 0, none⟩ = some (.int .i64 t135) := (blk_cell BK132.out 0).trans rfl; have hcz72_1 : wc.cell? ⟨gb132, 1, none⟩ = some (.string (a0.extract ((ji40) : Int).toNat ((wrap64 ((ji40) + 3)) : Int).toNat)) := (blk_cell BK132.out 1).trans rfl; have hcz72_2 : wc.cell? ⟨gb132, 2, none⟩ = some (.int .i64 0) := (blk_cell BK132.out 2).trans rfl; have hfz72_0 := blk_frozen BK132.out 0; have hfz72_1 := blk_frozen BK132.out 1; have hfz72_2 := blk_frozen BK132.out 2; have hcz73_0 : wc.cell? ⟨gb131, 0, none⟩ = some (.int .i64 x132000_2) := (blk_cell BK131.out 0).trans rfl; have hcz73_1 : wc.cell? ⟨gb131, 1, none⟩ = some (.string x132001_2) := (blk_cell BK131.out 1).trans rfl; have hcz73_2 : wc.cell? ⟨gb131, 2, none⟩ = some (.int .i64 x132002_2) := (blk_cell BK131.out 2).trans rfl; have hfz73_0 := blk_frozen BK131.out 0; have hfz73_1 := blk_frozen BK131.out 1; have hfz73_2 := blk_frozen BK131.out 2))
                        refine bodyPost_ret (results_ctt rfl _ _ gb131 32 #[.int .i64 t135, .string (a0.extract ((ji40) : Int).toNat ((wrap64 ((ji40) + 3)) : Int).toNat), .int .i64 t138] (0, 0) _ rfl (by (with_reducible repeat (first | refine blk_drewN ?_ _ | refine blk_drew ?_ | refine blk_alloc ?_ _)); refine blk_put (cs := #[.int .i64 t135, .string (a0.extract ((ji40) : Int).toNat ((wrap64 ((ji40) + 3)) : Int).toNat), .int .i64 x132002_2]) ?_ 2 _ rfl; (with_reducible repeat (first | refine blk_drewN ?_ _ | refine blk_drew ?_ | refine blk_alloc ?_ _)); refine blk_put (cs := #[.int .i64 t135, .string x132001_2, .int .i64 x132002_2]) ?_ 1 _ rfl; (with_reducible repeat (first | refine blk_drewN ?_ _ | refine blk_drew ?_ | refine blk_alloc ?_ _)); refine blk_put (cs := #[.int .i64 x132000_2, .string x132001_2, .int .i64 x132002_2]) ?_ 0 _ rfl; (with_reducible repeat (first | refine blk_drewN ?_ _ | refine blk_drew ?_ | refine blk_alloc ?_ _)); refine blk_far ?_ NB131_132.out _; (with_reducible repeat (first | refine blk_drewN ?_ _ | refine blk_drew ?_ | refine blk_alloc ?_ _)); exact BK131.out) Try.underlying32 rfl (by kernel_rfl)) rfl ?_
                        exact ⟨by first | rfl | (simp [errW_none, errW_some] <;> rfl) | (simp only [← hji40, ← hji66]; first | rfl | (simp [errW_none, errW_some] <;> rfl)) | (simp [*, errW_none, errW_some] <;> rfl), by repeat (first | (with_reducible first | exact HB.out | apply below_alloc | apply pw_below_drewN | apply below_drew1 | refine below_set ?_ GE131.out | refine below_set ?_ GE132.out) | exact HB.out)⟩
                       ·rw [if_neg c69] at H
                        exact absurd H (by simp)
                      ·rw [if_neg c68] at H
                       exact absurd H (by simp)
                     ·rw [if_neg c67] at H
                      exact absurd H (by simp)
                    ·rw [if_neg c65] at H
                     have c65b0 : ((bt a0 t136) == 10) = false := beq_eq_false_iff_ne.mpr c65
                     have c65b1 : ((bt a0 t136) != 10) = true := bne_iff_ne.mpr c65
                     simp only [Option.some.injEq, Prod.mk.injEq] at H
                     obtain ⟨rfl, rfl, rfl, rfl, rfl⟩ := H
                     go_wp2_with (first | ((with_reducible refine gate_callee (f := 57) rfl ?_); refine goesL_ (some 98) rfl rfl Try.func57 (by kernel_rfl) rfl #[.string a0, .int .i64 (wrap64 ((ji40) + 4)), .int .u64 9223372036854775807, .bool true] rfl (by (try simp only [List.map_toArray, List.map_cons, List.map_nil]); first | done | (simp only [hji40]; rfl) | rfl | (simp only [List.length_drop, List.length_take]; rfl)) ?_; (with_reducible refine (payoffref03_number.calls kj43 a0 (wrap64 ((ji40) + 4)) 9223372036854775807 true t136 true _ A56.out).mono ?_); rintro e w' ⟨rfl, ⟨nd, rfl⟩⟩; refine ⟨_, rfl, ?_⟩; (try (rw [drewN_self wc]; generalize hq_ : World.drewN wc _ = wc; have n0_ : Aside0 (wc.heap[gb131]? = some (.cells #[.int .i64 x132000_2, .string x132001_2, .int .i64 x132002_2] 32 (0, 0))) := ⟨by rw [← hq_]; exact (by (with_reducible repeat (first | refine blk_drewN ?_ _ | refine blk_drew ?_ | refine blk_alloc ?_ _)); exact BK131.out)⟩; have n1_ : Aside0 (wc.heap[gb132]? = some (.cells #[.int .i64 t135, .string (a0.extract ((ji40) : Int).toNat ((wrap64 ((ji40) + 3)) : Int).toNat), .int .i64 0] 32 (0, 0))) := ⟨by rw [← hq_]; exact (by (with_reducible repeat (first | refine blk_drewN ?_ _ | refine blk_drew ?_ | refine blk_alloc ?_ _)); exact BK132.out)⟩; have n2_ : Aside0 (Below w.heap.size w wc) := ⟨by rw [← hq_]; exact (by repeat (first | (with_reducible first | exact HB.out | apply below_alloc | apply pw_below_drewN | apply below_drew1 | refine below_set ?_ GE131.out | refine below_set ?_ GE132.out) | exact HB.out))⟩; clear BK131 BK132 HB hq_; have BK131 := n0_; have BK132 := n1_; have HB := n2_; clear n0_ n1_ n2_)); have p64 : 0 ≤ (t136 : Int) := of_decide_eq_true (by first | (with_reducible assumption) | assumption); have q64 : t136 < (a0.size : Int) := of_decide_eq_true (by first | (with_reducible assumption) | assumption); have hx64 := bt_at a0 t136; replace p64 := eq_true p64; replace q64 := eq_true q64; have hnb74 := NB132_131.out; have hnc74 := NB131_132.out; have hcz75_0 : wc.cell? ⟨gb132, 0, none⟩ = some (.int .i64 t135) := (blk_cell BK132.out 0).trans rfl; have hcz75_1 : wc.cell? ⟨gb132, 1, none⟩ = some (.string (a0.extract ((ji40) : Int).toNat ((wrap64 ((ji40) + 3)) : Int).toNat)) := (blk_cell BK132.out 1).trans rfl; have hcz75_2 : wc.cell? ⟨gb132, 2, none⟩ = some (.int .i64 0) := (blk_cell BK132.out 2).trans rfl; have hfz75_0 := blk_frozen BK132.out 0; have hfz75_1 := blk_frozen BK132.out 1; have hfz75_2 := blk_frozen BK132.out 2; have hcz76_0 : wc.cell? ⟨gb131, 0, none⟩ = some (.int .i64 x132000_2) := (blk_cell BK131.out 0).trans rfl; have hcz76_1 : wc.cell? ⟨gb131, 1, none⟩ = some (.string x132001_2) := (blk_cell BK131.out 1).trans rfl; have hcz76_2 : wc.cell? ⟨gb131, 2, none⟩ = some (.int .i64 x132002_2) := (blk_cell BK131.out 2).trans rfl; have hfz76_0 := blk_frozen BK131.out 0; have hfz76_1 := blk_frozen BK131.out 1; have hfz76_2 := blk_frozen BK131.out 2))
                     refine bodyPost_ret (results_ctt rfl _ _ gb131 32 #[.int .i64 t135, .string (a0.extract ((ji40) : Int).toNat ((wrap64 ((ji40) + 3)) : Int).toNat), .int .i64 0] (0, 0) _ rfl (by (with_reducible repeat (first | refine blk_drewN ?_ _ | refine blk_drew ?_ | refine blk_alloc ?_ _)); refine blk_put (cs := #[.int .i64 t135, .string (a0.extract ((ji40) : Int).toNat ((wrap64 ((ji40) + 3)) : Int).toNat), .int .i64 x132002_2]) ?_ 2 _ rfl; (with_reducible repeat (first | refine blk_drewN ?_ _ | refine blk_drew ?_ | refine blk_alloc ?_ _)); refine blk_put (cs := #[.int .i64 t135, .string x132001_2, .int .i64 x132002_2]) ?_ 1 _ rfl; (with_reducible repeat (first | refine blk_drewN ?_ _ | refine blk_drew ?_ | refine blk_alloc ?_ _)); refine blk_put (cs := #[.int .i64 x132000_2, .string x132001_2, .int .i64 x132002_2]) ?_ 0 _ rfl; (with_reducible repeat (first | refine blk_drewN ?_ _ | refine blk_drew ?_ | refine blk_alloc ?_ _)); exact BK131.out) Try.underlying32 rfl (by kernel_rfl)) rfl ?_
                     exact ⟨by first | rfl | (simp [errW_none, errW_some] <;> rfl) | (simp only [← hji40]; first | rfl | (simp [errW_none, errW_some] <;> rfl)) | (simp [*, errW_none, errW_some] <;> rfl), by repeat (first | (with_reducible first | exact HB.out | apply below_alloc | apply pw_below_drewN | apply below_drew1 | refine below_set ?_ GE131.out | refine below_set ?_ GE132.out) | exact HB.out)⟩
                   ·rw [if_neg c63] at H
                    exact absurd H (by simp)
                  ·rw [if_neg c62] at H
                   exact absurd H (by simp)
                ·replace c57 := Bool.eq_false_iff.mpr c57
                 subst c57
                 have H1 : (some (t135, (a0.extract ((ji40) : Int).toNat ((wrap64 ((ji40) + 3)) : Int).toNat), 0, t136, false)) = some (r1, r2, r3, r4, r5) := by rw [if_neg (show ¬ (false = true) by decide)] at H; exact H
                 clear H
                 have H := H1
                 clear H1
                 simp only [Option.some.injEq, Prod.mk.injEq] at H
                 obtain ⟨rfl, rfl, rfl, rfl, rfl⟩ := H
                 go_wp2_with (first | ((with_reducible refine gate_callee (f := 57) rfl ?_); refine goesL_ (some 98) rfl rfl Try.func57 (by kernel_rfl) rfl #[.string a0, .int .i64 (wrap64 ((ji40) + 4)), .int .u64 9223372036854775807, .bool true] rfl (by (try simp only [List.map_toArray, List.map_cons, List.map_nil]); first | done | (simp only [hji40]; rfl) | rfl | (simp only [List.length_drop, List.length_take]; rfl)) ?_; (with_reducible refine (payoffref03_number.calls kj43 a0 (wrap64 ((ji40) + 4)) 9223372036854775807 true t136 false _ A56.out).mono ?_); rintro e w' ⟨rfl, ⟨nd, rfl⟩⟩; refine ⟨_, rfl, ?_⟩; (try (rw [drewN_self wc]; generalize hq_ : World.drewN wc _ = wc; have n0_ : Aside0 (wc.heap[gb131]? = some (.cells #[.int .i64 x132000_2, .string x132001_2, .int .i64 x132002_2] 32 (0, 0))) := ⟨by rw [← hq_]; exact (by (with_reducible repeat (first | refine blk_drewN ?_ _ | refine blk_drew ?_ | refine blk_alloc ?_ _)); exact BK131.out)⟩; have n1_ : Aside0 (wc.heap[gb132]? = some (.cells #[.int .i64 t135, .string (a0.extract ((ji40) : Int).toNat ((wrap64 ((ji40) + 3)) : Int).toNat), .int .i64 0] 32 (0, 0))) := ⟨by rw [← hq_]; exact (by (with_reducible repeat (first | refine blk_drewN ?_ _ | refine blk_drew ?_ | refine blk_alloc ?_ _)); exact BK132.out)⟩; have n2_ : Aside0 (Below w.heap.size w wc) := ⟨by rw [← hq_]; exact (by repeat (first | (with_reducible first | exact HB.out | apply below_alloc | apply pw_below_drewN | apply below_drew1 | refine below_set ?_ GE131.out | refine below_set ?_ GE132.out) | exact HB.out))⟩; clear BK131 BK132 HB hq_; have BK131 := n0_; have BK132 := n1_; have HB := n2_; clear n0_ n1_ n2_)); have hnb77 := NB132_131.out; have hnc77 := NB131_132.out; have hcz78_0 : wc.cell? ⟨gb132, 0, none⟩ = some (.int .i64 t135) := (blk_cell BK132.out 0).trans rfl; have hcz78_1 : wc.cell? ⟨gb132, 1, none⟩ = some (.string (a0.extract ((ji40) : Int).toNat ((wrap64 ((ji40) + 3)) : Int).toNat)) := (blk_cell BK132.out 1).trans rfl; have hcz78_2 : wc.cell? ⟨gb132, 2, none⟩ = some (.int .i64 0) := (blk_cell BK132.out 2).trans rfl; have hfz78_0 := blk_frozen BK132.out 0; have hfz78_1 := blk_frozen BK132.out 1; have hfz78_2 := blk_frozen BK132.out 2; have hcz79_0 : wc.cell? ⟨gb131, 0, none⟩ = some (.int .i64 x132000_2) := (blk_cell BK131.out 0).trans rfl; have hcz79_1 : wc.cell? ⟨gb131, 1, none⟩ = some (.string x132001_2) := (blk_cell BK131.out 1).trans rfl; have hcz79_2 : wc.cell? ⟨gb131, 2, none⟩ = some (.int .i64 x132002_2) := (blk_cell BK131.out 2).trans rfl; have hfz79_0 := blk_frozen BK131.out 0; have hfz79_1 := blk_frozen BK131.out 1; have hfz79_2 := blk_frozen BK131.out 2))
                 refine bodyPost_ret (results_ctt rfl _ _ gb131 32 #[.int .i64 t135, .string (a0.extract ((ji40) : Int).toNat ((wrap64 ((ji40) + 3)) : Int).toNat), .int .i64 0] (0, 0) _ rfl (by (with_reducible repeat (first | refine blk_drewN ?_ _ | refine blk_drew ?_ | refine blk_alloc ?_ _)); refine blk_put (cs := #[.int .i64 t135, .string (a0.extract ((ji40) : Int).toNat ((wrap64 ((ji40) + 3)) : Int).toNat), .int .i64 x132002_2]) ?_ 2 _ rfl; (with_reducible repeat (first | refine blk_drewN ?_ _ | refine blk_drew ?_ | refine blk_alloc ?_ _)); refine blk_put (cs := #[.int .i64 t135, .string x132001_2, .int .i64 x132002_2]) ?_ 1 _ rfl; (with_reducible repeat (first | refine blk_drewN ?_ _ | refine blk_drew ?_ | refine blk_alloc ?_ _)); refine blk_put (cs := #[.int .i64 x132000_2, .string x132001_2, .int .i64 x132002_2]) ?_ 0 _ rfl; (with_reducible repeat (first | refine blk_drewN ?_ _ | refine blk_drew ?_ | refine blk_alloc ?_ _)); exact BK131.out) Try.underlying32 rfl (by kernel_rfl)) rfl ?_
                 exact ⟨by first | rfl | (simp [errW_none, errW_some] <;> rfl) | (simp only [← hji40]; first | rfl | (simp [errW_none, errW_some] <;> rfl)) | (simp [*, errW_none, errW_some] <;> rfl), by repeat (first | (with_reducible first | exact HB.out | apply below_alloc | apply pw_below_drewN | apply below_drew1 | refine below_set ?_ GE131.out | refine below_set ?_ GE132.out) | exact HB.out)⟩
            ·rw [if_neg c43] at H
             exact absurd H (by simp)
           ·rw [if_neg c42] at H
            exact absurd H (by simp)
          ·rw [if_neg c41] at H
           exact absurd H (by simp)
      ·rw [if_neg c18] at H
       exact absurd H (by simp)
     ·rw [if_neg c17] at H
      exact absurd H (by simp)
    ·rw [if_neg c16] at H
     exact absurd H (by simp)
def payoffref03_Parse.l0 : Nat → ByteArray → List (S32) → Int → Option ((List (S32)) × Int × Int)
 | 0, _, _, _ => none
 | k + 1, x0, x5, x6 => if x6 < (x0.size : Int) then ((payoffref03_line.f k x0 x6).bind fun bt131 => (if bt131.2.2.2.2 = true then (if x5.length < 4398046511104 then (payoffref03_Parse.l0 k x0 (x5 ++ [(⟨bt131.1, bt131.2.1, bt131.2.2.1⟩ : S32)]) bt131.2.2.2.1) else (none)) else (some (([] : List (S32)), bt131.2.2.2.1, 31)))) else (some (x5, 0, 0))
def payoffref03_Parse.f (k : Nat) (a0 : ByteArray) : Option ((List (S32)) × Int × Int) := if (a0.size : Int) > 1048576 then (some (([] : List (S32)), 0, 6)) else (payoffref03_Parse.l0 k a0 ([] : List (S32)) 0)
theorem payoffref03_Parse.mono_l : ∀ k, (∀ y0 y1 y2, LeO (payoffref03_Parse.l0 k y0 y1 y2) (payoffref03_Parse.l0 (k + 1) y0 y1 y2))
 | 0 => fun _ _ _ r h => by simp [payoffref03_Parse.l0] at h
 | k + 1 => by
  have ih0 := payoffref03_Parse.mono_l k
  ·intro y0 y1 y2
   unfold payoffref03_Parse.l0
   repeat' first
   | (with_reducible exact ih0 _ _ _)
   | (with_reducible exact payoffref03_line.mono _ _ _)
   | (with_reducible exact LeO.refl _)
   | (with_reducible exact LeO.none _)
   | (with_reducible refine LeO.ite ?_ ?_)
   | (with_reducible refine LeO.bind ?_ (fun _ => ?_))
   | exact ih0 _ _ _
   | exact payoffref03_line.mono _ _ _
   | exact LeO.none _
   | refine LeO.ite ?_ ?_
   | refine LeO.bind ?_ (fun _ => ?_)
theorem payoffref03_Parse.mono : ∀ a0 k, LeO (payoffref03_Parse.f k a0) (payoffref03_Parse.f (k + 1) a0) := by
 intro a0 k
 have ih0 := payoffref03_Parse.mono_l k
 unfold payoffref03_Parse.f
 repeat' first
  | (with_reducible exact ih0 _ _ _)
  | (with_reducible exact payoffref03_line.mono _ _ _)
  | (with_reducible exact LeO.refl _)
  | (with_reducible exact LeO.none _)
  | (with_reducible refine LeO.ite ?_ ?_)
  | (with_reducible refine LeO.bind ?_ (fun _ => ?_))
  | exact ih0 _ _ _
  | exact payoffref03_line.mono _ _ _
  | exact LeO.none _
  | refine LeO.ite ?_ ?_
  | refine LeO.bind ?_ (fun _ => ?_)
set_option maxHeartbeats 8000000 in
set_option maxRecDepth 100000 in
theorem payoffref03_Parse.calls (k : Nat) (a0 : ByteArray) (r1 : List (S32)) (r2 : Int) (r3 : Int) (w : World) (h : payoffref03_Parse.f k a0 = some (r1, r2, r3)) :
  Calls Try.prog 21 #[.string a0] w fun e w' => ∃ v0_ : Value, e = .returned (.tuple #[v0_, .int .i64 r2, .int .i64 r3]) ∧ Kd.R k32 32 w' w.heap.size (fun _ => True) v0_ r1 ∧ Below w.heap.size w w' := by
 have hu32 := Try.underlying32
 have HB := ak (Below.refl w.heap.size w)
 have H : (if (a0.size : Int) > 1048576 then (some (([] : List (S32)), 0, 6)) else (payoffref03_Parse.l0 k a0 ([] : List (S32)) 0)) = some (r1, r2, r3) := h
 clear h
 by_cases c2 : (a0.size : Int) > 1048576
 ·rw [if_pos c2] at H
  have c2b0 := decide_eq_true c2
  have c2b1 : decide (1048576 < a0.size) = true := decide_eq_true (by omega)
  clear c2
  simp only [Option.some.injEq, Prod.mk.injEq] at H
  obtain ⟨rfl, rfl, rfl⟩ := H
  go_enter Try.func21, Try.ntmps21
  go_wp2
  go_ret3
  exact ⟨_, by first | rfl | (simp [errW_none, errW_some] <;> rfl) | (simp [*, errW_none, errW_some] <;> rfl), by first | exact Kd.R_nil _ _ _ _ _ | exact Kd.N_nil _ _ _ _ _ | exact Kd.V_nil _ _ _ _ _ | exact Kd.Q_nil _ _ _ _ _ | exact Kd.S_nil _ _ _ _ _, by repeat (first | (with_reducible first | exact HB.out | apply below_alloc | apply pw_below_drewN | apply below_drew1) | exact HB.out)⟩
 ·rw [if_neg c2] at H
  have c2b0 := decide_eq_false c2
  have c2b1 : decide (1048576 < a0.size) = false := decide_eq_false (by omega)
  clear c2
  have H' := ak H
  clear H
  go_enter Try.func21, Try.ntmps21
  go_wp2
  go_loopg [5, 6] k (fun kq v5 v6 w' => ∃ (x5_1 : List (S32)) (x6_1 : Int), v6 = .int .i64 x6_1 ∧ Aside0 (payoffref03_Parse.l0 kq a0 x5_1 x6_1 = some (r1, r2, r3)) ∧ Aside0 (kq ≤ k) ∧ Aside0 (Kd.R k32 32 w' w.heap.size (fun _ => True) v5 x5_1) ∧ Aside0 (Below w.heap.size w w'))
  case atStart => exact ⟨(([] : List (S32))), (0), (by first | rfl | (simp; done) | (simp [*]; done)), H', ⟨Nat.le_refl _⟩, ⟨by first | exact Kd.R_nil _ _ _ _ _ | exact Kd.N_nil _ _ _ _ _ | exact Kd.V_nil _ _ _ _ _ | exact Kd.Q_nil _ _ _ _ _ | exact Kd.S_nil _ _ _ _ _⟩, ⟨by repeat (first | (with_reducible first | exact HB.out | apply below_alloc | apply pw_below_drewN | apply below_drew1) | exact HB.out)⟩⟩
  case round =>
   clear H'
   try clear c2
   try clear c2b0
   try clear c2b1
   try clear p2
   obtain ⟨x5_1, x6_1, rfl, HA, HK1, HO_5, HB⟩ := hrel
   cases gk with
   | zero => exact absurd HA.out (by simp [payoffref03_Parse.l0])
   | succ k1 =>
    have H := HA.out
    clear HA
    simp only [payoffref03_Parse.l0] at H
    by_cases c3 : x6_1 < (a0.size : Int)
    ·rw [if_pos c3] at H
     have c3b0 := decide_eq_true c3
     clear c3
     replace H := Option.bind_eq_some_iff.mp H
     obtain ⟨⟨t131, t132, t133, t134, t135⟩, A40, H⟩ := H
     replace H : (if t135 = true then (if x5_1.length < 4398046511104 then (payoffref03_Parse.l0 k1 a0 (x5_1 ++ [(⟨t131, t132, t133⟩ : S32)]) t134) else (none)) else (some (([] : List (S32)), t134, 31))) = some (r1, r2, r3) := H
     have A4 := ak A40
     clear A40
     by_cases c5 : t135 = true
     ·subst c5
      have H1 : (if x5_1.length < 4398046511104 then (payoffref03_Parse.l0 k1 a0 (x5_1 ++ [(⟨t131, t132, t133⟩ : S32)]) t134) else (none)) = some (r1, r2, r3) := by rw [if_pos rfl] at H; exact H
      clear H
      have H := H1
      clear H1
      by_cases c6 : x5_1.length < 4398046511104
      ·rw [if_pos c6] at H
       have LMc6 := ak c6
       clear c6
       obtain ⟨y137, hy137⟩ : ∃ y_ : List (S32), y_ = (x5_1 ++ [(⟨t131, t132, t133⟩ : S32)]) := ⟨_, rfl⟩
       replace H : (payoffref03_Parse.l0 k1 a0 y137 t134) = some (r1, r2, r3) := by first | (rw [hy137]; with_reducible exact H) | (have H2_ := (Option.bind_some _ _).symm.trans H; rw [hy137]; with_reducible exact H2_) | (have H2_ := (Option.bind_some _ _).symm.trans H; with_reducible exact H2_) | with_reducible exact H | (rw [hy137]; exact H) | exact H
       have Ny137 := ak hy137
       clear hy137
       have H' := ak H
       clear H
       go_wp2_with (first | ((with_reducible refine gate_callee (f := 39) rfl ?_); refine goesL_ (some 20) rfl rfl Try.func39 (by kernel_rfl) rfl #[.string a0, .int .i64 x6_1] rfl (by (try simp only [List.map_toArray, List.map_cons, List.map_nil]); first | done | rfl | (simp only [List.length_drop, List.length_take]; rfl)) ?_; (with_reducible refine (payoffref03_line.calls k1 a0 x6_1 t131 t132 t133 t134 true _ A4.out).mono ?_); rintro e w7 ⟨rfl, hb⟩; refine ⟨_, rfl, ?_⟩; have n0_ := ak (Kd.R_below (by (with_reducible repeat (first | apply Kd.R_alloc | apply Kd.R_drewN | apply Kd.R_drew)); exact HO_5.out) hb); have n1_ := ak (below_step (by repeat (first | (with_reducible first | exact HB.out | apply below_alloc | apply pw_below_drewN | apply below_drew1) | exact HB.out)) hb); clear HO_5; clear HB; have HO_5 := n0_; have HB := n1_; clear n0_ n1_; (try clear hb); (try clear hb2); (try clear hk); (try clear hi)) | ((with_reducible refine gate_dst (N := 7) rfl ?_); refine box_event ?hg (N := 7) ?hd (cs := #[.int .i64 0, .string (⟨#[]⟩ : ByteArray), .int .i64 0]) (t := 32) ?hr ?_; (case hd => rfl); (case hg => rfl); (case hr => first | (go_simp; done) | (go_simp; rfl)); intro gb136 hg w8 hbox hb; have n0_ := ak (Kd.R_below (Kd.R_elderB (by (with_reducible repeat (first | apply Kd.R_alloc | apply Kd.R_drewN | apply Kd.R_drew)); exact HO_5.out) gb136 (Nat.le_of_eq hg.symm)) hb); have n1_ := ak (below_step (by repeat (first | (with_reducible first | exact HB.out | apply below_alloc | apply pw_below_drewN | apply below_drew1) | exact HB.out)) hb); have n2_ := ak (hbox); have n3_ := ak ((by rw [hg]; exact (below_size (by repeat (first | (with_reducible first | exact HB.out | apply below_alloc | apply pw_below_drewN | apply below_drew1) | exact HB.out))) : w.heap.size ≤ gb136)); have n4_ := ak ((by rw [hg]; exact (below_size (by repeat (first | (with_reducible first | exact HB.out | apply below_alloc | apply pw_below_drewN | apply below_drew1) | exact HB.out))) : w.heap.size ≤ gb136)); clear HO_5; clear HB; have HO_5 := n0_; have HB := n1_; have BK136 := n2_; have GW136 := n3_; have GE136 := n4_; clear n0_ n1_ n2_ n3_ n4_; clear hb hbox hg; have hcz9_0 : w8.cell? ⟨gb136, 0, none⟩ = some (.int .i64 0) := (blk_cell BK136.out 0).trans rfl; have hcz9_1 : w8.cell? ⟨gb136, 1, none⟩ = some (.string (⟨#[]⟩ : ByteArray)) := (blk_cell BK136.out 1).trans rfl; have hcz9_2 : w8.cell? ⟨gb136, 2, none⟩ = some (.int .i64 0) := (blk_cell BK136.out 2).trans rfl; have hfz9_0 := blk_frozen BK136.out 0; have hfz9_1 := blk_frozen BK136.out 1; have hfz9_2 := blk_frozen BK136.out 2) | ((with_reducible refine gate_builtin (b := .append) (xs := #[.tmp 27, .tmp 29]) rfl ?_); at_builtin; refine Kd.R_append k32 (w0 := w) w.heap.size rfl (.tmp 27) (.tmp 29) 22 32 (.agg #[(.int .i64 0), (.string ⟨#[]⟩), (.int .i64 0)]) 32 rfl Try.underlying22 info32 rfl (by decide) (by omega) u5 x5_1 (⟨t131, t132, t133⟩ : S32) [.int .i64 t131, .string t132, .int .i64 t133] (fun k_ => k_ ≠ gb136) (fun _ => False) rfl (by first | (go_simp; done) | (go_simp; rfl)) ?aP (fun _ hk => hk.elim) ?aF ?aO ?aB ?aS ?aL ?_; (case aP => exact k32_mkM _ _ _ (⟨t131, t132, t133⟩ : S32)); (case aB => exact (by repeat (first | (with_reducible first | exact HB.out | apply below_alloc | apply pw_below_drewN | apply below_drew1 | refine below_set ?_ GE136.out) | exact HB.out))); (case aF => exact (fun k_ hk => Kd.freshB (g := gb136) (o := .cells #[.int .i64 t131, .string t132, .int .i64 t133] 32 (0, 0)) (by (with_reducible repeat (first | refine blk_drewN ?_ _ | refine blk_drew ?_ | refine blk_alloc ?_ _)); refine blk_put (cs := #[.int .i64 t131, .string t132, .int .i64 0]) ?_ 2 _ rfl; (with_reducible repeat (first | refine blk_drewN ?_ _ | refine blk_drew ?_ | refine blk_alloc ?_ _)); refine blk_put (cs := #[.int .i64 t131, .string (⟨#[]⟩ : ByteArray), .int .i64 0]) ?_ 1 _ rfl; (with_reducible repeat (first | refine blk_drewN ?_ _ | refine blk_drew ?_ | refine blk_alloc ?_ _)); refine blk_put (cs := #[.int .i64 0, .string (⟨#[]⟩ : ByteArray), .int .i64 0]) ?_ 0 _ rfl; (with_reducible repeat (first | refine blk_drewN ?_ _ | refine blk_drew ?_ | refine blk_alloc ?_ _)); exact BK136.out) k_ hk)); (case aO => exact (by (with_reducible repeat (first | apply Kd.R_alloc | apply Kd.R_drewN | apply Kd.R_drew)); exact Kd.R_mono (Kd.R_far (p := ⟨gb136, 2, none⟩) (Kd.R_far (p := ⟨gb136, 1, none⟩) (Kd.R_far (p := ⟨gb136, 0, none⟩) (Kd.R_mono HO_5.out (fun k_ hk => (⟨hk, hk.2⟩ : _ ∧ k_ ≠ gb136))) (fun _ hk => hk.2) (.int .i64 t131)) (fun _ hk => hk.2) (.string t132)) (fun _ hk => hk.2) (.int .i64 t133)) (fun _ hk => hk.1.2))); (case aS => exact (below_size (by repeat (first | (with_reducible first | exact HB.out | apply below_alloc | apply pw_below_drewN | apply below_drew1 | refine below_set ?_ GE136.out) | exact HB.out)))); (case aL => have := LMc6.out; omega); intro v138 w10 ho hb hg hat; rw [← Ny137.out] at ho; have n0_ := ak (blk_grown (g := gb136) (o := .cells #[.int .i64 t131, .string t132, .int .i64 t133] 32 (0, 0)) (by (with_reducible repeat (first | refine blk_drewN ?_ _ | refine blk_drew ?_ | refine blk_alloc ?_ _)); refine blk_put (cs := #[.int .i64 t131, .string t132, .int .i64 0]) ?_ 2 _ rfl; (with_reducible repeat (first | refine blk_drewN ?_ _ | refine blk_drew ?_ | refine blk_alloc ?_ _)); refine blk_put (cs := #[.int .i64 t131, .string (⟨#[]⟩ : ByteArray), .int .i64 0]) ?_ 1 _ rfl; (with_reducible repeat (first | refine blk_drewN ?_ _ | refine blk_drew ?_ | refine blk_alloc ?_ _)); refine blk_put (cs := #[.int .i64 0, .string (⟨#[]⟩ : ByteArray), .int .i64 0]) ?_ 0 _ rfl; (with_reducible repeat (first | refine blk_drewN ?_ _ | refine blk_drew ?_ | refine blk_alloc ?_ _)); exact BK136.out) hg (Kd.R_away HO_5.out (fun _ hk => hk.2))); have n1_ := ak (hb); have n2_ := ak (ho); clear BK136; clear HB; clear HO_5; have BK136 := n0_; have HB := n1_; have HO139 := n2_; clear n0_ n1_ n2_; clear ho hb hg hat))
       go_roundg k1
       case measure => have := HK1.out; omega
       case rel => exact ⟨(y137), (t134), (by first | rfl | (simp; done) | (simp [*]; done)), H', ⟨by have := HK1.out; omega⟩, ⟨by (with_reducible repeat (first | apply Kd.R_alloc | apply Kd.R_drewN | apply Kd.R_drew)); exact Kd.R_mono HO139.out (fun _ hk => trivial)⟩, ⟨by repeat (first | (with_reducible first | exact HB.out | apply below_alloc | apply pw_below_drewN | apply below_drew1 | refine below_set ?_ GE136.out) | exact HB.out)⟩⟩
      ·rw [if_neg c6] at H
       exact absurd H (by simp)
     ·replace c5 := Bool.eq_false_iff.mpr c5
      subst c5
      have H1 : (some (([] : List (S32)), t134, 31)) = some (r1, r2, r3) := by rw [if_neg (show ¬ (false = true) by decide)] at H; exact H
      clear H
      have H := H1
      clear H1
      simp only [Option.some.injEq, Prod.mk.injEq] at H
      obtain ⟨rfl, rfl, rfl⟩ := H
      go_wp2_with (first | ((with_reducible refine gate_callee (f := 39) rfl ?_); refine goesL_ (some 20) rfl rfl Try.func39 (by kernel_rfl) rfl #[.string a0, .int .i64 x6_1] rfl (by (try simp only [List.map_toArray, List.map_cons, List.map_nil]); first | done | rfl | (simp only [List.length_drop, List.length_take]; rfl)) ?_; (with_reducible refine (payoffref03_line.calls k1 a0 x6_1 t131 t132 t133 t134 false _ A4.out).mono ?_); rintro e w11 ⟨rfl, hb⟩; refine ⟨_, rfl, ?_⟩; have n0_ := ak (Kd.R_below (by (with_reducible repeat (first | apply Kd.R_alloc | apply Kd.R_drewN | apply Kd.R_drew)); exact HO_5.out) hb); have n1_ := ak (below_step (by repeat (first | (with_reducible first | exact HB.out | apply below_alloc | apply pw_below_drewN | apply below_drew1) | exact HB.out)) hb); clear HO_5; clear HB; have HO_5 := n0_; have HB := n1_; clear n0_ n1_; (try clear hb); (try clear hb2); (try clear hk); (try clear hi)) | ((with_reducible refine gate_dst (N := 7) rfl ?_); refine box_event ?hg (N := 7) ?hd (cs := #[.int .i64 0, .string (⟨#[]⟩ : ByteArray), .int .i64 0]) (t := 32) ?hr ?_; (case hd => rfl); (case hg => rfl); (case hr => first | (go_simp; done) | (go_simp; rfl)); intro gb136 hg w12 hbox hb; have n0_ := ak (Kd.R_below (Kd.R_elderB (by (with_reducible repeat (first | apply Kd.R_alloc | apply Kd.R_drewN | apply Kd.R_drew)); exact HO_5.out) gb136 (Nat.le_of_eq hg.symm)) hb); have n1_ := ak (below_step (by repeat (first | (with_reducible first | exact HB.out | apply below_alloc | apply pw_below_drewN | apply below_drew1) | exact HB.out)) hb); have n2_ := ak (hbox); have n3_ := ak ((by rw [hg]; exact (below_size (by repeat (first | (with_reducible first | exact HB.out | apply below_alloc | apply pw_below_drewN | apply below_drew1) | exact HB.out))) : w.heap.size ≤ gb136)); have n4_ := ak ((by rw [hg]; exact (below_size (by repeat (first | (with_reducible first | exact HB.out | apply below_alloc | apply pw_below_drewN | apply below_drew1) | exact HB.out))) : w.heap.size ≤ gb136)); clear HO_5; clear HB; have HO_5 := n0_; have HB := n1_; have BK136 := n2_; have GW136 := n3_; have GE136 := n4_; clear n0_ n1_ n2_ n3_ n4_; clear hb hbox hg; have hcz13_0 : w12.cell? ⟨gb136, 0, none⟩ = some (.int .i64 0) := (blk_cell BK136.out 0).trans rfl; have hcz13_1 : w12.cell? ⟨gb136, 1, none⟩ = some (.string (⟨#[]⟩ : ByteArray)) := (blk_cell BK136.out 1).trans rfl; have hcz13_2 : w12.cell? ⟨gb136, 2, none⟩ = some (.int .i64 0) := (blk_cell BK136.out 2).trans rfl; have hfz13_0 := blk_frozen BK136.out 0; have hfz13_1 := blk_frozen BK136.out 1; have hfz13_2 := blk_frozen BK136.out 2))
      go_ret3
      exact ⟨_, by first | rfl | (simp [errW_none, errW_some] <;> rfl) | (simp [*, errW_none, errW_some] <;> rfl), by first | exact Kd.R_nil _ _ _ _ _ | exact Kd.N_nil _ _ _ _ _ | exact Kd.V_nil _ _ _ _ _ | exact Kd.Q_nil _ _ _ _ _ | exact Kd.S_nil _ _ _ _ _, by repeat (first | (with_reducible first | exact HB.out | apply below_alloc | apply pw_below_drewN | apply below_drew1 | refine below_set ?_ GE136.out) | exact HB.out)⟩
    ·rw [if_neg c3] at H
     have c3b0 := decide_eq_false c3
     clear c3
     simp only [Option.some.injEq, Prod.mk.injEq] at H
     obtain ⟨rfl, rfl, rfl⟩ := H
     go_wp2
     go_ret3
     exact ⟨_, by first | rfl | (simp [errW_none, errW_some] <;> rfl) | (simp [*, errW_none, errW_some] <;> rfl), by (with_reducible repeat (first | apply Kd.R_alloc | apply Kd.R_drewN | apply Kd.R_drew)); exact HO_5.out, by repeat (first | (with_reducible first | exact HB.out | apply below_alloc | apply pw_below_drewN | apply below_drew1) | exact HB.out)⟩
end Go.Proofs.Ytdfndbegifdejaa.GParses
end
section
namespace Go.Proofs.Ytdfndbegifdejaa.GParses
set_option linter.unusedVariables false
set_option linter.unusedSimpArgs false
open Go.RowKit Go.Proofs.YtdfndbegifdejaaW.PrintWords Go.Proofs.YtdfndbegifdejaaW.PrintLast Go.Proofs.YtdfndbegifdejaaW.PrintMore
theorem u64_id {n : Int} (h0 : 0 ≤ n) (h1 : n < 18446744073709551616) : IntKind.u64.wrap n = n := by
  simp only [IntKind.wrap, IntKind.signed, IntKind.bits]
  simp
  omega
theorem w64_nat (n : Nat) (h : n ≤ 140737488355328) : wrap64 ((n : Int) + 1) = ((n + 1 : Nat) : Int) := by unfold wrap64; omega
theorem tdiv10 {a : Int} (h : 0 ≤ a) : Int.tdiv a 10 = a / 10 := Int.tdiv_eq_ediv_of_nonneg h
def by_ (s : ByteArray) (p : Nat) : Int := bt s (p : Int)
theorem by_range (s : ByteArray) (p : Nat) : 0 ≤ by_ s p ∧ by_ s p ≤ 255 := bt_range s _
def vv (s : ByteArray) (a : Nat) : Nat → Int
  | 0 => 0
  | j + 1 => 10 * vv s a j + (by_ s (a + j) - 48)
def Step (s : ByteArray) (L : Int) (a j : Nat) : Prop := a + j < s.size ∧ 48 ≤ by_ s (a + j) ∧ by_ s (a + j) ≤ 57 ∧ ¬ (0 < j ∧ vv s a j = 0) ∧ vv s a j ≤ (L - (by_ s (a + j) - 48)) / 10
instance (s : ByteArray) (L : Int) (a j : Nat) : Decidable (Step s L a j) := by unfold Step; infer_instance
def Good (s : ByteArray) (L : Int) (a m : Nat) : Prop := ∀ j, j < m → Step s L a j
theorem Good.le {s : ByteArray} {L : Int} {a m j : Nat} (h : Good s L a m) (hj : j ≤ m) : Good s L a j := fun i hi => h i (by omega)
theorem vv_range {s : ByteArray} {L : Int} {a m : Nat} (hL : 9 ≤ L) (h : Good s L a m) : 0 ≤ vv s a m ∧ vv s a m ≤ L := by
  induction m with
  | zero => simp only [vv]; omega
  | succ m ih =>
    obtain ⟨h0, h1⟩ := ih (h.le (by omega))
    obtain ⟨_, hb0, hb1, _, hv⟩ := h m (by omega)
    simp only [vv]
    omega
theorem vv_pos {s : ByteArray} {L : Int} {a m : Nat} (hL : 9 ≤ L) (h : Good s L a m) (hm : 0 < m) : vv s a m = 0 ↔ by_ s a = 48 ∧ m = 1 := by
  match m, hm with
  | 1, _ => simp only [vv, Nat.add_zero]; exact ⟨fun h => ⟨by omega, trivial⟩, fun h => by have := h.1; omega⟩
  | m + 2, _ =>
    obtain ⟨_, hb0, _, hz, _⟩ := h (m + 1) (by omega)
    have hv := (vv_range hL (h.le (show m + 1 ≤ m + 2 by omega))).1
    have hne : vv s a (m + 1) ≠ 0 := fun e => hz ⟨by omega, e⟩
    rw [show vv s a (m + 2) = 10 * vv s a (m + 1) + (by_ s (a + (m + 1)) - 48) from rfl]
    constructor
    · intro h; omega
    · intro h; omega
theorem stop_exists (s : ByteArray) (L : Int) (a : Nat) (ha : a ≤ s.size) : ∃ m, Good s L a m ∧ ¬ Step s L a m ∧ a + m ≤ s.size := by
  have key : ∀ d m, a + m + d = s.size → Good s L a m → ∃ m, Good s L a m ∧ ¬ Step s L a m ∧ a + m ≤ s.size := by
    intro d
    induction d with
    | zero => intro m hm hg; exact ⟨m, hg, fun h => by have := h.1; omega, by omega⟩
    | succ d ih =>
      intro m hm hg
      by_cases hs : Step s L a m
      · refine ih (m + 1) (by omega) (fun j hj => ?_)
        rcases Nat.lt_or_ge j m with h | h
        · exact hg j h
        · have : j = m := by omega
          rw [this]; exact hs
      · exact ⟨m, hg, hs, by omega⟩
  exact key (s.size - a) 0 (by omega) (fun j hj => by omega)
theorem next_in (s : ByteArray) (p : Nat) (h : p < s.size) : flow_reader_next.f s (p : Int) = some (by_ s p, true, s, (p : Int)) := by
  unfold flow_reader_next.f
  rw [if_neg (by omega), if_pos (by omega), if_pos (by omega)]
  rfl
theorem next_end (s : ByteArray) : flow_reader_next.f s (s.size : Int) = some (0, false, s, (s.size : Int)) := by
  unfold flow_reader_next.f
  rw [if_pos rfl]
def numAns (s : ByteArray) (a m : Nat) : Int × Bool × ByteArray × Int :=
  if a + m < s.size ∧ 48 ≤ by_ s (a + m) ∧ by_ s (a + m) ≤ 57 then (0, false, s, ((a + m : Nat) : Int)) else (vv s a m, decide (0 < m), s, ((a + m : Nat) : Int))
theorem number_l0 (s : ByteArray) (L : Int) (hL : 9 ≤ L) (hL2 : L ≤ 9223372036854775808) (hsz : s.size ≤ 1048576) (a m : Nat) (hg : Good s L a m) (hs : ¬ Step s L a m) (ham : a + m ≤ s.size) :
    ∀ (d j k : Nat), j + d = m → 2 * d + 1 < k → flow_reader_number.l0 k L (vv s a j) (j : Int) s ((a + j : Nat) : Int) = some (numAns s a m) := by
  intro d
  induction d with
  | zero =>
    intro j k hj hk
    obtain rfl : j = m := by omega
    obtain ⟨k, rfl⟩ : ∃ q, k = q + 2 := ⟨k - 2, by omega⟩
    have hv := vv_range hL hg
    have hj63 : ((j : Int) > 0) = (0 < j) := by apply propext; omega
    simp only [flow_reader_number.l0]
    by_cases hin : a + j < s.size
    · rw [next_in s (a + j) hin]
      simp only [Option.bind_some, if_true]
      have hb := by_range s (a + j)
      by_cases h48 : by_ s (a + j) < 48
      · rw [if_pos h48]
        simp only [flow_reader_number.j1, if_true, numAns]
        rw [if_neg (by omega)]
        simp
      · rw [if_neg h48]
        by_cases h57 : by_ s (a + j) > 57
        · rw [decide_eq_true h57]
          simp only [flow_reader_number.j1, if_true, numAns]
          rw [if_neg (by omega)]
          simp
        · rw [decide_eq_false h57]
          simp only [flow_reader_number.j1, Bool.false_eq_true, if_false, numAns]
          rw [if_pos (show a + j < s.size ∧ 48 ≤ by_ s (a + j) ∧ by_ s (a + j) ≤ 57 by omega)]
          have hd : (by_ s (a + j) - 48) % 256 = by_ s (a + j) - 48 := by omega
          have hw : IntKind.u64.wrap (Int.tdiv (IntKind.u64.wrap (L - (by_ s (a + j) - 48) )) 10) = (L - (by_ s (a + j) - 48)) / 10 := by
            rw [u64_id (n := L - (by_ s (a + j) - 48)) (by omega) (by omega), tdiv10 (by omega), u64_id (by omega) (by omega)]
          rw [hd, hw]
          by_cases hj0 : (j : Int) > 0
          · rw [if_pos hj0]
            by_cases hz : vv s a j = 0
            · rw [if_pos hz]
            · rw [if_neg hz, if_pos]
              rcases Int.lt_or_le ((L - (by_ s (a + j) - 48)) / 10) (vv s a j) with h | h
              · exact h
              · exact absurd ⟨hin, by omega, by omega, fun hh => hz hh.2, h⟩ hs
          · rw [if_neg hj0, if_pos]
            rcases Int.lt_or_le ((L - (by_ s (a + j) - 48)) / 10) (vv s a j) with h | h
            · exact h
            · exact absurd ⟨hin, by omega, by omega, fun hh => hj0 (by omega), h⟩ hs
    · obtain he : a + j = s.size := by omega
      rw [he, next_end]
      simp only [Option.bind_some, Bool.false_eq_true, if_false, flow_reader_number.j1, if_true, numAns]
      rw [if_neg (by omega), he]
      simp
  | succ d ih =>
    intro j k hj hk
    obtain ⟨k, rfl⟩ : ∃ q, k = q + 2 := ⟨k - 2, by omega⟩
    obtain ⟨hin, h48, h57, hz, hle⟩ := hg j (by omega)
    have hv := vv_range hL (hg.le (show j ≤ m by omega))
    simp only [flow_reader_number.l0]
    rw [next_in s (a + j) hin]
    simp only [Option.bind_some, if_true]
    rw [if_neg (by omega), decide_eq_false (show ¬ by_ s (a + j) > 57 by omega)]
    simp only [flow_reader_number.j1, Bool.false_eq_true, if_false]
    have hd : (by_ s (a + j) - 48) % 256 = by_ s (a + j) - 48 := by omega
    have hw : IntKind.u64.wrap (Int.tdiv (IntKind.u64.wrap (L - (by_ s (a + j) - 48) )) 10) = (L - (by_ s (a + j) - 48)) / 10 := by
      rw [u64_id (n := L - (by_ s (a + j) - 48)) (by omega) (by omega), tdiv10 (by omega), u64_id (by omega) (by omega)]
    have hn : IntKind.u64.wrap (IntKind.u64.wrap (10 * vv s a j) + (by_ s (a + j) - 48)) = vv s a (j + 1) := by
      rw [u64_id (n := 10 * vv s a j) (by omega) (by omega), u64_id (by omega) (by omega)]; rfl
    rw [hd, hw, hn, w64_nat j (by omega), w64_nat (a + j) (by omega)]
    have hgt : ¬ vv s a j > (L - (by_ s (a + j) - 48)) / 10 := by omega
    have hih := ih (j + 1) k (by omega) (by omega)
    by_cases hj0 : (j : Int) > 0
    · rw [if_pos hj0, if_neg (fun e => hz ⟨by omega, e⟩), if_neg hgt]; exact hih
    · rw [if_neg hj0, if_neg hgt]; exact hih
theorem ext_size (s : ByteArray) (a b : Nat) (hb : b ≤ s.size) : (s.extract a b).size = b - a := by
  rw [ByteArray.size_extract]; omega
theorem ext_byte (s : ByteArray) (a b i : Nat) (hb : b ≤ s.size) (hi : a + i < b) : bt (s.extract a b) (i : Int) = by_ s (a + i) := by
  unfold by_ bt
  have h1 : (i : Int).toNat < (s.extract a b).size := by rw [ext_size s a b hb]; omega
  have h2 : ((a + i : Nat) : Int).toNat < s.size := by omega
  rw [dif_pos h1, dif_pos h2]
  simp only [Int.toNat_natCast]
  congr 2
  exact ByteArray.getElem_extract _
theorem begins_l0 (s : ByteArray) (L : Int) (hL : 9 ≤ L) (hL2 : L ≤ 9223372036854775808) (hsz : s.size ≤ 1048576) (a m : Nat) (hg : Good s L a m) (hin : a + m < s.size) (hnz : by_ s a ≠ 48) :
    ∀ (d j k : Nat), j + d = m → 2 * d + 4 < k → payoffref03_begins.l0 k (s.extract a (a + m + 1)) L (vv s a j) (j : Int) = some (decide (Step s L a m)) := by
  have hes : ((s.extract a (a + m + 1)).size : Int) = ((m + 1 : Nat) : Int) := by rw [ext_size s a (a + m + 1) (by omega)]; omega
  have hw : ∀ j, 48 ≤ by_ s (a + j) → by_ s (a + j) ≤ 57 → IntKind.u64.wrap (Int.tdiv (IntKind.u64.wrap (L - (by_ s (a + j) - 48) % 256)) 10) = (L - (by_ s (a + j) - 48)) / 10 := by
    intro j h1 h2
    rw [show (by_ s (a + j) - 48) % 256 = by_ s (a + j) - 48 by omega, u64_id (n := L - (by_ s (a + j) - 48)) (by omega) (by omega), tdiv10 (by omega), u64_id (by omega) (by omega)]
  have hn : ∀ j, 48 ≤ by_ s (a + j) → by_ s (a + j) ≤ 57 → 0 ≤ vv s a j → vv s a j ≤ (L - (by_ s (a + j) - 48)) / 10 → IntKind.u64.wrap (IntKind.u64.wrap (10 * vv s a j) + (by_ s (a + j) - 48) % 256) = vv s a (j + 1) := by
    intro j h1 h2 h3 h4
    rw [show (by_ s (a + j) - 48) % 256 = by_ s (a + j) - 48 by omega, u64_id (n := 10 * vv s a j) (by omega) (by omega), u64_id (by omega) (by omega)]; rfl
  intro d
  induction d with
  | zero =>
    intro j k hj hk
    obtain rfl : j = m := by omega
    obtain ⟨k, rfl⟩ : ∃ q, k = q + 3 := ⟨k - 3, by omega⟩
    have hv := vv_range hL hg
    have hb := ext_byte s a (a + j + 1) j (by omega) (by omega)
    simp only [payoffref03_begins.l0]
    rw [hes, if_pos (by omega), if_pos (by omega), hb]
    by_cases h48 : by_ s (a + j) < 48
    · rw [if_pos h48, decide_eq_false (fun h : Step s L a j => by have := h.2.1; omega)]
      simp only [payoffref03_begins.j1, if_true]
    · rw [if_neg h48]
      by_cases h57 : by_ s (a + j) > 57
      · rw [decide_eq_true h57, decide_eq_false (fun h : Step s L a j => by have := h.2.2.1; omega)]
        simp only [payoffref03_begins.j1, if_true]
      · rw [decide_eq_false h57]
        simp only [payoffref03_begins.j1, Bool.false_eq_true, if_false]
        rw [if_pos (by omega), hes, if_pos (by omega), hb, hw j (by omega) (by omega)]
        by_cases hgt : vv s a j > (L - (by_ s (a + j) - 48)) / 10
        · rw [if_pos hgt, decide_eq_false (fun h : Step s L a j => by have := h.2.2.2.2; omega)]
        · rw [if_neg hgt, decide_eq_true (show Step s L a j from ⟨hin, by omega, by omega, fun hz => hnz ((vv_pos hL hg hz.1).1 hz.2).1, by omega⟩)]
          obtain ⟨k, rfl⟩ : ∃ q, k = q + 1 := ⟨k - 1, by omega⟩
          rw [w64_nat j (by omega)]
          simp only [payoffref03_begins.l0]
          rw [hes, if_neg (by omega)]
  | succ d ih =>
    intro j k hj hk
    obtain ⟨k, rfl⟩ : ∃ q, k = q + 2 := ⟨k - 2, by omega⟩
    obtain ⟨hin', h48, h57, hz, hle⟩ := hg j (by omega)
    have hv := vv_range hL (hg.le (show j ≤ m by omega))
    have hb := ext_byte s a (a + m + 1) j (by omega) (by omega)
    simp only [payoffref03_begins.l0]
    rw [hes, if_pos (by omega), if_pos (by omega), hb, if_neg (by omega), decide_eq_false (show ¬ by_ s (a + j) > 57 by omega)]
    simp only [payoffref03_begins.j1, Bool.false_eq_true, if_false]
    rw [if_pos (by omega), hes, if_pos (by omega), hb, hw j h48 h57, if_neg (by omega), hn j h48 h57 hv.1 hle, w64_nat j (by omega)]
    exact ih (j + 1) k (by omega) (by omega)
theorem begins_f (s : ByteArray) (L : Int) (hL : 9 ≤ L) (hL2 : L ≤ 9223372036854775808) (hsz : s.size ≤ 1048576) (a m : Nat) (hg : Good s L a m) (hin : a + m < s.size) (k : Nat) (hk : 2 * m + 4 < k) :
    payoffref03_begins.f k (s.extract a (a + m + 1)) L = some (decide (Step s L a m)) := by
  have hes : ((s.extract a (a + m + 1)).size : Int) = ((m + 1 : Nat) : Int) := by rw [ext_size s a (a + m + 1) (by omega)]; omega
  have hb := ext_byte s a (a + m + 1) 0 (by omega) (by omega)
  unfold payoffref03_begins.f
  rw [hes, if_pos (by omega)]
  rw [show bt (s.extract a (a + m + 1)) 0 = by_ s a from hb]
  by_cases h0 : by_ s a = 48
  · rw [if_pos h0]
    congr 1
    rcases Nat.eq_zero_or_pos m with hm | hm
    · subst hm
      rw [decide_eq_true (show Step s L a 0 from ⟨hin, by rw [Nat.add_zero]; omega, by rw [Nat.add_zero]; omega, fun h => by omega, by rw [Nat.add_zero]; simp only [vv]; omega⟩)]
      rfl
    · have hne : ¬ Step s L a m := by
        intro hst
        rcases Nat.lt_or_ge 1 m with h1 | h1
        · have h2 := (hg 1 h1).2.2.2.1
          exact h2 ⟨by omega, by simp only [vv, Nat.add_zero]; omega⟩
        · have hm1 : m = 1 := by omega
          subst hm1
          exact hst.2.2.2.1 ⟨by omega, by simp only [vv, Nat.add_zero]; omega⟩
      rw [decide_eq_false hne]
      simp; omega
  · rw [if_neg h0]
    exact begins_l0 s L hL hL2 hsz a m hg hin h0 m 0 k (by omega) hk
theorem number_ref (s : ByteArray) (L : Int) (hL : 9 ≤ L) (hL2 : L ≤ 9223372036854775808) (hsz : s.size ≤ 1048576) (b a m : Nat) (hba : b ≤ a) (hg : Good s L a m) (hs : ¬ Step s L a m) (ham : a + m ≤ s.size) (hneg : b < a → a < s.size → by_ s a ≠ 48) :
    ∀ (d j k : Nat), j + d = m → 4 * m + 2 * d + 10 < k → payoffref03_number.l0 k s (b : Int) L (a : Int) ((a + j : Nat) : Int) = some (((a + m : Nat) : Int), decide (0 < m)) := by
  intro d
  induction d with
  | zero =>
    intro j k hj hk
    obtain rfl : j = m := by omega
    obtain ⟨k, rfl⟩ : ∃ q, k = q + 2 := ⟨k - 2, by omega⟩
    have he : decide (((a + j : Nat) : Int) > (a : Int)) = decide (0 < j) := by
      by_cases h : 0 < j
      · rw [decide_eq_true h, decide_eq_true (by omega)]
      · rw [decide_eq_false h, decide_eq_false (by omega)]
    simp only [payoffref03_number.l0]
    by_cases hin : a + j < s.size
    · rw [if_pos (by omega), if_pos (by omega), w64_nat (a + j) (by omega), if_pos (by omega), if_pos (by omega)]
      have hbg := begins_f s L hL hL2 hsz a j hg hin (k + 1) (by omega)
      rw [show ((a : Int)).toNat = a from rfl, show (((a + j + 1 : Nat) : Int)).toNat = a + j + 1 from rfl, hbg, decide_eq_false hs]
      simp only [Option.bind_some, payoffref03_number.j3, Bool.false_eq_true, if_false, he]
    · rw [if_neg (by omega)]
      simp only [payoffref03_number.j3, Bool.false_eq_true, if_false, he]
  | succ d ih =>
    intro j k hj hk
    obtain ⟨k, rfl⟩ : ∃ q, k = q + 2 := ⟨k - 2, by omega⟩
    have hst := hg j (by omega)
    have hin := hst.1
    simp only [payoffref03_number.l0]
    rw [if_pos (by omega), if_pos (by omega), w64_nat (a + j) (by omega), if_pos (by omega), if_pos (by omega)]
    have hbg := begins_f s L hL hL2 hsz a j (hg.le (by omega)) hin (k + 1) (by omega)
    rw [show ((a : Int)).toNat = a from rfl, show (((a + j + 1 : Nat) : Int)).toNat = a + j + 1 from rfl, hbg, decide_eq_true hst]
    simp only [Option.bind_some, payoffref03_number.j3, if_true]
    have hih := ih (j + 1) k (by omega) (by omega)
    rw [w64_nat (a + j) (by omega)]
    by_cases hab : (a : Int) > (b : Int)
    · rw [if_pos hab, if_pos (by omega), if_pos (by omega), if_pos (by omega), if_neg]
      · exact hih
      · rw [show ((a : Int)).toNat = a from rfl, show (((a + j + 1 : Nat) : Int)).toNat = a + j + 1 from rfl]
        intro he
        have hl : (s.extract a (a + j + 1)).size = 1 := by
          have h1 : (s.extract a (a + j + 1)).toList.length = 1 := by rw [he]; rfl
          rw [ByteArray.toList_eq, Array.length_toList] at h1
          exact h1
        rw [ext_size s a (a + j + 1) (by omega)] at hl
        have hj0 : j = 0 := by omega
        subst hj0
        have hb0 := ext_byte s a (a + 0 + 1) 0 (by omega) (by omega)
        have h48 : bt (s.extract a (a + 0 + 1)) ((0 : Nat) : Int) = 48 := by
          have hd : (s.extract a (a + 0 + 1)).data.toList = [48] := by rw [← ByteArray.toList_eq]; exact he
          unfold bt
          have h1 : ((0 : Nat) : Int).toNat < (s.extract a (a + 0 + 1)).size := by rw [ext_size s a (a + 0 + 1) (by omega)]; omega
          rw [dif_pos h1]
          have h2 : (s.extract a (a + 0 + 1)).data.toList[0]? = some 48 := by rw [hd]; rfl
          rw [Array.getElem?_toList] at h2
          obtain ⟨h3, h4⟩ := Array.getElem?_eq_some_iff.1 h2
          have h5 : (s.extract a (a + 0 + 1))[((0 : Nat) : Int).toNat]'h1 = 48 := h4
          rw [h5]; rfl
        exact hneg (by omega) (by omega) (by rw [← hb0.symm.trans h48]; rfl)
    · rw [if_neg hab]; exact hih
def Enough (s : ByteArray) (k : Nat) : Prop := 8 * s.size + 40 < k
theorem num_prog (s : ByteArray) (L : Int) (hL : 9 ≤ L) (hL2 : L ≤ 9223372036854775808) (hsz : s.size ≤ 1048576) (a m k : Nat) (hg : Good s L a m) (hs : ¬ Step s L a m) (ham : a + m ≤ s.size) (hk : Enough s k) :
    flow_reader_number.f k s (a : Int) L = some (numAns s a m) := by
  have h := number_l0 s L hL hL2 hsz a m hg hs ham m 0 k (by omega) (by unfold Enough at hk; omega)
  simpa [flow_reader_number.f, vv] using h
theorem num_ref (s : ByteArray) (L : Int) (hL : 9 ≤ L) (hL2 : L ≤ 9223372036854775807) (hsz : s.size ≤ 1048576) (a m k : Nat) (hg : Good s L a m) (hs : ¬ Step s L a m) (ham : a + m ≤ s.size) (hk : Enough s k) :
    payoffref03_number.f k s (a : Int) L false = some (((a + m : Nat) : Int), decide (0 < m)) := by
  unfold Enough at hk
  obtain ⟨k, rfl⟩ : ∃ q, k = q + 2 := ⟨k - 2, by omega⟩
  unfold payoffref03_number.f
  simp only [Bool.false_eq_true, if_false, payoffref03_number.j0, payoffref03_number.j1]
  exact number_ref s L hL (by omega) hsz a a m (by omega) hg hs ham (fun h => by omega) m 0 k (by omega) (by omega)
theorem num_ref_plain (s : ByteArray) (L : Int) (hL : 9 ≤ L) (hL2 : L ≤ 9223372036854775807) (hsz : s.size ≤ 1048576) (a m k : Nat) (hg : Good s L a m) (hs : ¬ Step s L a m) (ham : a + m ≤ s.size) (hk : Enough s k) (hno : a < s.size → by_ s a ≠ 45) :
    payoffref03_number.f k s (a : Int) L true = some (((a + m : Nat) : Int), decide (0 < m)) := by
  unfold Enough at hk
  obtain ⟨k, rfl⟩ : ∃ q, k = q + 2 := ⟨k - 2, by omega⟩
  have hl := number_ref s L hL (by omega) hsz a a m (by omega) hg hs ham (fun h => by omega) m 0 k (by omega) (by omega)
  unfold payoffref03_number.f
  rw [if_pos rfl]
  by_cases hin : a < s.size
  · rw [if_pos (by omega), if_pos (by omega), show bt s (a : Int) = by_ s a from rfl, beq_eq_false_iff_ne.2 (hno hin)]
    simp only [payoffref03_number.j0, Bool.false_eq_true, if_false, payoffref03_number.j1]
    exact hl
  · rw [if_neg (by omega)]
    simp only [payoffref03_number.j0, Bool.false_eq_true, if_false, payoffref03_number.j1]
    exact hl
theorem num_ref_minus (s : ByteArray) (hsz : s.size ≤ 1048576) (a m k : Nat) (hin : a < s.size) (hm : by_ s a = 45) (hg : Good s 9223372036854775808 (a + 1) m) (hs : ¬ Step s 9223372036854775808 (a + 1) m) (ham : a + 1 + m ≤ s.size) (hk : Enough s k) (hno : a + 1 < s.size → by_ s (a + 1) ≠ 48) :
    payoffref03_number.f k s (a : Int) 9223372036854775807 true = some (((a + 1 + m : Nat) : Int), decide (0 < m)) := by
  unfold Enough at hk
  obtain ⟨k, rfl⟩ : ∃ q, k = q + 2 := ⟨k - 2, by omega⟩
  have hl := number_ref s 9223372036854775808 (by omega) (by omega) hsz a (a + 1) m (by omega) hg hs ham (fun _ h => hno h) m 0 k (by omega) (by omega)
  unfold payoffref03_number.f
  rw [if_pos rfl, if_pos (by omega), if_pos (by omega), show bt s (a : Int) = by_ s a from rfl, beq_iff_eq.2 hm]
  simp only [payoffref03_number.j0, if_true, payoffref03_number.j1]
  rw [u64_id (by omega) (by omega), w64_nat a (by omega)]
  exact hl
theorem num_ref_minus0 (s : ByteArray) (hsz : s.size ≤ 1048576) (a k : Nat) (hin : a + 1 < s.size) (hm : by_ s a = 45) (h0 : by_ s (a + 1) = 48) (hk : Enough s k) :
    payoffref03_number.f k s (a : Int) 9223372036854775807 true = some (((a + 1 : Nat) : Int), false) := by
  unfold Enough at hk
  obtain ⟨k, rfl⟩ : ∃ q, k = q + 4 := ⟨k - 4, by omega⟩
  have hbg := begins_f s 9223372036854775808 (by omega) (by omega) hsz (a + 1) 0 (fun j hj => by omega) (by omega) (k + 1) (by omega)
  have hst : Step s 9223372036854775808 (a + 1) 0 := ⟨by omega, by rw [Nat.add_zero]; omega, by rw [Nat.add_zero]; omega, fun h => by omega, by rw [Nat.add_zero]; simp only [vv]; omega⟩
  unfold payoffref03_number.f
  rw [if_pos rfl, if_pos (by omega), if_pos (by omega), show bt s (a : Int) = by_ s a from rfl, beq_iff_eq.2 hm]
  simp only [payoffref03_number.j0, if_true, payoffref03_number.j1, payoffref03_number.l0]
  rw [u64_id (by omega) (by omega), show (9223372036854775807 : Int) + 1 = 9223372036854775808 from rfl, w64_nat a (by omega), if_pos (by omega), if_pos (by omega), w64_nat (a + 1) (by omega), if_pos (by omega), if_pos (by omega)]
  rw [show (((a + 1 : Nat) : Int)).toNat = a + 1 from rfl, show (((a + 1 + 1 : Nat) : Int)).toNat = a + 1 + 0 + 1 from rfl, hbg, decide_eq_true hst]
  simp only [Option.bind_some, payoffref03_number.j3, if_true]
  have hone : (s.extract (a + 1) (a + 1 + 1)).toList = [48] := by
    have hz := ext_size s (a + 1) (a + 1 + 1) (by omega)
    have hb := ext_byte s (a + 1) (a + 1 + 1) 0 (by omega) (by omega)
    rw [Nat.add_zero, h0] at hb
    rw [ByteArray.toList_eq]
    have hl : (s.extract (a + 1) (a + 1 + 1)).data.toList.length = 1 := by rw [Array.length_toList]; show (s.extract (a + 1) (a + 1 + 1)).size = 1; rw [hz]; omega
    obtain ⟨x, hx⟩ := List.length_eq_one_iff.1 hl
    rw [hx]
    unfold bt at hb
    have h1 : ((0 : Nat) : Int).toNat < (s.extract (a + 1) (a + 1 + 1)).size := by rw [hz]; omega
    rw [dif_pos h1] at hb
    have hg : (s.extract (a + 1) (a + 1 + 1)).data.toList[0]? = some x := by rw [hx]; rfl
    rw [Array.getElem?_toList] at hg
    obtain ⟨h3, h4⟩ := Array.getElem?_eq_some_iff.1 hg
    have h5 : (s.extract (a + 1) (a + 1 + 1))[((0 : Nat) : Int).toNat]'h1 = x := h4
    rw [h5] at hb
    have hx48 : x = 48 := by
      apply UInt8.toNat_inj.1
      show x.toNat = 48
      omega
    rw [hx48]
  rw [if_pos (by omega), if_pos (by omega), w64_nat (a + 1) (by omega), if_pos (by omega), if_pos (by omega), show (((a + 1 : Nat) : Int)).toNat = a + 1 from rfl, show (((a + 1 + 1 : Nat) : Int)).toNat = a + 1 + 1 from rfl, if_pos hone]
  simp
theorem value_l0 (s : ByteArray) (L : Int) (hL : 9 ≤ L) (hsz : s.size ≤ 1048576) (a b m : Nat) (c : Nat) (hb : a = b + c) (hg : Good s L a m) (ham : a + m ≤ s.size) (neg : Bool) (hLn : if neg = true then L ≤ 9223372036854775808 else L ≤ 9223372036854775807) :
    ∀ (d j k : Nat), j + d = m → d < k → payoffref03_value.l0 k (s.extract b (a + m)) neg (if neg = true then - vv s a j else vv s a j) ((c + j : Nat) : Int) = some (if neg = true then - vv s a m else vv s a m) := by
  have hes : ((s.extract b (a + m)).size : Int) = ((c + m : Nat) : Int) := by rw [ext_size s b (a + m) (by omega)]; omega
  intro d
  induction d with
  | zero =>
    intro j k hj hk
    obtain rfl : j = m := by omega
    obtain ⟨k, rfl⟩ : ∃ q, k = q + 1 := ⟨k - 1, by omega⟩
    simp only [payoffref03_value.l0]
    rw [hes, if_neg (by omega)]
  | succ d ih =>
    intro j k hj hk
    obtain ⟨k, rfl⟩ : ∃ q, k = q + 1 := ⟨k - 1, by omega⟩
    obtain ⟨hin, h48, h57, hz, hle⟩ := hg j (by omega)
    have hv := vv_range hL (hg.le (show j ≤ m by omega))
    have hbt := ext_byte s b (a + m) (c + j) (by omega) (by omega)
    rw [show b + (c + j) = a + j by omega] at hbt
    have hih := ih (j + 1) k (by omega) (by omega)
    simp only [payoffref03_value.l0]
    rw [hes, if_pos (by omega), if_pos (by omega), hbt, if_neg (by omega), w64_nat (c + j) (by omega), show (by_ s (a + j) - 48) % 256 = by_ s (a + j) - 48 by omega]
    cases neg with
    | true =>
      simp only [if_true] at hLn hih ⊢
      have e : wrap64 (wrap64 (10 * -vv s a j) - (by_ s (a + j) - 48)) = - vv s a (j + 1) := by
        rw [show vv s a (j + 1) = 10 * vv s a j + (by_ s (a + j) - 48) from rfl]
        unfold wrap64; omega
      rw [e]; exact hih
    | false =>
      simp only [Bool.false_eq_true, if_false] at hLn hih ⊢
      have e : wrap64 (wrap64 (10 * vv s a j) + (by_ s (a + j) - 48)) = vv s a (j + 1) := by
        rw [show vv s a (j + 1) = 10 * vv s a j + (by_ s (a + j) - 48) from rfl]
        unfold wrap64; omega
      rw [e]; exact hih
theorem value_pos (s : ByteArray) (L : Int) (hL : 9 ≤ L) (hL2 : L ≤ 9223372036854775807) (hsz : s.size ≤ 1048576) (a m k : Nat) (hg : Good s L a m) (ham : a + m ≤ s.size) (hm : 0 < m) (hk : Enough s k) :
    payoffref03_value.f k (s.extract a (a + m)) = some (vv s a m) := by
  unfold Enough at hk
  have h := value_l0 s L hL hsz a a m 0 rfl hg ham false (by simpa using hL2) m 0 k (by omega) (by omega)
  have hb := ext_byte s a (a + m) 0 (by omega) (by omega)
  have hd := (hg 0 hm).2.1
  unfold payoffref03_value.f
  rw [if_pos (by rw [ext_size s a (a + m) ham]; omega), show bt (s.extract a (a + m)) 0 = by_ s (a + 0) from hb, beq_eq_false_iff_ne.2 (by omega)]
  simpa [vv] using h
theorem value_neg (s : ByteArray) (hsz : s.size ≤ 1048576) (b m k : Nat) (hmn : by_ s b = 45) (hg : Good s 9223372036854775808 (b + 1) m) (ham : b + 1 + m ≤ s.size) (hk : Enough s k) :
    payoffref03_value.f k (s.extract b (b + 1 + m)) = some (- vv s (b + 1) m) := by
  unfold Enough at hk
  obtain ⟨k, rfl⟩ : ∃ q, k = q + 1 := ⟨k - 1, by omega⟩
  have h := value_l0 s 9223372036854775808 (by omega) hsz (b + 1) b m 1 rfl hg ham true (by simp) m 0 k (by omega) (by omega)
  have hb := ext_byte s b (b + 1 + m) 0 (by omega) (by omega)
  rw [show b + 0 = b from rfl, hmn] at hb
  unfold payoffref03_value.f
  rw [if_pos (by rw [ext_size s b (b + 1 + m) ham]; omega), show bt (s.extract b (b + 1 + m)) 0 = 45 from hb]
  simp only [payoffref03_value.l0, beq_self_eq_true]
  rw [if_pos (by rw [ext_size s b (b + 1 + m) ham]; omega), if_pos (by omega), show bt (s.extract b (b + 1 + m)) 0 = 45 from hb, if_pos rfl, show wrap64 ((0 : Int) + 1) = ((1 : Nat) : Int) from w64_nat 0 (by omega)]
  simpa [vv] using h
theorem want_f (s : ByteArray) (p : Nat) (hp : p ≤ s.size) (hsz : s.size ≤ 1048576) (c : Int) :
  flow_reader_want.f s (p : Int) c = some (if p < s.size ∧ by_ s p = c then (true, s, ((p + 1 : Nat) : Int)) else (false, s, (p : Int))) := by
 unfold flow_reader_want.f
 by_cases hin : p < s.size
 ·rw [next_in s p hin]
  simp only [Option.bind_some, if_true]
  by_cases hc : by_ s p = c
  ·rw [if_pos hc, if_pos ⟨hin, hc⟩, w64_nat p (by omega)]
  ·rw [if_neg hc, if_neg (fun h => hc h.2)]
 ·obtain rfl : p = s.size := by omega
  rw [next_end, if_neg (fun h => hin h.1)]
  simp only [Option.bind_some, Bool.false_eq_true, if_false]
theorem numAns_cases (s : ByteArray) (a m : Nat) : (∃ v, numAns s a m = (v, false, s, ((a + m : Nat) : Int)) ∧ (0 < m → a + m < s.size ∧ 48 ≤ by_ s (a + m) ∧ by_ s (a + m) ≤ 57)) ∨ (0 < m ∧ numAns s a m = (vv s a m, true, s, ((a + m : Nat) : Int))) := by
 unfold numAns
 by_cases h : a + m < s.size ∧ 48 ≤ by_ s (a + m) ∧ by_ s (a + m) ≤ 57
 ·rw [if_pos h]; exact .inl ⟨0, rfl, fun _ => h⟩
 ·rw [if_neg h]
  by_cases hm : 0 < m
  ·rw [decide_eq_true hm]; exact .inr ⟨hm, rfl⟩
  ·rw [decide_eq_false hm]; exact .inl ⟨_, rfl, fun h => absurd h hm⟩
theorem day_same (s : ByteArray) (hsz : s.size ≤ 1048576) (a : Nat) (ha : a ≤ s.size) (k k' k'' : Nat) (hk : Enough s k) (hk' : Enough s k') (hk'' : Enough s k'') :
  ∃ (q : Nat) (v : Int) (okP okR : Bool), flow_reader_number.f k s (a : Int) 1073741824 = some (v, okP, s, (q : Int)) ∧ payoffref03_number.f k' s (a : Int) 1073741824 false = some ((q : Int), okR) ∧ a ≤ q ∧ q ≤ s.size ∧
   (okP = true → okR = true ∧ a < q ∧ payoffref03_value.f k'' (s.extract a q) = some v ∧ wrap64 v = v) ∧ (okP = false → okR = true → q < s.size ∧ 48 ≤ by_ s q) := by
 obtain ⟨m, hg, hs, ham⟩ := stop_exists s 1073741824 a ha
 have h1 := num_prog s 1073741824 (by omega) (by omega) hsz a m k hg hs ham hk
 have h2 := num_ref s 1073741824 (by omega) (by omega) hsz a m k' hg hs ham hk'
 have hv := vv_range (by omega) hg
 rcases numAns_cases s a m with ⟨v, he, hd⟩ | ⟨hm, he⟩
 ·rw [he] at h1
  exact ⟨a + m, v, false, decide (0 < m), h1, h2, by omega, ham, (fun h => by cases h), fun _ h => by have := hd (of_decide_eq_true h); exact ⟨this.1, this.2.1⟩⟩
 ·rw [he] at h1
  refine ⟨a + m, _, true, decide (0 < m), h1, h2, by omega, ham, fun _ => ⟨decide_eq_true hm, by omega, value_pos s 1073741824 (by omega) (by omega) hsz a m k'' hg ham hm hk'', by unfold wrap64; omega⟩, fun h => by cases h⟩
theorem neg_back (v : Int) (h0 : 0 ≤ v) (h1 : v ≤ 9223372036854775808) : wrap64 (IntKind.u64.wrap (-v)) = -v := by
 simp only [IntKind.wrap, IntKind.signed, IntKind.bits, wrap64]
 simp
 omega
theorem amt_same (s : ByteArray) (hsz : s.size ≤ 1048576) (a : Nat) (ha : a ≤ s.size) (k k' k'' : Nat) (hk : Enough s k) (hk' : Enough s k') (hk'' : Enough s k'') :
  ∃ (q : Nat) (v : Int) (okP okR : Bool), flow_reader_amount.f k s (a : Int) = some (v, okP, s, (q : Int)) ∧ payoffref03_number.f k' s (a : Int) 9223372036854775807 true = some ((q : Int), okR) ∧ a ≤ q ∧ q ≤ s.size ∧
   (okP = true → okR = true ∧ a < q ∧ payoffref03_value.f k'' (s.extract a q) = some v) ∧ (okP = false → okR = true → q < s.size ∧ 48 ≤ by_ s q) := by
 unfold flow_reader_amount.f
 rw [want_f s a ha hsz]
 by_cases hneg : a < s.size ∧ by_ s a = 45
 ·rw [if_pos hneg]
  simp only [Option.bind_some, if_true]
  obtain ⟨hin, hm45⟩ := hneg
  by_cases h0 : a + 1 < s.size ∧ by_ s (a + 1) = 48
  ·rw [next_in s (a + 1) h0.1]
   simp only [Option.bind_some, if_true, h0.2]
   exact ⟨a + 1, 0, false, false, rfl, num_ref_minus0 s hsz a k' h0.1 hm45 h0.2 hk', by omega, by omega, fun h => (by cases h), fun _ h => (by cases h)⟩
  ·obtain ⟨m, hg, hs, ham⟩ := stop_exists s 9223372036854775808 (a + 1) (by omega)
   have h1 := num_prog s 9223372036854775808 (by omega) (by omega) hsz (a + 1) m k hg hs ham hk
   have h2 := num_ref_minus s hsz a m k' hin hm45 hg hs ham hk' (fun h e => h0 ⟨h, e⟩)
   have hv := vv_range (by omega) hg
   have hnx : ∀ f g : Option (Int × Bool × ByteArray × Int), ((flow_reader_next.f s ((a + 1 : Nat) : Int)).bind fun bt => (if bt.2.1 = true then (if bt.1 = 48 then f else g) else g)) = g := by
    intro f g
    by_cases hin1 : a + 1 < s.size
    ·rw [next_in s (a + 1) hin1]
     simp only [Option.bind_some, if_true]
     rw [if_neg (fun e => h0 ⟨hin1, e⟩)]
    ·have he : a + 1 = s.size := by omega
     rw [he, next_end]
     simp only [Option.bind_some, Bool.false_eq_true, if_false]
   rcases numAns_cases s (a + 1) m with ⟨v, he, hd⟩ | ⟨hm, he⟩
   ·rw [he] at h1
    refine ⟨a + 1 + m, wrap64 (IntKind.u64.wrap (-v)), false, decide (0 < m), ?_, h2, by omega, ham, fun h => (by cases h), fun _ h => by have := hd (of_decide_eq_true h); exact ⟨this.1, this.2.1⟩⟩
    by_cases hin1 : a + 1 < s.size
    ·rw [next_in s (a + 1) hin1]
     simp only [Option.bind_some, if_true]
     rw [if_neg (fun e => h0 ⟨hin1, e⟩), h1]; rfl
    ·have he1 : a + 1 = s.size := by omega
     rw [he1, next_end]
     simp only [Option.bind_some, Bool.false_eq_true, if_false]
     rw [← he1, h1]; rfl
   ·rw [he] at h1
    refine ⟨a + 1 + m, - vv s (a + 1) m, true, decide (0 < m), ?_, h2, by omega, ham, fun _ => ⟨decide_eq_true hm, by omega, value_neg s hsz a m k'' hm45 hg ham hk''⟩, fun h => (by cases h)⟩
    by_cases hin1 : a + 1 < s.size
    ·rw [next_in s (a + 1) hin1]
     simp only [Option.bind_some, if_true]
     rw [if_neg (fun e => h0 ⟨hin1, e⟩), h1]
     simp only [Option.bind_some, neg_back _ hv.1 hv.2]
    ·have he1 : a + 1 = s.size := by omega
     rw [he1, next_end]
     simp only [Option.bind_some, Bool.false_eq_true, if_false]
     rw [← he1, h1]
     simp only [Option.bind_some, neg_back _ hv.1 hv.2]
 ·rw [if_neg hneg]
  simp only [Option.bind_some, Bool.false_eq_true, if_false]
  obtain ⟨m, hg, hs, ham⟩ := stop_exists s 9223372036854775807 a ha
  have h1 := num_prog s 9223372036854775807 (by omega) (by omega) hsz a m k hg hs ham hk
  have h2 := num_ref_plain s 9223372036854775807 (by omega) (by omega) hsz a m k' hg hs ham hk' (fun h e => hneg ⟨h, e⟩)
  have hv := vv_range (by omega) hg
  rcases numAns_cases s a m with ⟨v, he, hd⟩ | ⟨hm, he⟩
  ·rw [he] at h1
   exact ⟨a + m, wrap64 v, false, decide (0 < m), by rw [h1]; rfl, h2, by omega, ham, fun h => (by cases h), fun _ h => by have := hd (of_decide_eq_true h); exact ⟨this.1, this.2.1⟩⟩
  ·rw [he] at h1
   exact ⟨a + m, vv s a m, true, decide (0 < m), by rw [h1]; simp only [Option.bind_some]; rw [show wrap64 (vv s a m) = vv s a m by unfold wrap64; omega], h2, by omega, ham, fun _ => ⟨decide_eq_true hm, by omega, value_pos s 9223372036854775807 (by omega) (by omega) hsz a m k'' hg ham hm hk''⟩, fun h => (by cases h)⟩
def Alike (s : ByteArray) (p : Nat) (P : Option (Int × ByteArray × Int × Bool × ByteArray × Int)) (R : Option (Int × ByteArray × Int × Int × Bool)) : Prop :=
 ∃ (ok : Bool) (q : Nat) (d d' v v' : Int) (c c' : ByteArray), P = some (d, c, v, ok, s, (q : Int)) ∧ R = some (d', c', v', (q : Int), ok) ∧ q ≤ s.size ∧ (ok = true → p < q ∧ d = d' ∧ c = c' ∧ v = v')
theorem tail_end (s : ByteArray) (hsz : s.size ≤ 1048576) (f : Nat) (hf : f + 3 ≤ s.size) (day : Int) (hday : wrap64 day = day) (c0 : ByteArray) (v0 : Int) (k k' : Nat) (hk : 8 * s.size + 50 < k) (hk' : 8 * s.size + 50 < k') :
  Alike s f (flow_reader_line.l0 k day (f : Int) 3 s ((f + 3 : Nat) : Int)) (payoffref03_line.l0 k' s (f : Int) 3 day c0 v0) := by
 obtain ⟨k, rfl⟩ : ∃ q, k = q + 1 := ⟨k - 1, by omega⟩
 obtain ⟨k', rfl⟩ : ∃ q, k' = q + 2 := ⟨k' - 2, by omega⟩
 have w3 : wrap64 ((f : Int) + 3) = ((f + 3 : Nat) : Int) := by unfold wrap64; omega
 have w4 : wrap64 ((f : Int) + 4) = ((f + 3 + 1 : Nat) : Int) := by unfold wrap64; omega
 simp only [flow_reader_line.l0, payoffref03_line.l0]
 rw [if_neg (by omega), if_pos (by omega), if_pos (by omega), if_pos (by omega), if_neg (by omega), if_pos (by omega), w3, if_pos (by omega), if_pos (by omega)]
 by_cases hin : f + 3 < s.size
 ·rw [if_neg (by omega), if_pos (by omega), if_pos (by omega), show bt s ((f + 3 : Nat) : Int) = by_ s (f + 3) from rfl]
  by_cases h32 : by_ s (f + 3) = 32
  ·rw [want_f s (f + 3) hf hsz, if_pos ⟨hin, h32⟩, h32]
   simp only [Option.bind_some, if_true, payoffref03_line.j2, bne_self_eq_false, Bool.false_eq_true, if_false, w4]
   obtain ⟨q, v, okP, okR, h1, h2, haq, hqs, hyes, hno⟩ := amt_same s hsz (f + 3 + 1) (by omega) k k' k' (by unfold Enough; omega) (by unfold Enough; omega) (by unfold Enough; omega)
   rw [h1, h2]
   simp only [Option.bind_some]
   cases okP with
   | true =>
    obtain ⟨rfl, hlt, hval⟩ := hyes rfl
    simp only [if_true]
    by_cases hq : q < s.size
    ·rw [if_neg (show ¬ (q : Int) ≥ (s.size : Int) by omega), if_pos (by omega), if_pos (by omega), show bt s (q : Int) = by_ s q from rfl]
     by_cases h10 : by_ s q = 10
     ·rw [if_pos h10, if_pos (by omega), if_pos (by omega), if_pos (by omega), want_f s q hqs hsz, if_pos ⟨hq, h10⟩]
      rw [show (((f + 3 + 1 : Nat) : Int)).toNat = f + 3 + 1 from rfl, show ((q : Int)).toNat = q from rfl, hval]
      simp only [Option.bind_some, if_true]
      exact ⟨true, q + 1, _, _, _, _, _, _, rfl, by rw [w64_nat q (by omega)], by omega, fun _ => ⟨by omega, hday, rfl, rfl⟩⟩
     ·rw [if_neg h10, want_f s q hqs hsz, if_neg (fun h => h10 h.2)]
      simp only [Option.bind_some, Bool.false_eq_true, if_false]
      exact ⟨false, q, _, _, _, _, _, _, rfl, rfl, hqs, fun h => by cases h⟩
    ·rw [if_pos (show (q : Int) ≥ (s.size : Int) by omega), want_f s q hqs hsz, if_neg (fun h => hq h.1)]
     simp only [Option.bind_some, Bool.false_eq_true, if_false]
     exact ⟨false, q, _, _, _, _, _, _, rfl, rfl, hqs, fun h => by cases h⟩
   | false =>
    simp only [Bool.false_eq_true, if_false]
    cases okR with
    | true =>
     obtain ⟨hq, hd⟩ := hno rfl rfl
     simp only [if_true]
     rw [if_neg (show ¬ (q : Int) ≥ (s.size : Int) by omega), if_pos (by omega), if_pos (by omega), show bt s (q : Int) = by_ s q from rfl, if_neg (by omega)]
     exact ⟨false, q, _, _, _, _, _, _, rfl, rfl, hqs, fun h => by cases h⟩
    | false =>
     simp only [Bool.false_eq_true, if_false]
     exact ⟨false, q, _, _, _, _, _, _, rfl, rfl, hqs, fun h => by cases h⟩
  ·rw [want_f s (f + 3) hf hsz, if_neg (fun h => h32 h.2), bne_iff_ne.2 h32]
   simp only [Option.bind_some, Bool.false_eq_true, if_false, payoffref03_line.j2, if_true, w3]
   exact ⟨false, f + 3, _, _, _, _, _, _, rfl, rfl, hf, fun h => by cases h⟩
 ·rw [if_pos (by omega), want_f s (f + 3) hf hsz, if_neg (fun h => hin h.1)]
  simp only [Option.bind_some, Bool.false_eq_true, if_false, payoffref03_line.j2, if_true, w3]
  exact ⟨false, f + 3, _, _, _, _, _, _, rfl, rfl, hf, fun h => by cases h⟩
theorem tail_l0 (s : ByteArray) (hsz : s.size ≤ 1048576) (f : Nat) (day : Int) (hday : wrap64 day = day) (c0 : ByteArray) (v0 : Int) :
  ∀ (d i k k' : Nat), i + d = 3 → f + i ≤ s.size → 8 * s.size + 50 + d < k → 8 * s.size + 50 + d < k' → Alike s f (flow_reader_line.l0 k day (f : Int) (i : Int) s ((f + i : Nat) : Int)) (payoffref03_line.l0 k' s (f : Int) (i : Int) day c0 v0) := by
 intro d
 induction d with
 | zero =>
  intro i k k' hi hf hk hk'
  obtain rfl : i = 3 := by omega
  exact tail_end s hsz f hf day hday c0 v0 k k' (by omega) (by omega)
 | succ d ih =>
  intro i k k' hi hf hk hk'
  obtain ⟨k, rfl⟩ : ∃ q, k = q + 1 := ⟨k - 1, by omega⟩
  obtain ⟨k', rfl⟩ : ∃ q, k' = q + 1 := ⟨k' - 1, by omega⟩
  have wi : wrap64 ((f : Int) + (i : Int)) = ((f + i : Nat) : Int) := by unfold wrap64; omega
  simp only [flow_reader_line.l0, payoffref03_line.l0]
  rw [if_pos (by omega), if_pos (by omega), wi]
  by_cases hin : f + i < s.size
  ·rw [next_in s (f + i) hin, if_neg (by omega), if_pos (by omega), if_pos (by omega), show bt s ((f + i : Nat) : Int) = by_ s (f + i) from rfl]
   simp only [Option.bind_some, if_true]
   by_cases h65 : by_ s (f + i) < 65
   ·rw [if_pos h65, if_pos h65]
    exact ⟨false, f + i, _, _, _, _, _, _, rfl, rfl, hf, fun h => by cases h⟩
   ·rw [if_neg h65, if_neg h65]
    by_cases h90 : by_ s (f + i) > 90
    ·rw [if_pos h90, if_pos h90]
     exact ⟨false, f + i, _, _, _, _, _, _, rfl, rfl, hf, fun h => by cases h⟩
    ·rw [if_neg h90, if_neg h90, w64_nat i (by omega), w64_nat (f + i) (by omega)]
     exact ih (i + 1) k k' (by omega) (by omega) (by omega) (by omega)
  ·obtain he : f + i = s.size := by omega
   rw [if_pos (by omega), he, next_end]
   simp only [Option.bind_some, Bool.false_eq_true, if_false]
   exact ⟨false, s.size, _, _, _, _, _, _, rfl, rfl, by omega, fun h => by cases h⟩
theorem line_same (s : ByteArray) (hsz : s.size ≤ 1048576) (p : Nat) (hp : p ≤ s.size) (k k' : Nat) (hk : 8 * s.size + 60 < k) (hk' : 8 * s.size + 60 < k') :
  Alike s p (flow_reader_line.f k s (p : Int)) (payoffref03_line.f k' s (p : Int)) := by
 obtain ⟨q, v, okP, okR, h1, h2, hpq, hqs, hyes, hno⟩ := day_same s hsz p hp k k' (k' - 1) (by unfold Enough; omega) (by unfold Enough; omega) (by unfold Enough; omega)
 unfold flow_reader_line.f payoffref03_line.f
 rw [h1, h2]
 obtain ⟨k, rfl⟩ : ∃ q, k = q + 1 := ⟨k - 1, by omega⟩
 obtain ⟨k', rfl⟩ : ∃ q, k' = q + 1 := ⟨k' - 1, by omega⟩
 rw [Nat.add_sub_cancel] at hyes
 simp only [Option.bind_some]
 cases okP with
 | true =>
  obtain ⟨rfl, hlt, hval, hw⟩ := hyes rfl
  simp only [if_true]
  by_cases hq : q < s.size
  ·rw [if_neg (show ¬ (q : Int) ≥ (s.size : Int) by omega), if_pos (by omega), if_pos (by omega), show bt s (q : Int) = by_ s q from rfl]
   by_cases h32 : by_ s q = 32
   ·rw [want_f s q hqs hsz, if_pos ⟨hq, h32⟩, h32]
    simp only [Option.bind_some, Bool.not_true, flow_reader_line.j0, payoffref03_line.j0, bne_self_eq_false, Bool.false_eq_true, if_false]
    rw [if_pos (by omega), if_pos (by omega), if_pos (by omega), show ((p : Int)).toNat = p from rfl, show ((q : Int)).toNat = q from rfl, hval]
    simp only [Option.bind_some]
    rw [w64_nat q (by omega)]
    obtain ⟨ok, z, d, d', x, x', c, c', e1, e2, hz, hy⟩ := tail_l0 s hsz (q + 1) v hw (⟨#[]⟩ : ByteArray) 0 3 0 k k' (by omega) (by omega) (by omega) (by omega)
    exact ⟨ok, z, d, d', x, x', c, c', e1, e2, hz, fun h => by have := hy h; exact ⟨by omega, this.2⟩⟩
   ·rw [want_f s q hqs hsz, if_neg (fun h => h32 h.2), bne_iff_ne.2 h32]
    simp only [Option.bind_some, Bool.not_false, flow_reader_line.j0, payoffref03_line.j0, if_true]
    exact ⟨false, q, _, _, _, _, _, _, rfl, rfl, hqs, fun h => by cases h⟩
  ·rw [if_pos (show (q : Int) ≥ (s.size : Int) by omega), want_f s q hqs hsz, if_neg (fun h => hq h.1)]
   simp only [Option.bind_some, Bool.not_false, flow_reader_line.j0, payoffref03_line.j0, if_true]
   exact ⟨false, q, _, _, _, _, _, _, rfl, rfl, hqs, fun h => by cases h⟩
 | false =>
  simp only [Bool.false_eq_true, if_false, flow_reader_line.j0, if_true]
  cases okR with
  | true =>
   obtain ⟨hq, hd⟩ := hno rfl rfl
   simp only [if_true]
   rw [if_neg (show ¬ (q : Int) ≥ (s.size : Int) by omega), if_pos (by omega), if_pos (by omega), show bt s (q : Int) = by_ s q from rfl, bne_iff_ne.2 (show by_ s q ≠ 32 by omega)]
   simp only [payoffref03_line.j0, if_true]
   exact ⟨false, q, _, _, _, _, _, _, rfl, rfl, hqs, fun h => by cases h⟩
  | false =>
   simp only [Bool.false_eq_true, if_false, payoffref03_line.j0, if_true]
   exact ⟨false, q, _, _, _, _, _, _, rfl, rfl, hqs, fun h => by cases h⟩
theorem parse_same (s : ByteArray) (hsz : s.size ≤ 1048576) : ∀ (d p k k' : Nat) (out : List S32), p + d = s.size → out.length ≤ p → 8 * s.size + 61 + d < k → 8 * s.size + 61 + d < k' →
    ∃ (l : List S32) (q e : Int), flow_Parse.l0 k s out s (p : Int) = some (l, q, e) ∧ payoffref03_Parse.l0 k' s out (p : Int) = some (l, q, e) ∧ l.length ≤ s.size := by
  intro d
  induction d using Nat.strongRecOn with
  | _ d ih =>
    intro p k k' out hp hout hk hk'
    obtain ⟨k, rfl⟩ : ∃ q, k = q + 1 := ⟨k - 1, by omega⟩
    obtain ⟨k', rfl⟩ : ∃ q, k' = q + 1 := ⟨k' - 1, by omega⟩
    simp only [flow_Parse.l0, payoffref03_Parse.l0]
    by_cases hin : (p : Int) < (s.size : Int)
    · rw [if_pos hin, if_pos hin]
      obtain ⟨ok, q, d1, d2, v1, v2, c1, c2, e1, e2, hq, hy⟩ := line_same s hsz p (by omega) k k' (by omega) (by omega)
      rw [e1, e2]
      simp only [Option.bind_some]
      cases ok with
      | true =>
        obtain ⟨hlt, rfl, rfl, rfl⟩ := hy rfl
        simp only [if_true]
        rw [if_pos (by omega), if_pos (by omega)]
        exact ih (s.size - q) (by omega) q k k' _ (by omega) (by simp; omega) (by omega) (by omega)
      | false =>
        simp only [Bool.false_eq_true, if_false]
        exact ⟨_, _, _, rfl, rfl, by simp⟩
    · rw [if_neg hin, if_neg hin]
      exact ⟨_, _, _, rfl, rfl, by omega⟩
end Go.Proofs.Ytdfndbegifdejaa.GParses
end
section
namespace Go.Proofs.Ytdfndbegifdejaa.PFlowExact
open Go.RowKit Go.Proofs.YtdfndbegifdejaaW.PrintWords Go.Proofs.YtdfndbegifdejaaW.PrintLast Go.Proofs.YtdfndbegifdejaaW.PrintMore
attribute [local go_sem] max2_int min2_int max_two min_two max_three min_three max_four min_four
set_option linter.unusedVariables false
set_option linter.unusedSimpArgs false
def payoffref03_Currency.l0 : Nat → ByteArray → Int → Option (Bool)
 | 0, _, _ => none
 | k + 1, x0, x3 => if x3 < 3 then (if 0 ≤ x3 then (if x3 < (x0.size : Int) then (if (bt x0 x3) < 65 then (some false) else (if (bt x0 x3) > 90 then (some false) else (payoffref03_Currency.l0 k x0 (wrap64 (x3 + 1))))) else (none)) else (none)) else (some true)
def payoffref03_Currency.f (k : Nat) (a0 : ByteArray) : Option (Bool) := if (a0.size : Int) = 3 then (payoffref03_Currency.l0 k a0 0) else (some false)
theorem payoffref03_Currency.mono_l : ∀ k, (∀ y0 y1, LeO (payoffref03_Currency.l0 k y0 y1) (payoffref03_Currency.l0 (k + 1) y0 y1))
 | 0 => fun _ _ r h => by simp [payoffref03_Currency.l0] at h
 | k + 1 => by
  have ih0 := payoffref03_Currency.mono_l k
  ·intro y0 y1
   unfold payoffref03_Currency.l0
   repeat' first
   | (with_reducible exact ih0 _ _)
   | (with_reducible exact LeO.refl _)
   | (with_reducible exact LeO.none _)
   | (with_reducible refine LeO.ite ?_ ?_)
   | (with_reducible refine LeO.bind ?_ (fun _ => ?_))
   | exact ih0 _ _
   | exact LeO.none _
   | refine LeO.ite ?_ ?_
   | refine LeO.bind ?_ (fun _ => ?_)
theorem payoffref03_Currency.mono : ∀ a0 k, LeO (payoffref03_Currency.f k a0) (payoffref03_Currency.f (k + 1) a0) := by
 intro a0 k
 have ih0 := payoffref03_Currency.mono_l k
 unfold payoffref03_Currency.f
 repeat' first
  | (with_reducible exact ih0 _ _)
  | (with_reducible exact LeO.refl _)
  | (with_reducible exact LeO.none _)
  | (with_reducible refine LeO.ite ?_ ?_)
  | (with_reducible refine LeO.bind ?_ (fun _ => ?_))
  | exact ih0 _ _
  | exact LeO.none _
  | refine LeO.ite ?_ ?_
  | refine LeO.bind ?_ (fun _ => ?_)
set_option maxHeartbeats 8000000 in
set_option maxRecDepth 100000 in
theorem payoffref03_Currency.calls (k : Nat) (a0 : ByteArray) (r : Bool) (w : World) (h : payoffref03_Currency.f k a0 = some r) :
  Calls Try.prog 34 #[.string a0] w fun e w' => e = .returned (.bool r) ∧ Drawn0 w w' := by
 have H : (if (a0.size : Int) = 3 then (payoffref03_Currency.l0 k a0 0) else (some false)) = some r := h
 clear h
 by_cases c2 : (a0.size : Int) = 3
 ·rw [if_pos c2] at H
  have c2b0 : ((a0.size : Int) == 3) = true := beq_iff_eq.mpr c2
  have c2b1 : ((a0.size : Int) != 3) = false := bne_eq_false_iff_eq.mpr c2
  clear c2
  have H' := ak H
  clear H
  go_enter Try.func34, Try.ntmps34
  go_wp2
  go_loopg [3] k (fun kq v3 w' => ∃ (x3_1 : Int), v3 = .int .i64 x3_1 ∧ Aside0 (payoffref03_Currency.l0 kq a0 x3_1 = some r) ∧ Aside0 (kq ≤ k) ∧ Drawn0 w w')
  case atStart => exact ⟨(0), (by first | rfl | (simp; done) | (simp [*]; done)), H', ⟨Nat.le_refl _⟩, by repeat (first | exact Drawn0.refl _ | apply Drawn0.step)⟩
  case round =>
   clear H'
   try clear c2
   try clear c2b0
   try clear c2b1
   try clear p2
   obtain ⟨x3_1, rfl, HA, HK1, ⟨m1, rfl⟩⟩ := hrel
   cases gk with
   | zero => exact absurd HA.out (by simp [payoffref03_Currency.l0])
   | succ k1 =>
    have H := HA.out
    clear HA
    simp only [payoffref03_Currency.l0] at H
    by_cases c3 : x3_1 < 3
    ·rw [if_pos c3] at H
     have c3b0 := decide_eq_true c3
     clear c3
     by_cases c4 : 0 ≤ x3_1
     ·rw [if_pos c4] at H
      have c4b0 := decide_eq_true c4
      clear c4
      by_cases c5 : x3_1 < (a0.size : Int)
      ·rw [if_pos c5] at H
       have c5b0 := decide_eq_true c5
       clear c5
       by_cases c7 : (bt a0 x3_1) < 65
       ·rw [if_pos c7] at H
        have c7b0 := decide_eq_true c7
        clear c7
        obtain rfl := Option.some.inj H
        have p6 : 0 ≤ (x3_1 : Int) := of_decide_eq_true (by first | (with_reducible assumption) | assumption)
        have q6 : x3_1 < (a0.size : Int) := of_decide_eq_true (by first | (with_reducible assumption) | assumption)
        have hx6 := bt_at a0 x3_1
        replace p6 := eq_true p6
        replace q6 := eq_true q6
        go_wp2
        go_ret
        exact ⟨by first | rfl | (simp; done) | (simp [*]; done), by repeat (first | exact Drawn0.refl _ | apply Drawn0.step)⟩
       ·rw [if_neg c7] at H
        have c7b0 := decide_eq_false c7
        clear c7
        by_cases c9 : (bt a0 x3_1) > 90
        ·rw [if_pos c9] at H
         have c9b0 := decide_eq_true c9
         clear c9
         obtain rfl := Option.some.inj H
         have p6 : 0 ≤ (x3_1 : Int) := of_decide_eq_true (by first | (with_reducible assumption) | assumption)
         have q6 : x3_1 < (a0.size : Int) := of_decide_eq_true (by first | (with_reducible assumption) | assumption)
         have hx6 := bt_at a0 x3_1
         replace p6 := eq_true p6
         replace q6 := eq_true q6
         have p8 : 0 ≤ (x3_1 : Int) := of_decide_eq_true (by first | (with_reducible assumption) | assumption)
         have q8 : x3_1 < (a0.size : Int) := of_decide_eq_true (by first | (with_reducible assumption) | assumption)
         have hx8 := bt_at a0 x3_1
         replace p8 := eq_true p8
         replace q8 := eq_true q8
         go_wp2
         go_ret
         exact ⟨by first | rfl | (simp; done) | (simp [*]; done), by repeat (first | exact Drawn0.refl _ | apply Drawn0.step)⟩
        ·rw [if_neg c9] at H
         have c9b0 := decide_eq_false c9
         clear c9
         have H' := ak H
         clear H
         have p6 : 0 ≤ (x3_1 : Int) := of_decide_eq_true (by first | (with_reducible assumption) | assumption)
         have q6 : x3_1 < (a0.size : Int) := of_decide_eq_true (by first | (with_reducible assumption) | assumption)
         have hx6 := bt_at a0 x3_1
         replace p6 := eq_true p6
         replace q6 := eq_true q6
         have p8 : 0 ≤ (x3_1 : Int) := of_decide_eq_true (by first | (with_reducible assumption) | assumption)
         have q8 : x3_1 < (a0.size : Int) := of_decide_eq_true (by first | (with_reducible assumption) | assumption)
         have hx8 := bt_at a0 x3_1
         replace p8 := eq_true p8
         replace q8 := eq_true q8
         go_wp2
         go_roundg k1
         case measure => have := HK1.out; omega
         case rel => exact ⟨(wrap64 (x3_1 + 1)), (by first | rfl | (simp; done) | (simp [*]; done)), H', ⟨by have := HK1.out; omega⟩, by repeat (first | exact Drawn0.refl _ | apply Drawn0.step)⟩
      ·rw [if_neg c5] at H
       exact absurd H (by simp)
     ·rw [if_neg c4] at H
      exact absurd H (by simp)
    ·rw [if_neg c3] at H
     have c3b0 := decide_eq_false c3
     clear c3
     obtain rfl := Option.some.inj H
     go_wp2
     go_ret
     exact ⟨by first | rfl | (simp; done) | (simp [*]; done), by repeat (first | exact Drawn0.refl _ | apply Drawn0.step)⟩
 ·rw [if_neg c2] at H
  have c2b0 : ((a0.size : Int) == 3) = false := beq_eq_false_iff_ne.mpr c2
  have c2b1 : ((a0.size : Int) != 3) = true := bne_iff_ne.mpr c2
  obtain rfl := Option.some.inj H
  go_enter Try.func34, Try.ntmps34
  go_wp2
  go_ret
  exact ⟨by first | rfl | (simp; done) | (simp [*]; done), by repeat (first | exact Drawn0.refl _ | apply Drawn0.step)⟩
def payoffref03_Valid.f (k : Nat) (a0_0 : Int) (a0_1 : ByteArray) (a0_2 : Int) : Option (Int) := (payoffref03_Currency.f k a0_1).bind fun t284 => (if t284 = true then (if a0_0 < 0 then (some 2) else (if a0_0 > 1073741824 then (some 2) else (some 0))) else (some 1))
theorem payoffref03_Valid.mono : ∀ a0 a1 a2 k, LeO (payoffref03_Valid.f k a0 a1 a2) (payoffref03_Valid.f (k + 1) a0 a1 a2) := by
 intro a0 a1 a2 k
 unfold payoffref03_Valid.f
 repeat' first
  | (with_reducible exact payoffref03_Currency.mono _ _)
  | (with_reducible exact LeO.refl _)
  | (with_reducible exact LeO.none _)
  | (with_reducible refine LeO.ite ?_ ?_)
  | (with_reducible refine LeO.bind ?_ (fun _ => ?_))
  | exact payoffref03_Currency.mono _ _
  | exact LeO.none _
  | refine LeO.ite ?_ ?_
  | refine LeO.bind ?_ (fun _ => ?_)
set_option maxHeartbeats 8000000 in
set_option maxRecDepth 100000 in
theorem payoffref03_Valid.calls (k : Nat) (a0_0 : Int) (a0_1 : ByteArray) (a0_2 : Int) (r : Int) (w : World) (h : payoffref03_Valid.f k a0_0 a0_1 a0_2 = some r) :
  Calls Try.prog 17 #[.agg #[.int .i64 a0_0, .string a0_1, .int .i64 a0_2]] w fun e w' => e = .returned (.int .i64 r) ∧ Below w.heap.size w w' := by
 have hu32 := Try.underlying32
 have HB := ak (Below.refl w.heap.size w)
 have H : ((payoffref03_Currency.f k a0_1).bind fun t284 => (if t284 = true then (if a0_0 < 0 then (some 2) else (if a0_0 > 1073741824 then (some 2) else (some 0))) else (some 1))) = some r := h
 clear h
 replace H := Option.bind_eq_some_iff.mp H
 obtain ⟨t284, A20, H⟩ := H
 replace H : (if t284 = true then (if a0_0 < 0 then (some 2) else (if a0_0 > 1073741824 then (some 2) else (some 0))) else (some 1)) = some r := H
 have A2 := ak A20
 clear A20
 by_cases c3 : t284 = true
 ·subst c3
  have H1 : (if a0_0 < 0 then (some 2) else (if a0_0 > 1073741824 then (some 2) else (some 0))) = some r := by rw [if_pos rfl] at H; exact H
  clear H
  have H := H1
  clear H1
  by_cases c4 : a0_0 < 0
  ·rw [if_pos c4] at H
   have c4b0 := decide_eq_true c4
   clear c4
   obtain rfl := Option.some.inj H
   go_enter Try.func17, Try.ntmps17
   go_wp2_with (first | ((with_reducible refine gate_dst (N := 1) rfl ?_); refine box_event ?hg (N := 1) ?hd (cs := #[.int .i64 a0_0, .string a0_1, .int .i64 a0_2]) (t := 32) ?hr ?_; (case hd => rfl); (case hg => rfl); (case hr => first | (go_simp; done) | (go_simp; rfl)); intro gb283 hg w5 hbox hb; have BK283 := ak (hbox); have GW283 := ak ((by rw [hg]; exact (below_size (by repeat (first | (with_reducible first | exact HB.out | apply below_alloc | apply pw_below_drewN | apply below_drew1) | exact HB.out))) : w.heap.size ≤ gb283)); have GE283 := ak ((by rw [hg]; exact (below_size (by repeat (first | (with_reducible first | exact HB.out | apply below_alloc | apply pw_below_drewN | apply below_drew1) | exact HB.out))) : w.heap.size ≤ gb283)); replace HB := ak (below_step (by repeat (first | (with_reducible first | exact HB.out | apply below_alloc | apply pw_below_drewN | apply below_drew1) | exact HB.out)) hb); clear hb hbox hg; have hcz6_0 : w5.cell? ⟨gb283, 0, none⟩ = some (.int .i64 a0_0) := (blk_cell BK283.out 0).trans rfl; have hcz6_1 : w5.cell? ⟨gb283, 1, none⟩ = some (.string a0_1) := (blk_cell BK283.out 1).trans rfl; have hcz6_2 : w5.cell? ⟨gb283, 2, none⟩ = some (.int .i64 a0_2) := (blk_cell BK283.out 2).trans rfl; have hfz6_0 := blk_frozen BK283.out 0; have hfz6_1 := blk_frozen BK283.out 1; have hfz6_2 := blk_frozen BK283.out 2) | ((with_reducible refine gate_callee (f := 34) rfl ?_); refine goesL_ (some 5) rfl rfl Try.func34 (by kernel_rfl) rfl #[.string a0_1] rfl (by (try simp only [List.map_toArray, List.map_cons, List.map_nil]); first | done | rfl | (simp only [List.length_drop, List.length_take]; rfl)) ?_; (with_reducible refine (payoffref03_Currency.calls k a0_1 true _ A2.out).mono ?_); rintro e w' ⟨rfl, ⟨nd, rfl⟩⟩; refine ⟨_, rfl, ?_⟩))
   go_ret
   exact ⟨by first | rfl | (simp [errW_none, errW_some] <;> rfl) | (simp [*, errW_none, errW_some] <;> rfl), by repeat (first | (with_reducible first | exact HB.out | apply below_alloc | apply pw_below_drewN | apply below_drew1 | refine below_set ?_ GE283.out) | exact HB.out)⟩
  ·rw [if_neg c4] at H
   have c4b0 := decide_eq_false c4
   clear c4
   by_cases c7 : a0_0 > 1073741824
   ·rw [if_pos c7] at H
    have c7b0 := decide_eq_true c7
    clear c7
    obtain rfl := Option.some.inj H
    go_enter Try.func17, Try.ntmps17
    go_wp2_with (first | ((with_reducible refine gate_dst (N := 1) rfl ?_); refine box_event ?hg (N := 1) ?hd (cs := #[.int .i64 a0_0, .string a0_1, .int .i64 a0_2]) (t := 32) ?hr ?_; (case hd => rfl); (case hg => rfl); (case hr => first | (go_simp; done) | (go_simp; rfl)); intro gb283 hg w8 hbox hb; have BK283 := ak (hbox); have GW283 := ak ((by rw [hg]; exact (below_size (by repeat (first | (with_reducible first | exact HB.out | apply below_alloc | apply pw_below_drewN | apply below_drew1) | exact HB.out))) : w.heap.size ≤ gb283)); have GE283 := ak ((by rw [hg]; exact (below_size (by repeat (first | (with_reducible first | exact HB.out | apply below_alloc | apply pw_below_drewN | apply below_drew1) | exact HB.out))) : w.heap.size ≤ gb283)); replace HB := ak (below_step (by repeat (first | (with_reducible first | exact HB.out | apply below_alloc | apply pw_below_drewN | apply below_drew1) | exact HB.out)) hb); clear hb hbox hg; have hcz9_0 : w8.cell? ⟨gb283, 0, none⟩ = some (.int .i64 a0_0) := (blk_cell BK283.out 0).trans rfl; have hcz9_1 : w8.cell? ⟨gb283, 1, none⟩ = some (.string a0_1) := (blk_cell BK283.out 1).trans rfl; have hcz9_2 : w8.cell? ⟨gb283, 2, none⟩ = some (.int .i64 a0_2) := (blk_cell BK283.out 2).trans rfl; have hfz9_0 := blk_frozen BK283.out 0; have hfz9_1 := blk_frozen BK283.out 1; have hfz9_2 := blk_frozen BK283.out 2) | ((with_reducible refine gate_callee (f := 34) rfl ?_); refine goesL_ (some 5) rfl rfl Try.func34 (by kernel_rfl) rfl #[.string a0_1] rfl (by (try simp only [List.map_toArray, List.map_cons, List.map_nil]); first | done | rfl | (simp only [List.length_drop, List.length_take]; rfl)) ?_; (with_reducible refine (payoffref03_Currency.calls k a0_1 true _ A2.out).mono ?_); rintro e w' ⟨rfl, ⟨nd, rfl⟩⟩; refine ⟨_, rfl, ?_⟩))
    go_ret
    exact ⟨by first | rfl | (simp [errW_none, errW_some] <;> rfl) | (simp [*, errW_none, errW_some] <;> rfl), by repeat (first | (with_reducible first | exact HB.out | apply below_alloc | apply pw_below_drewN | apply below_drew1 | refine below_set ?_ GE283.out) | exact HB.out)⟩
   ·rw [if_neg c7] at H
    have c7b0 := decide_eq_false c7
    clear c7
    obtain rfl := Option.some.inj H
    go_enter Try.func17, Try.ntmps17
    go_wp2_with (first | ((with_reducible refine gate_dst (N := 1) rfl ?_); refine box_event ?hg (N := 1) ?hd (cs := #[.int .i64 a0_0, .string a0_1, .int .i64 a0_2]) (t := 32) ?hr ?_; (case hd => rfl); (case hg => rfl); (case hr => first | (go_simp; done) | (go_simp; rfl)); intro gb283 hg w10 hbox hb; have BK283 := ak (hbox); have GW283 := ak ((by rw [hg]; exact (below_size (by repeat (first | (with_reducible first | exact HB.out | apply below_alloc | apply pw_below_drewN | apply below_drew1) | exact HB.out))) : w.heap.size ≤ gb283)); have GE283 := ak ((by rw [hg]; exact (below_size (by repeat (first | (with_reducible first | exact HB.out | apply below_alloc | apply pw_below_drewN | apply below_drew1) | exact HB.out))) : w.heap.size ≤ gb283)); replace HB := ak (below_step (by repeat (first | (with_reducible first | exact HB.out | apply below_alloc | apply pw_below_drewN | apply below_drew1) | exact HB.out)) hb); clear hb hbox hg; have hcz11_0 : w10.cell? ⟨gb283, 0, none⟩ = some (.int .i64 a0_0) := (blk_cell BK283.out 0).trans rfl; have hcz11_1 : w10.cell? ⟨gb283, 1, none⟩ = some (.string a0_1) := (blk_cell BK283.out 1).trans rfl; have hcz11_2 : w10.cell? ⟨gb283, 2, none⟩ = some (.int .i64 a0_2) := (blk_cell BK283.out 2).trans rfl; have hfz11_0 := blk_frozen BK283.out 0; have hfz11_1 := blk_frozen BK283.out 1; have hfz11_2 := blk_frozen BK283.out 2) | ((with_reducible refine gate_callee (f := 34) rfl ?_); refine goesL_ (some 5) rfl rfl Try.func34 (by kernel_rfl) rfl #[.string a0_1] rfl (by (try simp only [List.map_toArray, List.map_cons, List.map_nil]); first | done | rfl | (simp only [List.length_drop, List.length_take]; rfl)) ?_; (with_reducible refine (payoffref03_Currency.calls k a0_1 true _ A2.out).mono ?_); rintro e w' ⟨rfl, ⟨nd, rfl⟩⟩; refine ⟨_, rfl, ?_⟩))
    go_ret
    exact ⟨by first | rfl | (simp [errW_none, errW_some] <;> rfl) | (simp [*, errW_none, errW_some] <;> rfl), by repeat (first | (with_reducible first | exact HB.out | apply below_alloc | apply pw_below_drewN | apply below_drew1 | refine below_set ?_ GE283.out) | exact HB.out)⟩
 ·replace c3 := Bool.eq_false_iff.mpr c3
  subst c3
  have H1 : (some 1) = some r := by rw [if_neg (show ¬ (false = true) by decide)] at H; exact H
  clear H
  have H := H1
  clear H1
  obtain rfl := Option.some.inj H
  go_enter Try.func17, Try.ntmps17
  go_wp2_with (first | ((with_reducible refine gate_dst (N := 1) rfl ?_); refine box_event ?hg (N := 1) ?hd (cs := #[.int .i64 a0_0, .string a0_1, .int .i64 a0_2]) (t := 32) ?hr ?_; (case hd => rfl); (case hg => rfl); (case hr => first | (go_simp; done) | (go_simp; rfl)); intro gb283 hg w12 hbox hb; have BK283 := ak (hbox); have GW283 := ak ((by rw [hg]; exact (below_size (by repeat (first | (with_reducible first | exact HB.out | apply below_alloc | apply pw_below_drewN | apply below_drew1) | exact HB.out))) : w.heap.size ≤ gb283)); have GE283 := ak ((by rw [hg]; exact (below_size (by repeat (first | (with_reducible first | exact HB.out | apply below_alloc | apply pw_below_drewN | apply below_drew1) | exact HB.out))) : w.heap.size ≤ gb283)); replace HB := ak (below_step (by repeat (first | (with_reducible first | exact HB.out | apply below_alloc | apply pw_below_drewN | apply below_drew1) | exact HB.out)) hb); clear hb hbox hg; have hcz13_0 : w12.cell? ⟨gb283, 0, none⟩ = some (.int .i64 a0_0) := (blk_cell BK283.out 0).trans rfl; have hcz13_1 : w12.cell? ⟨gb283, 1, none⟩ = some (.string a0_1) := (blk_cell BK283.out 1).trans rfl; have hcz13_2 : w12.cell? ⟨gb283, 2, none⟩ = some (.int .i64 a0_2) := (blk_cell BK283.out 2).trans rfl; have hfz13_0 := blk_frozen BK283.out 0; have hfz13_1 := blk_frozen BK283.out 1; have hfz13_2 := blk_frozen BK283.out 2) | ((with_reducible refine gate_callee (f := 34) rfl ?_); refine goesL_ (some 5) rfl rfl Try.func34 (by kernel_rfl) rfl #[.string a0_1] rfl (by (try simp only [List.map_toArray, List.map_cons, List.map_nil]); first | done | rfl | (simp only [List.length_drop, List.length_take]; rfl)) ?_; (with_reducible refine (payoffref03_Currency.calls k a0_1 false _ A2.out).mono ?_); rintro e w' ⟨rfl, ⟨nd, rfl⟩⟩; refine ⟨_, rfl, ?_⟩))
  go_ret
  exact ⟨by first | rfl | (simp [errW_none, errW_some] <;> rfl) | (simp [*, errW_none, errW_some] <;> rfl), by repeat (first | (with_reducible first | exact HB.out | apply below_alloc | apply pw_below_drewN | apply below_drew1 | refine below_set ?_ GE283.out) | exact HB.out)⟩
def payoffref03_Digits.l0 : Nat → Int → ByteArray → Int → Option (ByteArray)
 | 0, _, _, _ => none
 | k + 1, x0, x3, x4 => if x4 = 0 then (if x0 < 0 then (if 1 + x3.size ≤ 9223372036854775807 then (some ((⟨#[45]⟩ : ByteArray) ++ x3)) else (none)) else (some x3)) else (if (Int.tmod x4 10) < 0 then ((some (([(wrap64 (48 + (wrap64 (-(Int.tmod x4 10))))) % 256] : List Int) : List Int)).bind fun y285 => (if (strOfNums y285).size + x3.size ≤ 9223372036854775807 then (payoffref03_Digits.l0 k x0 ((strOfNums y285) ++ x3) (wrap64 (Int.tdiv x4 10))) else (none))) else ((some (([(wrap64 (48 + (Int.tmod x4 10))) % 256] : List Int) : List Int)).bind fun y288 => (if (strOfNums y288).size + x3.size ≤ 9223372036854775807 then (payoffref03_Digits.l0 k x0 ((strOfNums y288) ++ x3) (wrap64 (Int.tdiv x4 10))) else (none))))
def payoffref03_Digits.f (k : Nat) (a0 : Int) : Option (ByteArray) := if a0 = 0 then (some (⟨#[48]⟩ : ByteArray)) else (payoffref03_Digits.l0 k a0 (⟨#[]⟩ : ByteArray) a0)
theorem payoffref03_Digits.mono_l : ∀ k, (∀ y0 y1 y2, LeO (payoffref03_Digits.l0 k y0 y1 y2) (payoffref03_Digits.l0 (k + 1) y0 y1 y2))
 | 0 => fun _ _ _ r h => by simp [payoffref03_Digits.l0] at h
 | k + 1 => by
  have ih0 := payoffref03_Digits.mono_l k
  ·intro y0 y1 y2
   unfold payoffref03_Digits.l0
   repeat' first
   | (with_reducible exact ih0 _ _ _)
   | (with_reducible exact LeO.refl _)
   | (with_reducible exact LeO.none _)
   | (with_reducible refine LeO.ite ?_ ?_)
   | (with_reducible refine LeO.bind ?_ (fun _ => ?_))
   | exact ih0 _ _ _
   | exact LeO.none _
   | refine LeO.ite ?_ ?_
   | refine LeO.bind ?_ (fun _ => ?_)
theorem payoffref03_Digits.mono : ∀ a0 k, LeO (payoffref03_Digits.f k a0) (payoffref03_Digits.f (k + 1) a0) := by
 intro a0 k
 have ih0 := payoffref03_Digits.mono_l k
 unfold payoffref03_Digits.f
 repeat' first
  | (with_reducible exact ih0 _ _ _)
  | (with_reducible exact LeO.refl _)
  | (with_reducible exact LeO.none _)
  | (with_reducible refine LeO.ite ?_ ?_)
  | (with_reducible refine LeO.bind ?_ (fun _ => ?_))
  | exact ih0 _ _ _
  | exact LeO.none _
  | refine LeO.ite ?_ ?_
  | refine LeO.bind ?_ (fun _ => ?_)
set_option maxHeartbeats 8000000 in
set_option maxRecDepth 100000 in
theorem payoffref03_Digits.calls (k : Nat) (a0 : Int) (r : ByteArray) (w : World) (h : payoffref03_Digits.f k a0 = some r) :
  Calls Try.prog 73 #[.int .i64 a0] w fun e w' => e = .returned (.string r) ∧ Below w.heap.size w w' := by
 have HB := ak (Below.refl w.heap.size w)
 have H : (if a0 = 0 then (some (⟨#[48]⟩ : ByteArray)) else (payoffref03_Digits.l0 k a0 (⟨#[]⟩ : ByteArray) a0)) = some r := h
 clear h
 by_cases c2 : a0 = 0
 ·rw [if_pos c2] at H
  have c2b0 : (a0 == 0) = true := beq_iff_eq.mpr c2
  have c2b1 : (a0 != 0) = false := bne_eq_false_iff_eq.mpr c2
  clear c2
  obtain rfl := Option.some.inj H
  go_enter Try.func73, Try.ntmps73
  go_wp2
  go_ret
  exact ⟨by first | rfl | (simp [errW_none, errW_some] <;> rfl) | (simp [*, errW_none, errW_some] <;> rfl), by repeat (first | (with_reducible first | exact HB.out | apply below_alloc | apply pw_below_drewN | apply below_drew1) | exact HB.out)⟩
 ·rw [if_neg c2] at H
  have c2b0 : (a0 == 0) = false := beq_eq_false_iff_ne.mpr c2
  have c2b1 : (a0 != 0) = true := bne_iff_ne.mpr c2
  have H' := ak H
  clear H
  go_enter Try.func73, Try.ntmps73
  go_wp2
  go_loopg [3, 4] k (fun kq v3 v4 w' => ∃ (x3_1 : ByteArray) (x4_1 : Int), v3 = .string x3_1 ∧ v4 = .int .i64 x4_1 ∧ Aside0 (payoffref03_Digits.l0 kq a0 x3_1 x4_1 = some r) ∧ Aside0 (kq ≤ k) ∧ Aside0 (Below w.heap.size w w'))
  case atStart => exact ⟨((⟨#[]⟩ : ByteArray)), (a0), (by first | rfl | (simp; done) | (simp [*]; done)), (by first | rfl | (simp; done) | (simp [*]; done)), H', ⟨Nat.le_refl _⟩, ⟨by repeat (first | (with_reducible first | exact HB.out | apply below_alloc | apply pw_below_drewN | apply below_drew1) | exact HB.out)⟩⟩
  case round =>
   clear H'
   try clear c2
   try clear c2b0
   try clear c2b1
   try clear p2
   obtain ⟨x3_1, x4_1, rfl, rfl, HA, HK1, HB⟩ := hrel
   cases gk with
   | zero => exact absurd HA.out (by simp [payoffref03_Digits.l0])
   | succ k1 =>
    have H := HA.out
    clear HA
    simp only [payoffref03_Digits.l0] at H
    by_cases c3 : x4_1 = 0
    ·rw [if_pos c3] at H
     have c3b0 : (x4_1 == 0) = true := beq_iff_eq.mpr c3
     have c3b1 : (x4_1 != 0) = false := bne_eq_false_iff_eq.mpr c3
     clear c3
     by_cases c4 : a0 < 0
     ·rw [if_pos c4] at H
      have c4b0 := decide_eq_true c4
      clear c4
      by_cases c5 : 1 + x3_1.size ≤ 9223372036854775807
      ·rw [if_pos c5] at H
       have c5b0 := eq_true c5
       have c5b1 := decide_eq_true c5
       try have c5b2 : (9223372036854775807 < 1 + x3_1.size) = False := eq_false (Nat.not_lt.2 c5)
       obtain rfl := Option.some.inj H
       go_wp2
       go_ret
       exact ⟨by first | rfl | (simp [errW_none, errW_some] <;> rfl) | (simp [*, errW_none, errW_some] <;> rfl), by repeat (first | (with_reducible first | exact HB.out | apply below_alloc | apply pw_below_drewN | apply below_drew1) | exact HB.out)⟩
      ·rw [if_neg c5] at H
       exact absurd H (by simp)
     ·rw [if_neg c4] at H
      have c4b0 := decide_eq_false c4
      clear c4
      obtain rfl := Option.some.inj H
      go_wp2
      go_ret
      exact ⟨by first | rfl | (simp [errW_none, errW_some] <;> rfl) | (simp [*, errW_none, errW_some] <;> rfl), by repeat (first | (with_reducible first | exact HB.out | apply below_alloc | apply pw_below_drewN | apply below_drew1) | exact HB.out)⟩
    ·rw [if_neg c3] at H
     have c3b0 : (x4_1 == 0) = false := beq_eq_false_iff_ne.mpr c3
     have c3b1 : (x4_1 != 0) = true := bne_iff_ne.mpr c3
     by_cases c6 : (Int.tmod x4_1 10) < 0
     ·rw [if_pos c6] at H
      have c6b0 := decide_eq_true c6
      clear c6
      obtain ⟨y285, hy285⟩ : ∃ y_ : List Int, y_ = (([(wrap64 (48 + (wrap64 (-(Int.tmod x4_1 10))))) % 256] : List Int)) := ⟨_, rfl⟩
      replace H : (if (strOfNums y285).size + x3_1.size ≤ 9223372036854775807 then (payoffref03_Digits.l0 k1 a0 ((strOfNums y285) ++ x3_1) (wrap64 (Int.tdiv x4_1 10))) else (none)) = some r := by first | (rw [hy285]; with_reducible exact H) | (have H2_ := (Option.bind_some _ _).symm.trans H; rw [hy285]; with_reducible exact H2_) | (have H2_ := (Option.bind_some _ _).symm.trans H; with_reducible exact H2_) | with_reducible exact H | (rw [hy285]; exact H) | exact H
      have Ny285 := ak hy285
      clear hy285
      by_cases c7 : (strOfNums y285).size + x3_1.size ≤ 9223372036854775807
      ·rw [if_pos c7] at H
       have c7b0 := eq_true c7
       have c7b1 := decide_eq_true c7
       try have c7b2 : (9223372036854775807 < (strOfNums y285).size + x3_1.size) = False := eq_false (Nat.not_lt.2 c7)
       have H' := ak H
       clear H
       go_wp2_with (first | ((with_reducible refine gate_dst (N := 20) rfl ?_); refine Kd.R_lit (Kd.int .u8) _ 5 ?hg (N := 20) ?hd (xs := ([(wrap64 (48 + (wrap64 (-(Int.tmod x4_1 10))))) % 256] : List Int)) (inner := [.int .u8 ((wrap64 (48 + (wrap64 (-(Int.tmod x4_1 10))))) % 256)]) (ok := fun _ => True) (okp := fun _ => True) ?hr ?hp (fun _ hk => hk) trivial (Below.refl _ _) (Nat.le_refl _) (by simp) ?_; (case hd => rfl); (case hg => rfl); (case hr => first | (go_simp; done) | (go_simp; rfl)); (case hp => exact (Reps.one (show Kd.M (Kd.int .u8) _ _ _ ((wrap64 (48 + (wrap64 (-(Int.tmod x4_1 10))))) % 256) [.int .u8 ((wrap64 (48 + (wrap64 (-(Int.tmod x4_1 10))))) % 256)] from rfl) (Reps.none _ _))); intro v286 w8 ho9 hb hg_ hnew_; clear hg_ hnew_; (first | rw [← Ny285.out] at ho9 | (simp only [Int.reduceToNat] at ho9; rw [← Ny285.out] at ho9)); have HO287 := ak (Kd.R_lower ho9 (below_size (by repeat (first | (with_reducible first | exact HB.out | apply below_alloc | apply pw_below_drewN | apply below_drew1) | exact HB.out)))); replace HB := ak (below_step (by repeat (first | (with_reducible first | exact HB.out | apply below_alloc | apply pw_below_drewN | apply below_drew1) | exact HB.out)) hb); clear hb ho9; have hcv10 := own_string (P := Try.prog) Try.underlying109 Try.underlying5 Try.underlying9 (Kd.own_of_R HO287.out)))
       go_roundg k1
       case measure => have := HK1.out; omega
       case rel => exact ⟨((strOfNums y285) ++ x3_1), (wrap64 (Int.tdiv x4_1 10)), (by first | rfl | (simp; done) | (simp [*]; done)), (by first | rfl | (simp; done) | (simp [*]; done)), H', ⟨by have := HK1.out; omega⟩, ⟨by repeat (first | (with_reducible first | exact HB.out | apply below_alloc | apply pw_below_drewN | apply below_drew1) | exact HB.out)⟩⟩
      ·rw [if_neg c7] at H
       exact absurd H (by simp)
     ·rw [if_neg c6] at H
      have c6b0 := decide_eq_false c6
      clear c6
      obtain ⟨y288, hy288⟩ : ∃ y_ : List Int, y_ = (([(wrap64 (48 + (Int.tmod x4_1 10))) % 256] : List Int)) := ⟨_, rfl⟩
      replace H : (if (strOfNums y288).size + x3_1.size ≤ 9223372036854775807 then (payoffref03_Digits.l0 k1 a0 ((strOfNums y288) ++ x3_1) (wrap64 (Int.tdiv x4_1 10))) else (none)) = some r := by first | (rw [hy288]; with_reducible exact H) | (have H2_ := (Option.bind_some _ _).symm.trans H; rw [hy288]; with_reducible exact H2_) | (have H2_ := (Option.bind_some _ _).symm.trans H; with_reducible exact H2_) | with_reducible exact H | (rw [hy288]; exact H) | exact H
      have Ny288 := ak hy288
      clear hy288
      by_cases c11 : (strOfNums y288).size + x3_1.size ≤ 9223372036854775807
      ·rw [if_pos c11] at H
       have c11b0 := eq_true c11
       have c11b1 := decide_eq_true c11
       try have c11b2 : (9223372036854775807 < (strOfNums y288).size + x3_1.size) = False := eq_false (Nat.not_lt.2 c11)
       have H' := ak H
       clear H
       go_wp2_with (first | ((with_reducible refine gate_dst (N := 20) rfl ?_); refine Kd.R_lit (Kd.int .u8) _ 5 ?hg (N := 20) ?hd (xs := ([(wrap64 (48 + (Int.tmod x4_1 10))) % 256] : List Int)) (inner := [.int .u8 ((wrap64 (48 + (Int.tmod x4_1 10))) % 256)]) (ok := fun _ => True) (okp := fun _ => True) ?hr ?hp (fun _ hk => hk) trivial (Below.refl _ _) (Nat.le_refl _) (by simp) ?_; (case hd => rfl); (case hg => rfl); (case hr => first | (go_simp; done) | (go_simp; rfl)); (case hp => exact (Reps.one (show Kd.M (Kd.int .u8) _ _ _ ((wrap64 (48 + (Int.tmod x4_1 10))) % 256) [.int .u8 ((wrap64 (48 + (Int.tmod x4_1 10))) % 256)] from rfl) (Reps.none _ _))); intro v289 w12 ho13 hb hg_ hnew_; clear hg_ hnew_; (first | rw [← Ny288.out] at ho13 | (simp only [Int.reduceToNat] at ho13; rw [← Ny288.out] at ho13)); have HO290 := ak (Kd.R_lower ho13 (below_size (by repeat (first | (with_reducible first | exact HB.out | apply below_alloc | apply pw_below_drewN | apply below_drew1) | exact HB.out)))); replace HB := ak (below_step (by repeat (first | (with_reducible first | exact HB.out | apply below_alloc | apply pw_below_drewN | apply below_drew1) | exact HB.out)) hb); clear hb ho13; have hcv14 := own_string (P := Try.prog) Try.underlying109 Try.underlying5 Try.underlying9 (Kd.own_of_R HO290.out)))
       go_roundg k1
       case measure => have := HK1.out; omega
       case rel => exact ⟨((strOfNums y288) ++ x3_1), (wrap64 (Int.tdiv x4_1 10)), (by first | rfl | (simp; done) | (simp [*]; done)), (by first | rfl | (simp; done) | (simp [*]; done)), H', ⟨by have := HK1.out; omega⟩, ⟨by repeat (first | (with_reducible first | exact HB.out | apply below_alloc | apply pw_below_drewN | apply below_drew1) | exact HB.out)⟩⟩
      ·rw [if_neg c11] at H
       exact absurd H (by simp)
def payoffref03_Line.f (k : Nat) (a0_0 : Int) (a0_1 : ByteArray) (a0_2 : Int) : Option (ByteArray) := (payoffref03_Digits.f k a0_0).bind fun t292 => (if t292.size + 1 ≤ 9223372036854775807 then (if (t292 ++ (⟨#[32]⟩ : ByteArray)).size + a0_1.size ≤ 9223372036854775807 then (if ((t292 ++ (⟨#[32]⟩ : ByteArray)) ++ a0_1).size + 1 ≤ 9223372036854775807 then ((payoffref03_Digits.f k a0_2).bind fun t293 => (if (((t292 ++ (⟨#[32]⟩ : ByteArray)) ++ a0_1) ++ (⟨#[32]⟩ : ByteArray)).size + t293.size ≤ 9223372036854775807 then (if ((((t292 ++ (⟨#[32]⟩ : ByteArray)) ++ a0_1) ++ (⟨#[32]⟩ : ByteArray)) ++ t293).size + 1 ≤ 9223372036854775807 then (some (((((t292 ++ (⟨#[32]⟩ : ByteArray)) ++ a0_1) ++ (⟨#[32]⟩ : ByteArray)) ++ t293) ++ (⟨#[10]⟩ : ByteArray))) else (none)) else (none))) else (none)) else (none)) else (none))
theorem payoffref03_Line.mono : ∀ a0 a1 a2 k, LeO (payoffref03_Line.f k a0 a1 a2) (payoffref03_Line.f (k + 1) a0 a1 a2) := by
 intro a0 a1 a2 k
 unfold payoffref03_Line.f
 repeat' first
  | (with_reducible exact payoffref03_Digits.mono _ _)
  | (with_reducible exact LeO.refl _)
  | (with_reducible exact LeO.none _)
  | (with_reducible refine LeO.ite ?_ ?_)
  | (with_reducible refine LeO.bind ?_ (fun _ => ?_))
  | exact payoffref03_Digits.mono _ _
  | exact LeO.none _
  | refine LeO.ite ?_ ?_
  | refine LeO.bind ?_ (fun _ => ?_)
def payoffref03_Line.T1 : Bool × List (List Nat × List Nat) := (true, [([], []), ([0], [0]), ([1], [1]), ([2], [2]), ([], []), ([4], [4]), ([3, 5], [3, 5]), ([6], [6]), ([], []), ([8], [8]), ([9, 2], [9]), ([7, 10], [7, 10]), ([11], [11]), ([12, 10, 0, 1, 2, 3, 4, 5, 6, 7, 8, 9, 10, 11, 12], [12])])
def payoffref03_Line.B1 : List Nat := [0, 1, 3, 7, 0, 16, 63, 127, 0, 256, 775, 2047, 4095, 8191]
theorem payoffref03_Line.tab1 : rtab .any (opsOf Try.f64 1) = payoffref03_Line.T1 := by kernel_rfl
theorem payoffref03_Line.bits1 : waitsOk payoffref03_Line.T1.2 payoffref03_Line.B1 = true := by kernel_rfl
set_option maxHeartbeats 8000000 in
set_option maxRecDepth 100000 in
theorem payoffref03_Line.calls (k : Nat) (a0_0 : Int) (a0_1 : ByteArray) (a0_2 : Int) (r : ByteArray) (w : World) (h : payoffref03_Line.f k a0_0 a0_1 a0_2 = some r) :
  Calls Try.prog 64 #[.agg #[.int .i64 a0_0, .string a0_1, .int .i64 a0_2]] w fun e w' => e = .returned (.string r) ∧ Below w.heap.size w w' := by
 have hu32 := Try.underlying32
 have HB := ak (Below.refl w.heap.size w)
 have H : ((payoffref03_Digits.f k a0_0).bind fun t292 => (if t292.size + 1 ≤ 9223372036854775807 then (if (t292 ++ (⟨#[32]⟩ : ByteArray)).size + a0_1.size ≤ 9223372036854775807 then (if ((t292 ++ (⟨#[32]⟩ : ByteArray)) ++ a0_1).size + 1 ≤ 9223372036854775807 then ((payoffref03_Digits.f k a0_2).bind fun t293 => (if (((t292 ++ (⟨#[32]⟩ : ByteArray)) ++ a0_1) ++ (⟨#[32]⟩ : ByteArray)).size + t293.size ≤ 9223372036854775807 then (if ((((t292 ++ (⟨#[32]⟩ : ByteArray)) ++ a0_1) ++ (⟨#[32]⟩ : ByteArray)) ++ t293).size + 1 ≤ 9223372036854775807 then (some (((((t292 ++ (⟨#[32]⟩ : ByteArray)) ++ a0_1) ++ (⟨#[32]⟩ : ByteArray)) ++ t293) ++ (⟨#[10]⟩ : ByteArray))) else (none)) else (none))) else (none)) else (none)) else (none))) = some r := h
 clear h
 replace H := Option.bind_eq_some_iff.mp H
 obtain ⟨t292, A20, H⟩ := H
 replace H : (if t292.size + 1 ≤ 9223372036854775807 then (if (t292 ++ (⟨#[32]⟩ : ByteArray)).size + a0_1.size ≤ 9223372036854775807 then (if ((t292 ++ (⟨#[32]⟩ : ByteArray)) ++ a0_1).size + 1 ≤ 9223372036854775807 then ((payoffref03_Digits.f k a0_2).bind fun t293 => (if (((t292 ++ (⟨#[32]⟩ : ByteArray)) ++ a0_1) ++ (⟨#[32]⟩ : ByteArray)).size + t293.size ≤ 9223372036854775807 then (if ((((t292 ++ (⟨#[32]⟩ : ByteArray)) ++ a0_1) ++ (⟨#[32]⟩ : ByteArray)) ++ t293).size + 1 ≤ 9223372036854775807 then (some (((((t292 ++ (⟨#[32]⟩ : ByteArray)) ++ a0_1) ++ (⟨#[32]⟩ : ByteArray)) ++ t293) ++ (⟨#[10]⟩ : ByteArray))) else (none)) else (none))) else (none)) else (none)) else (none)) = some r := H
 have A2 := ak A20
 clear A20
 by_cases c3 : t292.size + 1 ≤ 9223372036854775807
 ·rw [if_pos c3] at H
  have c3b0 := eq_true c3
  have c3b1 := decide_eq_true c3
  try have c3b2 : (9223372036854775807 < t292.size + 1) = False := eq_false (Nat.not_lt.2 c3)
  try have c3b3 := c3b2
  try simp only [ByteArray.size_append, show (⟨#[32]⟩ : ByteArray).size = 1 from rfl, show (⟨#[10]⟩ : ByteArray).size = 1 from rfl] at c3b3
  by_cases c4 : (t292 ++ (⟨#[32]⟩ : ByteArray)).size + a0_1.size ≤ 9223372036854775807
  ·rw [if_pos c4] at H
   have c4b0 := eq_true c4
   have c4b1 := decide_eq_true c4
   try have c4b2 : (9223372036854775807 < (t292 ++ (⟨#[32]⟩ : ByteArray)).size + a0_1.size) = False := eq_false (Nat.not_lt.2 c4)
   try have c4b3 := c4b2
   try simp only [ByteArray.size_append, show (⟨#[32]⟩ : ByteArray).size = 1 from rfl, show (⟨#[10]⟩ : ByteArray).size = 1 from rfl] at c4b3
   by_cases c5 : ((t292 ++ (⟨#[32]⟩ : ByteArray)) ++ a0_1).size + 1 ≤ 9223372036854775807
   ·rw [if_pos c5] at H
    have c5b0 := eq_true c5
    have c5b1 := decide_eq_true c5
    try have c5b2 : (9223372036854775807 < ((t292 ++ (⟨#[32]⟩ : ByteArray)) ++ a0_1).size + 1) = False := eq_false (Nat.not_lt.2 c5)
    try have c5b3 := c5b2
    try simp only [ByteArray.size_append, show (⟨#[32]⟩ : ByteArray).size = 1 from rfl, show (⟨#[10]⟩ : ByteArray).size = 1 from rfl] at c5b3
    replace H := Option.bind_eq_some_iff.mp H
    obtain ⟨t293, A60, H⟩ := H
    replace H : (if (((t292 ++ (⟨#[32]⟩ : ByteArray)) ++ a0_1) ++ (⟨#[32]⟩ : ByteArray)).size + t293.size ≤ 9223372036854775807 then (if ((((t292 ++ (⟨#[32]⟩ : ByteArray)) ++ a0_1) ++ (⟨#[32]⟩ : ByteArray)) ++ t293).size + 1 ≤ 9223372036854775807 then (some (((((t292 ++ (⟨#[32]⟩ : ByteArray)) ++ a0_1) ++ (⟨#[32]⟩ : ByteArray)) ++ t293) ++ (⟨#[10]⟩ : ByteArray))) else (none)) else (none)) = some r := H
    have A6 := ak A60
    clear A60
    by_cases c7 : (((t292 ++ (⟨#[32]⟩ : ByteArray)) ++ a0_1) ++ (⟨#[32]⟩ : ByteArray)).size + t293.size ≤ 9223372036854775807
    ·rw [if_pos c7] at H
     have c7b0 := eq_true c7
     have c7b1 := decide_eq_true c7
     try have c7b2 : (9223372036854775807 < (((t292 ++ (⟨#[32]⟩ : ByteArray)) ++ a0_1) ++ (⟨#[32]⟩ : ByteArray)).size + t293.size) = False := eq_false (Nat.not_lt.2 c7)
     try have c7b3 := c7b2
     try simp only [ByteArray.size_append, show (⟨#[32]⟩ : ByteArray).size = 1 from rfl, show (⟨#[10]⟩ : ByteArray).size = 1 from rfl] at c7b3
     by_cases c8 : ((((t292 ++ (⟨#[32]⟩ : ByteArray)) ++ a0_1) ++ (⟨#[32]⟩ : ByteArray)) ++ t293).size + 1 ≤ 9223372036854775807
     ·rw [if_pos c8] at H
      have c8b0 := eq_true c8
      have c8b1 := decide_eq_true c8
      try have c8b2 : (9223372036854775807 < ((((t292 ++ (⟨#[32]⟩ : ByteArray)) ++ a0_1) ++ (⟨#[32]⟩ : ByteArray)) ++ t293).size + 1) = False := eq_false (Nat.not_lt.2 c8)
      try have c8b3 := c8b2
      try simp only [ByteArray.size_append, show (⟨#[32]⟩ : ByteArray).size = 1 from rfl, show (⟨#[10]⟩ : ByteArray).size = 1 from rfl] at c8b3
      obtain rfl := Option.some.inj H
      go_enter Try.func64, Try.ntmps64
      try go_wp2_with (first | ((with_reducible refine gate_dst (N := 1) rfl ?_); refine box_event ?hg (N := 1) ?hd (cs := #[.int .i64 a0_0, .string a0_1, .int .i64 a0_2]) (t := 32) ?hr ?_; (case hd => rfl); (case hg => rfl); (case hr => first | (go_simp; done) | (go_simp; rfl)); intro gb291 hg w9 hbox hb; have BK291 := ak (hbox); have GW291 := ak ((by rw [hg]; exact (below_size (by repeat (first | (with_reducible first | exact HB.out | apply below_alloc | apply pw_below_drewN | apply below_drew1) | exact HB.out))) : w.heap.size ≤ gb291)); have GE291 := ak ((by rw [hg]; exact (below_size (by repeat (first | (with_reducible first | exact HB.out | apply below_alloc | apply pw_below_drewN | apply below_drew1) | exact HB.out))) : w.heap.size ≤ gb291)); replace HB := ak (below_step (by repeat (first | (with_reducible first | exact HB.out | apply below_alloc | apply pw_below_drewN | apply below_drew1) | exact HB.out)) hb); clear hb hbox hg))
      replace BK291 := ak (blk_drew BK291.out)
      replace HB := ak (below_drew1 HB.out)
      refine start_ (n := 14) (S := fun w' => w'.cell? ⟨gb291, 0, none⟩ = some (.int .i64 a0_0) ∧ w'.cell? ⟨gb291, 1, none⟩ = some (.string a0_1) ∧ w'.cell? ⟨gb291, 2, none⟩ = some (.int .i64 a0_2)) (ds := []) (Go.ba 14 0) (by kernel_rfl) rfl rfl ⟨(blk_cell BK291.out 0).trans rfl, (blk_cell BK291.out 1).trans rfl, (blk_cell BK291.out 2).trans rfl⟩ (fun hHeld => ?_); refine with_tabW payoffref03_Line.tab1 payoffref03_Line.bits1 (fun HT_ HW_ => ?_)
      generalize w9.drew = w10 at BK291 HB hHeld ⊢
      refine pu 0 3 (Go.ba 14 1) (any_of HT_.out (by kernel_rfl)) ?_
      refine pu 4 7 (Go.ba 14 17) (any_of HT_.out (by kernel_rfl)) ?_
      refine pu 8 11 (Go.ba 14 273) (any_of HT_.out (by kernel_rfl)) ?_
      refine tk 1 4 (Go.ba 14 275) (take_ofW HT_.out HW_.out (by kernel_rfl)) hHeld ?_ (hy := by rintro w' ⟨s0, s1, s2⟩; go_simp; with_reducible rfl)
      refine tk 5 8 (Go.ba 14 307) (take_ofW HT_.out HW_.out (by kernel_rfl)) hHeld ?_ (hy := by rintro w' ⟨s0, s1, s2⟩; go_simp; with_reducible rfl)
      refine tk 9 12 (Go.ba 14 819) (take_ofW HT_.out HW_.out (by kernel_rfl)) hHeld ?_ (hy := by rintro w' ⟨s0, s1, s2⟩; go_simp; with_reducible rfl)
      refine one_ (i := 2) (N := some 5) (Go.ba 14 823) rfl rfl (one_of HT_.out (by kernel_rfl)) (by decide) (fun K hK => ?_)
      refine goes_ Try.func73 (by kernel_rfl) rfl #[.int .i64 a0_0] (by rfl) rfl rfl (by (try simp only [List.map_toArray, List.map_cons, List.map_nil]); first | done | rfl | (simp only [List.length_drop, List.length_take]; rfl)) ?_
      with_reducible refine (payoffref03_Digits.calls k a0_0 t292 _ A2.out).mono ?_
      rintro e w11 ⟨rfl, hb⟩
      refine ⟨_, rfl, ?_⟩
      replace BK291 := ak (blk_below (g := gb291) (o := .cells #[.int .i64 a0_0, .string a0_1, .int .i64 a0_2] 32 (0, 0)) (by (with_reducible repeat (first | refine blk_drewN ?_ _ | refine blk_drew ?_ | refine blk_alloc ?_ _)); exact BK291.out) hb)
      replace HB := ak (below_step (by repeat (first | (with_reducible first | exact HB.out | apply below_alloc | apply pw_below_drewN | apply below_drew1 | refine below_set ?_ GE291.out) | exact HB.out)) hb)
      (try clear hb)
      (try clear hb2)
      (try clear hk)
      (try clear hi)
      refine hK.out _ _ ⟨(blk_cell BK291.out 0).trans rfl, (blk_cell BK291.out 1).trans rfl, (blk_cell BK291.out 2).trans rfl⟩ (fun hHeld => ?_)
      clear hK K
      refine norm_ (a' := ?_) ?_ ?_
      rotate_left
      ·show Act.put _ (some 5) _ = _
       simp only [pz]
       rfl
      refine pu 3 6 (Go.ba 14 831) (any_of HT_.out (by kernel_rfl)) ?_
      refine pu 6 9 (Go.ba 14 895) (any_of HT_.out (by kernel_rfl)) ?_
      refine pu 7 10 (Go.ba 14 1023) (any_of HT_.out (by kernel_rfl)) ?_
      refine one_ (i := 10) (N := some 13) (Go.ba 14 2047) rfl rfl (one_of HT_.out (by kernel_rfl)) (by decide) (fun K hK => ?_)
      refine goes_ Try.func73 (by kernel_rfl) rfl #[.int .i64 a0_2] (by rfl) rfl rfl (by (try simp only [List.map_toArray, List.map_cons, List.map_nil]); first | done | rfl | (simp only [List.length_drop, List.length_take]; rfl)) ?_
      with_reducible refine (payoffref03_Digits.calls k a0_2 t293 _ A6.out).mono ?_
      rintro e w12 ⟨rfl, hb⟩
      refine ⟨_, rfl, ?_⟩
      replace BK291 := ak (blk_below (g := gb291) (o := .cells #[.int .i64 a0_0, .string a0_1, .int .i64 a0_2] 32 (0, 0)) (by (with_reducible repeat (first | refine blk_drewN ?_ _ | refine blk_drew ?_ | refine blk_alloc ?_ _)); exact BK291.out) hb)
      replace HB := ak (below_step (by repeat (first | (with_reducible first | exact HB.out | apply below_alloc | apply pw_below_drewN | apply below_drew1 | refine below_set ?_ GE291.out) | exact HB.out)) hb)
      (try clear hb)
      (try clear hb2)
      (try clear hk)
      (try clear hi)
      refine hK.out _ _ ⟨(blk_cell BK291.out 0).trans rfl, (blk_cell BK291.out 1).trans rfl, (blk_cell BK291.out 2).trans rfl⟩ (fun hHeld => ?_)
      clear hK K
      refine norm_ (a' := ?_) ?_ ?_
      rotate_left
      ·show Act.put _ (some 13) _ = _
       simp only [pz]
       rfl
      refine pu 11 14 (Go.ba 14 4095) (any_of HT_.out (by kernel_rfl)) ?_
      refine pu 12 15 (Go.ba 14 8191) (any_of HT_.out (by kernel_rfl)) ?_
      refine pu 13 2 (Go.ba 14 16383) (any_of HT_.out (by kernel_rfl)) ?_
      refine done_ (done_of HT_.out (by kernel_rfl)) ?_
      try go_wp2
      go_ret
      exact ⟨by first | rfl | (simp [errW_none, errW_some] <;> rfl) | (simp [*, errW_none, errW_some] <;> rfl), by repeat (first | (with_reducible first | exact HB.out | apply below_alloc | apply pw_below_drewN | apply below_drew1 | refine below_set ?_ GE291.out) | exact HB.out)⟩
     ·rw [if_neg c8] at H
      exact absurd H (by simp)
    ·rw [if_neg c7] at H
     exact absurd H (by simp)
   ·rw [if_neg c5] at H
    exact absurd H (by simp)
  ·rw [if_neg c4] at H
   exact absurd H (by simp)
 ·rw [if_neg c3] at H
  exact absurd H (by simp)
mutual
def payoffref03_Print.l0 : Nat → List (S32) → Int → Option (ByteArray × Int)
  | 0, _, _ => none
  | k + 1, x0, x5 => if x5 < (x0.length : Int) then (if 0 ≤ x5 then ((payoffref03_Valid.f k ((rd_T32 x0 x5).f0) ((rd_T32 x0 x5).f1) ((rd_T32 x0 x5).f2)).bind fun t295 => (if t295 = 0 then (payoffref03_Print.l0 k x0 (wrap64 (x5 + 1))) else (some ((⟨#[]⟩ : ByteArray), t295)))) else (none)) else (payoffref03_Print.l1 k x0 ([] : List Int) 0)
def payoffref03_Print.l1 : Nat → List (S32) → List Int → Int → Option (ByteArray × Int)
  | 0, _, _, _ => none
  | k + 1, x0, x4, x7 => if x7 < (x0.length : Int) then (if 0 ≤ x7 then ((payoffref03_Line.f k ((rd_T32 x0 x7).f0) ((rd_T32 x0 x7).f1) ((rd_T32 x0 x7).f2)).bind fun t297 => (if x4.length + t297.size < 140737488355328 then ((some (x4 ++ bytesOf t297 : List Int)).bind fun y298 => (if (y298.length : Int) > 1048576 then (some ((⟨#[]⟩ : ByteArray), 6)) else (payoffref03_Print.l1 k x0 y298 (wrap64 (x7 + 1))))) else (none))) else (none)) else (some (strOfNums x4, 0))
end
def payoffref03_Print.f (k : Nat) (l0 : List (S32)) : Option (ByteArray × Int) := payoffref03_Print.l0 k l0 0
theorem payoffref03_Print.mono_l : ∀ k, (∀ y0 y1, LeO (payoffref03_Print.l0 k y0 y1) (payoffref03_Print.l0 (k + 1) y0 y1)) ∧ (∀ y0 y1 y2, LeO (payoffref03_Print.l1 k y0 y1 y2) (payoffref03_Print.l1 (k + 1) y0 y1 y2))
 | 0 => ⟨fun _ _ r h => by simp [payoffref03_Print.l0] at h, fun _ _ _ r h => by simp [payoffref03_Print.l1] at h⟩
 | k + 1 => by
  obtain ⟨ih0, ih1⟩ := payoffref03_Print.mono_l k
  refine ⟨?_, ?_⟩
  ·intro y0 y1
   unfold payoffref03_Print.l0
   repeat' first
   | (with_reducible exact ih0 _ _)
   | (with_reducible exact ih1 _ _ _)
   | (with_reducible exact payoffref03_Line.mono _ _ _ _)
   | (with_reducible exact payoffref03_Valid.mono _ _ _ _)
   | (with_reducible exact LeO.refl _)
   | (with_reducible exact LeO.none _)
   | (with_reducible refine LeO.ite ?_ ?_)
   | (with_reducible refine LeO.bind ?_ (fun _ => ?_))
   | exact ih0 _ _
   | exact ih1 _ _ _
   | exact payoffref03_Line.mono _ _ _ _
   | exact payoffref03_Valid.mono _ _ _ _
   | exact LeO.none _
   | refine LeO.ite ?_ ?_
   | refine LeO.bind ?_ (fun _ => ?_)
  ·intro y0 y1 y2
   unfold payoffref03_Print.l1
   repeat' first
   | (with_reducible exact ih0 _ _)
   | (with_reducible exact ih1 _ _ _)
   | (with_reducible exact payoffref03_Line.mono _ _ _ _)
   | (with_reducible exact payoffref03_Valid.mono _ _ _ _)
   | (with_reducible exact LeO.refl _)
   | (with_reducible exact LeO.none _)
   | (with_reducible refine LeO.ite ?_ ?_)
   | (with_reducible refine LeO.bind ?_ (fun _ => ?_))
   | exact ih0 _ _
   | exact ih1 _ _ _
   | exact payoffref03_Line.mono _ _ _ _
   | exact payoffref03_Valid.mono _ _ _ _
   | exact LeO.none _
   | refine LeO.ite ?_ ?_
   | refine LeO.bind ?_ (fun _ => ?_)
theorem payoffref03_Print.mono : ∀ a0 k, LeO (payoffref03_Print.f k a0) (payoffref03_Print.f (k + 1) a0) := by
 intro a0 k
 obtain ⟨ih0, ih1⟩ := payoffref03_Print.mono_l k
 unfold payoffref03_Print.f
 repeat' first
  | (with_reducible exact ih0 _ _)
  | (with_reducible exact ih1 _ _ _)
  | (with_reducible exact payoffref03_Line.mono _ _ _ _)
  | (with_reducible exact payoffref03_Valid.mono _ _ _ _)
  | (with_reducible exact LeO.refl _)
  | (with_reducible exact LeO.none _)
  | (with_reducible refine LeO.ite ?_ ?_)
  | (with_reducible refine LeO.bind ?_ (fun _ => ?_))
  | exact ih0 _ _
  | exact ih1 _ _ _
  | exact payoffref03_Line.mono _ _ _ _
  | exact payoffref03_Valid.mono _ _ _ _
  | exact LeO.none _
  | refine LeO.ite ?_ ?_
  | refine LeO.bind ?_ (fun _ => ?_)
set_option maxHeartbeats 8000000 in
set_option maxRecDepth 100000 in
theorem payoffref03_Print.calls (k : Nat) (A0 : Option Addr) (c0 : Nat) (l0 : List (S32)) (r1 : ByteArray) (r2 : Int) (w : World) (hr0 : Kd.C k32 w A0 l0.length l0) (hc0 : l0.length ≤ c0) (h : payoffref03_Print.f k l0 = some (r1, r2)) :
  Calls Try.prog 50 #[.slice A0 l0.length c0] w fun e w' => e = .returned (.tuple #[.string r1, .int .i64 r2]) ∧ Below w.heap.size w w' := by
 have hu32 := Try.underlying32
 have HR0 := ak hr0
 have HC0 := ak hc0
 clear hr0 hc0
 have HB := ak (Below.refl w.heap.size w)
 have H : (payoffref03_Print.l0 k l0 0) = some (r1, r2) := h
 clear h
 have H' := ak H
 clear H
 go_enter Try.func50, Try.ntmps50
 go_wp2
 go_loopg [5] k (fun kq v5 w' => ∃ (x5_1 : Int), v5 = .int .i64 x5_1 ∧ Aside0 (payoffref03_Print.l0 kq l0 x5_1 = some (r1, r2)) ∧ Aside0 (kq ≤ k) ∧ Aside0 (Below w.heap.size w w'))
 case atStart => exact ⟨(0), (by first | rfl | (simp; done) | (simp [*]; done)), H', ⟨Nat.le_refl _⟩, ⟨by repeat (first | (with_reducible first | exact HB.out | apply below_alloc | apply pw_below_drewN | apply below_drew1) | exact HB.out)⟩⟩
 case round =>
  clear H'
  obtain ⟨x5_1, rfl, HA, HK1, HB⟩ := hrel
  cases gk with
  | zero => exact absurd HA.out (by simp [payoffref03_Print.l0])
  | succ k1 =>
   have H := HA.out
   clear HA
   simp only [payoffref03_Print.l0] at H
   by_cases c2 : x5_1 < (l0.length : Int)
   ·rw [if_pos c2] at H
    have c2b0 := decide_eq_true c2
    clear c2
    by_cases c3 : 0 ≤ x5_1
    ·rw [if_pos c3] at H
     have c3b0 := decide_eq_true c3
     clear c3
     replace H := Option.bind_eq_some_iff.mp H
     obtain ⟨t295, A40, H⟩ := H
     replace H : (if t295 = 0 then (payoffref03_Print.l0 k1 l0 (wrap64 (x5_1 + 1))) else (some ((⟨#[]⟩ : ByteArray), t295))) = some (r1, r2) := H
     have A4 := ak A40
     clear A40
     by_cases c5 : t295 = 0
     ·rw [if_pos c5] at H
      have c5b0 : (t295 == 0) = true := beq_iff_eq.mpr c5
      have c5b1 : (t295 != 0) = false := bne_eq_false_iff_eq.mpr c5
      clear c5
      have H' := ak H
      clear H
      have p294 : 0 ≤ (x5_1 : Int) := of_decide_eq_true (by first | (with_reducible assumption) | assumption)
      have q294 : x5_1 < (l0.length : Int) := of_decide_eq_true (by first | (with_reducible assumption) | assumption)
      obtain ⟨ad294, e294, hx294_0, hx294_1, hx294_2⟩ := at_T32 HR0.out x5_1 p294 q294
      cases e294
      replace hx294_0 := (HB.out.cell (World.block_lt_of_cell? w _ hx294_0)).trans hx294_0
      replace hx294_1 := (HB.out.cell (World.block_lt_of_cell? w _ hx294_1)).trans hx294_1
      replace hx294_2 := (HB.out.cell (World.block_lt_of_cell? w _ hx294_2)).trans hx294_2
      replace p294 := eq_true p294
      replace q294 := eq_true q294
      go_wp2_with (first | ((with_reducible refine gate_callee (f := 17) rfl ?_); refine goesL_ (some 18) rfl rfl Try.func17 (by kernel_rfl) rfl #[.agg #[.int .i64 ((rd_T32 l0 x5_1).f0), .string ((rd_T32 l0 x5_1).f1), .int .i64 ((rd_T32 l0 x5_1).f2)]] rfl (by (try simp only [List.map_toArray, List.map_cons, List.map_nil]); first | done | rfl | (simp only [List.length_drop, List.length_take]; rfl)) ?_; (with_reducible refine (payoffref03_Valid.calls k1 ((rd_T32 l0 x5_1).f0) ((rd_T32 l0 x5_1).f1) ((rd_T32 l0 x5_1).f2) t295 _ A4.out).mono ?_); rintro e w6 ⟨rfl, hb⟩; refine ⟨_, rfl, ?_⟩; replace HB := ak (below_step (by repeat (first | (with_reducible first | exact HB.out | apply below_alloc | apply pw_below_drewN | apply below_drew1) | exact HB.out)) hb); (try clear hb); (try clear hb2); (try clear hk); (try clear hi)))
      go_roundg k1
      case measure => have := HK1.out; omega
      case rel => exact ⟨(wrap64 (x5_1 + 1)), (by first | rfl | (simp; done) | (simp [*]; done)), H', ⟨by have := HK1.out; omega⟩, ⟨by repeat (first | (with_reducible first | exact HB.out | apply below_alloc | apply pw_below_drewN | apply below_drew1) | exact HB.out)⟩⟩
     ·rw [if_neg c5] at H
      have c5b0 : (t295 == 0) = false := beq_eq_false_iff_ne.mpr c5
      have c5b1 : (t295 != 0) = true := bne_iff_ne.mpr c5
      simp only [Option.some.injEq, Prod.mk.injEq] at H
      obtain ⟨rfl, rfl⟩ := H
      have p294 : 0 ≤ (x5_1 : Int) := of_decide_eq_true (by first | (with_reducible assumption) | assumption)
      have q294 : x5_1 < (l0.length : Int) := of_decide_eq_true (by first | (with_reducible assumption) | assumption)
      obtain ⟨ad294, e294, hx294_0, hx294_1, hx294_2⟩ := at_T32 HR0.out x5_1 p294 q294
      cases e294
      replace hx294_0 := (HB.out.cell (World.block_lt_of_cell? w _ hx294_0)).trans hx294_0
      replace hx294_1 := (HB.out.cell (World.block_lt_of_cell? w _ hx294_1)).trans hx294_1
      replace hx294_2 := (HB.out.cell (World.block_lt_of_cell? w _ hx294_2)).trans hx294_2
      replace p294 := eq_true p294
      replace q294 := eq_true q294
      go_wp2_with (first | ((with_reducible refine gate_callee (f := 17) rfl ?_); refine goesL_ (some 18) rfl rfl Try.func17 (by kernel_rfl) rfl #[.agg #[.int .i64 ((rd_T32 l0 x5_1).f0), .string ((rd_T32 l0 x5_1).f1), .int .i64 ((rd_T32 l0 x5_1).f2)]] rfl (by (try simp only [List.map_toArray, List.map_cons, List.map_nil]); first | done | rfl | (simp only [List.length_drop, List.length_take]; rfl)) ?_; (with_reducible refine (payoffref03_Valid.calls k1 ((rd_T32 l0 x5_1).f0) ((rd_T32 l0 x5_1).f1) ((rd_T32 l0 x5_1).f2) t295 _ A4.out).mono ?_); rintro e w7 ⟨rfl, hb⟩; refine ⟨_, rfl, ?_⟩; replace HB := ak (below_step (by repeat (first | (with_reducible first | exact HB.out | apply below_alloc | apply pw_below_drewN | apply below_drew1) | exact HB.out)) hb); (try clear hb); (try clear hb2); (try clear hk); (try clear hi)))
      go_ret2
      exact ⟨by first | rfl | (simp [errW_none, errW_some] <;> rfl) | (simp [*, errW_none, errW_some] <;> rfl), by repeat (first | (with_reducible first | exact HB.out | apply below_alloc | apply pw_below_drewN | apply below_drew1) | exact HB.out)⟩
    ·rw [if_neg c3] at H
     exact absurd H (by simp)
   ·rw [if_neg c2] at H
    have c2b0 := decide_eq_false c2
    clear c2
    have H' := ak H
    clear H
    go_wp2
    go_loopg [4, 7] k1 (fun kq v4 v7 w' => ∃ (x4_2 : List Int) (x7_2 : Int), v7 = .int .i64 x7_2 ∧ Aside0 (payoffref03_Print.l1 kq l0 x4_2 x7_2 = some (r1, r2)) ∧ Aside0 (kq ≤ k1) ∧ Aside0 (Kd.R (Kd.int .u8) 5 w' w.heap.size (fun _ => True) v4 x4_2) ∧ Aside0 (Below w.heap.size w w'))
    case atStart => exact ⟨(([] : List Int)), (0), (by first | rfl | (simp; done) | (simp [*]; done)), H', ⟨Nat.le_refl _⟩, ⟨by first | exact Kd.R_nil _ _ _ _ _ | exact Kd.N_nil _ _ _ _ _ | exact Kd.V_nil _ _ _ _ _ | exact Kd.Q_nil _ _ _ _ _ | exact Kd.S_nil _ _ _ _ _⟩, ⟨by repeat (first | (with_reducible first | exact HB.out | apply below_alloc | apply pw_below_drewN | apply below_drew1) | exact HB.out)⟩⟩
    case round =>
     clear H'
     try clear c1
     try clear c2
     try clear c2b0
     try clear p2
     try clear q2
     try clear hx2
     try clear c3
     try clear c3b0
     try clear c5
     try clear c5b0
     try clear c5b1
     try clear p6
     try clear hx294_0
     try clear hx294_1
     try clear hx294_2
     try clear p294
     try clear q294
     obtain ⟨x4_2, x7_2, rfl, HA, HK2, HO_4, HB⟩ := hrel
     cases gk with
     | zero => exact absurd HA.out (by simp [payoffref03_Print.l1])
     | succ k2 =>
      have H := HA.out
      clear HA
      simp only [payoffref03_Print.l1] at H
      by_cases c8 : x7_2 < (l0.length : Int)
      ·rw [if_pos c8] at H
       have c8b0 := decide_eq_true c8
       clear c8
       by_cases c9 : 0 ≤ x7_2
       ·rw [if_pos c9] at H
        have c9b0 := decide_eq_true c9
        clear c9
        replace H := Option.bind_eq_some_iff.mp H
        obtain ⟨t297, A100, H⟩ := H
        replace H : (if x4_2.length + t297.size < 140737488355328 then ((some (x4_2 ++ bytesOf t297 : List Int)).bind fun y298 => (if (y298.length : Int) > 1048576 then (some ((⟨#[]⟩ : ByteArray), 6)) else (payoffref03_Print.l1 k2 l0 y298 (wrap64 (x7_2 + 1))))) else (none)) = some (r1, r2) := H
        have A10 := ak A100
        clear A100
        by_cases c11 : x4_2.length + t297.size < 140737488355328
        ·rw [if_pos c11] at H
         have LMc11 := ak c11
         clear c11
         obtain ⟨y298, hy298⟩ : ∃ y_ : List Int, y_ = (x4_2 ++ bytesOf t297) := ⟨_, rfl⟩
         replace H : (if (y298.length : Int) > 1048576 then (some ((⟨#[]⟩ : ByteArray), 6)) else (payoffref03_Print.l1 k2 l0 y298 (wrap64 (x7_2 + 1)))) = some (r1, r2) := by first | (rw [hy298]; with_reducible exact H) | (have H2_ := (Option.bind_some _ _).symm.trans H; rw [hy298]; with_reducible exact H2_) | (have H2_ := (Option.bind_some _ _).symm.trans H; with_reducible exact H2_) | with_reducible exact H | (rw [hy298]; exact H) | exact H
         have Ny298 := ak hy298
         clear hy298
         by_cases c12 : (y298.length : Int) > 1048576
         ·rw [if_pos c12] at H
          have c12b0 := decide_eq_true c12
          have c12b1 : decide (1048576 < y298.length) = true := decide_eq_true (by omega)
          clear c12
          simp only [Option.some.injEq, Prod.mk.injEq] at H
          obtain ⟨rfl, rfl⟩ := H
          have p296 : 0 ≤ (x7_2 : Int) := of_decide_eq_true (by first | (with_reducible assumption) | assumption)
          have q296 : x7_2 < (l0.length : Int) := of_decide_eq_true (by first | (with_reducible assumption) | assumption)
          obtain ⟨ad296, e296, hx296_0, hx296_1, hx296_2⟩ := at_T32 HR0.out x7_2 p296 q296
          cases e296
          replace hx296_0 := (HB.out.cell (World.block_lt_of_cell? w _ hx296_0)).trans hx296_0
          replace hx296_1 := (HB.out.cell (World.block_lt_of_cell? w _ hx296_1)).trans hx296_1
          replace hx296_2 := (HB.out.cell (World.block_lt_of_cell? w _ hx296_2)).trans hx296_2
          replace p296 := eq_true p296
          replace q296 := eq_true q296
          go_wp2_with (first | ((with_reducible refine gate_callee (f := 64) rfl ?_); refine goesL_ (some 33) rfl rfl Try.func64 (by kernel_rfl) rfl #[.agg #[.int .i64 ((rd_T32 l0 x7_2).f0), .string ((rd_T32 l0 x7_2).f1), .int .i64 ((rd_T32 l0 x7_2).f2)]] rfl (by (try simp only [List.map_toArray, List.map_cons, List.map_nil]); first | done | rfl | (simp only [List.length_drop, List.length_take]; rfl)) ?_; (with_reducible refine (payoffref03_Line.calls k2 ((rd_T32 l0 x7_2).f0) ((rd_T32 l0 x7_2).f1) ((rd_T32 l0 x7_2).f2) t297 _ A10.out).mono ?_); rintro e w13 ⟨rfl, hb⟩; refine ⟨_, rfl, ?_⟩; have n0_ := ak (Kd.R_below (by (with_reducible repeat (first | apply Kd.R_alloc | apply Kd.R_drewN | apply Kd.R_drew)); exact HO_4.out) hb); have n1_ := ak (below_step (by repeat (first | (with_reducible first | exact HB.out | apply below_alloc | apply pw_below_drewN | apply below_drew1) | exact HB.out)) hb); clear HO_4; clear HB; have HO_4 := n0_; have HB := n1_; clear n0_ n1_; (try clear hb); (try clear hb2); (try clear hk); (try clear hi)) | (at_builtin; refine print_append_str (w0 := w) w.heap.size rfl (.tmp 28) _ 109 9 5 rfl Try.underlying109 Try.underlying9 info5 u4 x4_2 t297 rfl rfl ?aO ?aB ?aS ?aL ?_; (case aB => exact (by repeat (first | (with_reducible first | exact HB.out | apply below_alloc | apply pw_below_drewN | apply below_drew1) | exact HB.out))); (case aO => exact (Kd.own_of_R (by (with_reducible repeat (first | apply Kd.R_alloc | apply Kd.R_drewN | apply Kd.R_drew)); exact HO_4.out))); (case aS => exact (below_size (by repeat (first | (with_reducible first | exact HB.out | apply below_alloc | apply pw_below_drewN | apply below_drew1) | exact HB.out)))); (case aL => have := LMc11.out; omega); intro v299 w14 ho0 hb hg; have ho := Kd.R_of_own (h1 := fun _ => rfl) (ok := fun _ => True) ho0 (fun _ _ => trivial); clear ho0; have hat := True.intro; rw [← Ny298.out] at ho; change Kd.R (Kd.int .u8) 5 w14 w.heap.size (fun _ => True) v299 y298 at ho; have n0_ := ak (hb); have n1_ := ak (ho); clear HB; clear HO_4; have HB := n0_; have HO300 := n1_; clear n0_ n1_; clear ho hb hg hat; obtain ⟨Ao15, co15, eo15⟩ := Kd.R_slice HO300.out; subst eo15))
          go_ret2
          exact ⟨by first | rfl | (simp [errW_none, errW_some] <;> rfl) | (simp [*, errW_none, errW_some] <;> rfl), by repeat (first | (with_reducible first | exact HB.out | apply below_alloc | apply pw_below_drewN | apply below_drew1) | exact HB.out)⟩
         ·rw [if_neg c12] at H
          have c12b0 := decide_eq_false c12
          have c12b1 : decide (1048576 < y298.length) = false := decide_eq_false (by omega)
          clear c12
          have H' := ak H
          clear H
          have p296 : 0 ≤ (x7_2 : Int) := of_decide_eq_true (by first | (with_reducible assumption) | assumption)
          have q296 : x7_2 < (l0.length : Int) := of_decide_eq_true (by first | (with_reducible assumption) | assumption)
          obtain ⟨ad296, e296, hx296_0, hx296_1, hx296_2⟩ := at_T32 HR0.out x7_2 p296 q296
          cases e296
          replace hx296_0 := (HB.out.cell (World.block_lt_of_cell? w _ hx296_0)).trans hx296_0
          replace hx296_1 := (HB.out.cell (World.block_lt_of_cell? w _ hx296_1)).trans hx296_1
          replace hx296_2 := (HB.out.cell (World.block_lt_of_cell? w _ hx296_2)).trans hx296_2
          replace p296 := eq_true p296
          replace q296 := eq_true q296
          go_wp2_with (first | ((with_reducible refine gate_callee (f := 64) rfl ?_); refine goesL_ (some 33) rfl rfl Try.func64 (by kernel_rfl) rfl #[.agg #[.int .i64 ((rd_T32 l0 x7_2).f0), .string ((rd_T32 l0 x7_2).f1), .int .i64 ((rd_T32 l0 x7_2).f2)]] rfl (by (try simp only [List.map_toArray, List.map_cons, List.map_nil]); first | done | rfl | (simp only [List.length_drop, List.length_take]; rfl)) ?_; (with_reducible refine (payoffref03_Line.calls k2 ((rd_T32 l0 x7_2).f0) ((rd_T32 l0 x7_2).f1) ((rd_T32 l0 x7_2).f2) t297 _ A10.out).mono ?_); rintro e w16 ⟨rfl, hb⟩; refine ⟨_, rfl, ?_⟩; have n0_ := ak (Kd.R_below (by (with_reducible repeat (first | apply Kd.R_alloc | apply Kd.R_drewN | apply Kd.R_drew)); exact HO_4.out) hb); have n1_ := ak (below_step (by repeat (first | (with_reducible first | exact HB.out | apply below_alloc | apply pw_below_drewN | apply below_drew1) | exact HB.out)) hb); clear HO_4; clear HB; have HO_4 := n0_; have HB := n1_; clear n0_ n1_; (try clear hb); (try clear hb2); (try clear hk); (try clear hi)) | (at_builtin; refine print_append_str (w0 := w) w.heap.size rfl (.tmp 28) _ 109 9 5 rfl Try.underlying109 Try.underlying9 info5 u4 x4_2 t297 rfl rfl ?aO ?aB ?aS ?aL ?_; (case aB => exact (by repeat (first | (with_reducible first | exact HB.out | apply below_alloc | apply pw_below_drewN | apply below_drew1) | exact HB.out))); (case aO => exact (Kd.own_of_R (by (with_reducible repeat (first | apply Kd.R_alloc | apply Kd.R_drewN | apply Kd.R_drew)); exact HO_4.out))); (case aS => exact (below_size (by repeat (first | (with_reducible first | exact HB.out | apply below_alloc | apply pw_below_drewN | apply below_drew1) | exact HB.out)))); (case aL => have := LMc11.out; omega); intro v299 w17 ho0 hb hg; have ho := Kd.R_of_own (h1 := fun _ => rfl) (ok := fun _ => True) ho0 (fun _ _ => trivial); clear ho0; have hat := True.intro; rw [← Ny298.out] at ho; change Kd.R (Kd.int .u8) 5 w17 w.heap.size (fun _ => True) v299 y298 at ho; have n0_ := ak (hb); have n1_ := ak (ho); clear HB; clear HO_4; have HB := n0_; have HO300 := n1_; clear n0_ n1_; clear ho hb hg hat; obtain ⟨Ao18, co18, eo18⟩ := Kd.R_slice HO300.out; subst eo18))
          go_roundg k2
          case measure => have := HK1.out; have := HK2.out; omega
          case rel => exact ⟨(y298), (wrap64 (x7_2 + 1)), (by first | rfl | (simp; done) | (simp [*]; done)), H', ⟨by have := HK1.out; have := HK2.out; omega⟩, ⟨by (with_reducible repeat (first | apply Kd.R_alloc | apply Kd.R_drewN | apply Kd.R_drew)); exact HO300.out⟩, ⟨by repeat (first | (with_reducible first | exact HB.out | apply below_alloc | apply pw_below_drewN | apply below_drew1) | exact HB.out)⟩⟩
        ·rw [if_neg c11] at H
         exact absurd H (by simp)
       ·rw [if_neg c9] at H
        exact absurd H (by simp)
      ·rw [if_neg c8] at H
       have c8b0 := decide_eq_false c8
       clear c8
       simp only [Option.some.injEq, Prod.mk.injEq] at H
       obtain ⟨rfl, rfl⟩ := H
       have hcv19 := own_string (P := Try.prog) Try.underlying109 Try.underlying5 Try.underlying9 (Kd.own_of_R HO_4.out)
       go_wp2
       go_ret2
       exact ⟨by first | rfl | (simp [errW_none, errW_some] <;> rfl) | (simp [*, errW_none, errW_some] <;> rfl), by repeat (first | (with_reducible first | exact HB.out | apply below_alloc | apply pw_below_drewN | apply below_drew1) | exact HB.out)⟩
end Go.Proofs.Ytdfndbegifdejaa.PFlowExact
end
