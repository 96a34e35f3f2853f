/- payoffref03.line: its contract (turned from the printed text: an index's letter is put back at one end). -/
import Derived.Test.YtdfndbegifdejaaGParsesx0
import Derived.Test.YtdfndbegifdejaaGParsesx3
namespace Go.Proofs.Ytdfndbegifdejaa.GParses
open Go.RowKit Go.Proofs.YtdfndbegifdejaaW.PrintWords Go.Proofs.YtdfndbegifdejaaW.PrintLast Go.Proofs.YtdfndbegifdejaaW.PrintMore
attribute [local go_sem] max2_int min2_int max_two min_two max_three min_three max_four min_four   -- for this text's walks alone
set_option linter.unusedVariables false
set_option linter.unusedSimpArgs false

/-! ### payoffref03_line: function 39 -/
mutual
def payoffref03_line.j0 : Nat → ByteArray → Int → Int → Bool → Int → ByteArray → Int → Option (Int × ByteArray × Int × Int × Bool)
  | 0, _, _, _, _, _, _, _ => none
  | k + 1, x0, x1, x8, x32, x133000, x133001, x133002 => if x32 = true then (some (x133000, x133001, x133002, x8, false)) else (if 0 ≤ x1 then (if x1 ≤ x8 then (if x8 ≤ (x0.size : Int) then ((payoffref03_value.f k (x0.extract (x1 : Int).toNat (x8 : Int).toNat)).bind fun t135 => (payoffref03_line.l0 k x0 (wrap64 (x8 + 1)) 0 t135 x133001 x133002)) else (none)) else (none)) else (none))
def payoffref03_line.l0 : Nat → ByteArray → Int → Int → Int → ByteArray → Int → Option (Int × ByteArray × Int × Int × Bool)
  | 0, _, _, _, _, _, _ => none
  | k + 1, x0, x10, x11, x133000, x133001, x133002 => if x11 < 3 then (if (wrap64 (x10 + x11)) ≥ (x0.size : Int) then (some (x133000, x133001, x133002, wrap64 (x10 + x11), false)) else (if 0 ≤ (wrap64 (x10 + x11)) then (if (wrap64 (x10 + x11)) < (x0.size : Int) then (if (bt x0 (wrap64 (x10 + x11))) < 65 then (some (x133000, x133001, x133002, wrap64 (x10 + x11), false)) else (if (bt x0 (wrap64 (x10 + x11))) > 90 then (some (x133000, x133001, x133002, wrap64 (x10 + x11), false)) else (payoffref03_line.l0 k x0 x10 (wrap64 (x11 + 1)) x133000 x133001 x133002))) else (none)) else (none))) else (if 0 ≤ x10 then (if x10 ≤ (wrap64 (x10 + 3)) then (if (wrap64 (x10 + 3)) ≤ (x0.size : Int) then (if (wrap64 (x10 + 3)) ≥ (x0.size : Int) then (payoffref03_line.j2 k x0 x10 true x133000 (x0.extract (x10 : Int).toNat ((wrap64 (x10 + 3)) : Int).toNat) x133002) else (if 0 ≤ (wrap64 (x10 + 3)) then (if (wrap64 (x10 + 3)) < (x0.size : Int) then (payoffref03_line.j2 k x0 x10 ((bt x0 (wrap64 (x10 + 3))) != 32) x133000 (x0.extract (x10 : Int).toNat ((wrap64 (x10 + 3)) : Int).toNat) x133002) else (none)) else (none))) else (none)) else (none)) else (none))
def payoffref03_line.j2 : Nat → ByteArray → Int → Bool → Int → ByteArray → Int → Option (Int × ByteArray × Int × Int × Bool)
  | 0, _, _, _, _, _, _ => none
  | k + 1, x0, x10, x90, x133000, x133001, x133002 => if x90 = true then (some (x133000, x133001, x133002, wrap64 (x10 + 3), false)) else ((payoffref03_number.f k x0 (wrap64 (x10 + 4)) 9223372036854775807 true).bind fun bt136 => (if bt136.2 = true then (if bt136.1 ≥ (x0.size : Int) then (some (x133000, x133001, x133002, bt136.1, false)) else (if 0 ≤ bt136.1 then (if bt136.1 < (x0.size : Int) then (if (bt x0 bt136.1) = 10 then (if 0 ≤ (wrap64 (x10 + 4)) then (if (wrap64 (x10 + 4)) ≤ bt136.1 then (if bt136.1 ≤ (x0.size : Int) then ((payoffref03_value.f k (x0.extract ((wrap64 (x10 + 4)) : Int).toNat (bt136.1 : Int).toNat)).bind fun t138 => (some (x133000, x133001, t138, wrap64 (bt136.1 + 1), true))) else (none)) else (none)) else (none)) else (some (x133000, x133001, x133002, bt136.1, false))) else (none)) else (none))) else (some (x133000, x133001, x133002, bt136.1, false))))
end
def payoffref03_line.f (k : Nat) (a0 : ByteArray) (a1 : Int) : Option (Int × ByteArray × Int × Int × Bool) := (payoffref03_number.f k a0 a1 1073741824 false).bind fun bt133 => (if bt133.2 = true then (if bt133.1 ≥ (a0.size : Int) then (payoffref03_line.j0 k a0 a1 bt133.1 true 0 (⟨#[]⟩ : ByteArray) 0) else (if 0 ≤ bt133.1 then (if bt133.1 < (a0.size : Int) then (payoffref03_line.j0 k a0 a1 bt133.1 ((bt a0 bt133.1) != 32) 0 (⟨#[]⟩ : ByteArray) 0) else (none)) else (none))) else (payoffref03_line.j0 k a0 a1 bt133.1 true 0 (⟨#[]⟩ : ByteArray) 0))
theorem payoffref03_line.mono_l : ∀ k, (∀ y0 y1 y2 y3 y4 y5 y6, LeO (payoffref03_line.j0 k y0 y1 y2 y3 y4 y5 y6) (payoffref03_line.j0 (k + 1) y0 y1 y2 y3 y4 y5 y6)) ∧ (∀ y0 y1 y2 y3 y4 y5, LeO (payoffref03_line.l0 k y0 y1 y2 y3 y4 y5) (payoffref03_line.l0 (k + 1) y0 y1 y2 y3 y4 y5)) ∧ (∀ y0 y1 y2 y3 y4 y5, LeO (payoffref03_line.j2 k y0 y1 y2 y3 y4 y5) (payoffref03_line.j2 (k + 1) y0 y1 y2 y3 y4 y5))
  | 0 => ⟨fun _ _ _ _ _ _ _ r h => by simp [payoffref03_line.j0] at h, fun _ _ _ _ _ _ r h => by simp [payoffref03_line.l0] at h, fun _ _ _ _ _ _ r h => by simp [payoffref03_line.j2] at h⟩
  | k + 1 => by
    obtain ⟨ih0, ih1, ih2⟩ := payoffref03_line.mono_l k
    refine ⟨?_, ?_, ?_⟩
    · intro y0 y1 y2 y3 y4 y5 y6
      unfold payoffref03_line.j0
      repeat' first
      | (with_reducible exact ih0 _ _ _ _ _ _ _)
      | (with_reducible exact ih1 _ _ _ _ _ _)
      | (with_reducible exact ih2 _ _ _ _ _ _)
      | (with_reducible exact payoffref03_number.mono _ _ _ _ _)
      | (with_reducible exact payoffref03_value.mono _ _)
      | (with_reducible exact LeO.refl _)
      | (with_reducible exact LeO.none _)
      | (with_reducible refine LeO.ite ?_ ?_)
      | (with_reducible refine LeO.bind ?_ (fun _ => ?_))
      | exact ih0 _ _ _ _ _ _ _
      | exact ih1 _ _ _ _ _ _
      | exact ih2 _ _ _ _ _ _
      | exact payoffref03_number.mono _ _ _ _ _
      | exact payoffref03_value.mono _ _
      | exact LeO.none _
      | refine LeO.ite ?_ ?_
      | refine LeO.bind ?_ (fun _ => ?_)
    · intro y0 y1 y2 y3 y4 y5
      unfold payoffref03_line.l0
      repeat' first
      | (with_reducible exact ih0 _ _ _ _ _ _ _)
      | (with_reducible exact ih1 _ _ _ _ _ _)
      | (with_reducible exact ih2 _ _ _ _ _ _)
      | (with_reducible exact payoffref03_number.mono _ _ _ _ _)
      | (with_reducible exact payoffref03_value.mono _ _)
      | (with_reducible exact LeO.refl _)
      | (with_reducible exact LeO.none _)
      | (with_reducible refine LeO.ite ?_ ?_)
      | (with_reducible refine LeO.bind ?_ (fun _ => ?_))
      | exact ih0 _ _ _ _ _ _ _
      | exact ih1 _ _ _ _ _ _
      | exact ih2 _ _ _ _ _ _
      | exact payoffref03_number.mono _ _ _ _ _
      | exact payoffref03_value.mono _ _
      | exact LeO.none _
      | refine LeO.ite ?_ ?_
      | refine LeO.bind ?_ (fun _ => ?_)
    · intro y0 y1 y2 y3 y4 y5
      unfold payoffref03_line.j2
      repeat' first
      | (with_reducible exact ih0 _ _ _ _ _ _ _)
      | (with_reducible exact ih1 _ _ _ _ _ _)
      | (with_reducible exact ih2 _ _ _ _ _ _)
      | (with_reducible exact payoffref03_number.mono _ _ _ _ _)
      | (with_reducible exact payoffref03_value.mono _ _)
      | (with_reducible exact LeO.refl _)
      | (with_reducible exact LeO.none _)
      | (with_reducible refine LeO.ite ?_ ?_)
      | (with_reducible refine LeO.bind ?_ (fun _ => ?_))
      | exact ih0 _ _ _ _ _ _ _
      | exact ih1 _ _ _ _ _ _
      | exact ih2 _ _ _ _ _ _
      | exact payoffref03_number.mono _ _ _ _ _
      | exact payoffref03_value.mono _ _
      | exact LeO.none _
      | refine LeO.ite ?_ ?_
      | refine LeO.bind ?_ (fun _ => ?_)
theorem payoffref03_line.mono : ∀ a0 a1 k, LeO (payoffref03_line.f k a0 a1) (payoffref03_line.f (k + 1) a0 a1) := by
  intro a0 a1 k
  obtain ⟨ih0, ih1, ih2⟩ := payoffref03_line.mono_l k
  unfold payoffref03_line.f
  repeat' first
      | (with_reducible exact ih0 _ _ _ _ _ _ _)
      | (with_reducible exact ih1 _ _ _ _ _ _)
      | (with_reducible exact ih2 _ _ _ _ _ _)
      | (with_reducible exact payoffref03_number.mono _ _ _ _ _)
      | (with_reducible exact payoffref03_value.mono _ _)
      | (with_reducible exact LeO.refl _)
      | (with_reducible exact LeO.none _)
      | (with_reducible refine LeO.ite ?_ ?_)
      | (with_reducible refine LeO.bind ?_ (fun _ => ?_))
      | exact ih0 _ _ _ _ _ _ _
      | exact ih1 _ _ _ _ _ _
      | exact ih2 _ _ _ _ _ _
      | exact payoffref03_number.mono _ _ _ _ _
      | exact payoffref03_value.mono _ _
      | exact LeO.none _
      | refine LeO.ite ?_ ?_
      | refine LeO.bind ?_ (fun _ => ?_)
set_option maxHeartbeats 8000000 in
set_option maxRecDepth 100000 in
theorem payoffref03_line.calls (k : Nat) (a0 : ByteArray) (a1 : Int) (r1 : Int) (r2 : ByteArray) (r3 : Int) (r4 : Int) (r5 : Bool) (w : World) (h : payoffref03_line.f k a0 a1 = some (r1, r2, r3, r4, r5)) :
    Calls Try.prog 39 #[.string a0, .int .i64 a1] w fun e w' => e = .returned (.tuple #[.agg #[.int .i64 r1, .string r2, .int .i64 r3], .int .i64 r4, .bool r5]) ∧ Below w.heap.size w w' := by
  have hu32 := Try.underlying32
  have HB := Aside0.mk (Below.refl w.heap.size w)
  have H : ((payoffref03_number.f k a0 a1 1073741824 false).bind fun bt133 => (if bt133.2 = true then (if bt133.1 ≥ (a0.size : Int) then (payoffref03_line.j0 k a0 a1 bt133.1 true 0 (⟨#[]⟩ : ByteArray) 0) else (if 0 ≤ bt133.1 then (if bt133.1 < (a0.size : Int) then (payoffref03_line.j0 k a0 a1 bt133.1 ((bt a0 bt133.1) != 32) 0 (⟨#[]⟩ : ByteArray) 0) else (none)) else (none))) else (payoffref03_line.j0 k a0 a1 bt133.1 true 0 (⟨#[]⟩ : ByteArray) 0))) = some (r1, r2, r3, r4, r5) := h
  clear h
  replace H := Option.bind_eq_some_iff.mp H
  obtain ⟨⟨t133, t134⟩, A30, H⟩ := H
  replace H : (if t134 = true then (if t133 ≥ (a0.size : Int) then (payoffref03_line.j0 k a0 a1 t133 true 0 (⟨#[]⟩ : ByteArray) 0) else (if 0 ≤ t133 then (if t133 < (a0.size : Int) then (payoffref03_line.j0 k a0 a1 t133 ((bt a0 t133) != 32) 0 (⟨#[]⟩ : ByteArray) 0) else (none)) else (none))) else (payoffref03_line.j0 k a0 a1 t133 true 0 (⟨#[]⟩ : ByteArray) 0)) = some (r1, r2, r3, r4, r5) := H
  have A3 := Aside0.mk A30
  clear A30
  have HC4 := Aside0.mk H
  clear H
  go_enter Try.func39, Try.ntmps39
  go_upto_region 3 with (first | ((with_reducible refine gate_dst (N := 4) rfl ?_); (try (refine gate_guard (by rfl) ?_; dsimp only)); refine box_event ?hg (N := 4) ?hd (cs := #[.int .i64 0, .string (⟨#[]⟩ : ByteArray), .int .i64 0]) (t := 32) ?hr ?_; (case hd => rfl); (case hg => rfl); (case hr => first | (go_simp; done) | (go_simp; rfl)); intro gb131 hg w5 hbox hb; have n0_ := Aside0.mk (below_step (by repeat (first | (with_reducible first | exact HB.out | apply below_alloc | apply pw_below_drewN | apply below_drew1) | exact HB.out)) hb); have n1_ := Aside0.mk (hbox); have n2_ := Aside0.mk ((by rw [hg]; exact (below_size (by repeat (first | (with_reducible first | exact HB.out | apply below_alloc | apply pw_below_drewN | apply below_drew1) | exact HB.out))) : w.heap.size ≤ gb131)); have n3_ := Aside0.mk ((by rw [hg]; exact (below_size (by repeat (first | (with_reducible first | exact HB.out | apply below_alloc | apply pw_below_drewN | apply below_drew1) | exact HB.out))) : w.heap.size ≤ gb131)); clear HB; have HB := n0_; have BK131 := n1_; have GW131 := n2_; have GE131 := n3_; clear n0_ n1_ n2_ n3_; clear hb hbox hg) | ((with_reducible refine gate_dst (N := 7) rfl ?_); (try (refine gate_guard (by rfl) ?_; dsimp only)); refine box_event ?hg (N := 7) ?hd (cs := #[.int .i64 0, .string (⟨#[]⟩ : ByteArray), .int .i64 0]) (t := 32) ?hr ?_; (case hd => rfl); (case hg => rfl); (case hr => first | (go_simp; done) | (go_simp; rfl)); intro gb132 hg w6 hbox hb; have n0_ := Aside0.mk (blk_below (g := gb131) (o := .cells #[.int .i64 0, .string (⟨#[]⟩ : ByteArray), .int .i64 0] 32 (0, 0)) (by (with_reducible repeat (first | refine blk_drewN ?_ _ | refine blk_drew ?_ | refine blk_alloc ?_ _)); exact BK131.out) hb); have n1_ := Aside0.mk (below_step (by repeat (first | (with_reducible first | exact HB.out | apply below_alloc | apply pw_below_drewN | apply below_drew1 | refine below_set ?_ GE131.out) | exact HB.out)) hb); have n2_ := Aside0.mk (hbox); have n3_ := Aside0.mk ((by rw [hg]; exact (below_size (by repeat (first | (with_reducible first | exact HB.out | apply below_alloc | apply pw_below_drewN | apply below_drew1 | refine below_set ?_ GE131.out) | exact HB.out))) : w.heap.size ≤ gb132)); have n4_ := Aside0.mk ((by rw [hg]; exact (below_size (by repeat (first | (with_reducible first | exact HB.out | apply below_alloc | apply pw_below_drewN | apply below_drew1 | refine below_set ?_ GE131.out) | exact HB.out))) : w.heap.size ≤ gb132)); have n5_ := Aside0.mk ((by rw [hg]; exact Nat.ne_of_lt (blk_lt (g := gb131) (o := .cells #[.int .i64 0, .string (⟨#[]⟩ : ByteArray), .int .i64 0] 32 (0, 0)) (by (with_reducible repeat (first | refine blk_drewN ?_ _ | refine blk_drew ?_ | refine blk_alloc ?_ _)); exact BK131.out)) : gb131 ≠ gb132)); have n6_ := Aside0.mk ((by rw [hg]; exact Nat.ne_of_gt (blk_lt (g := gb131) (o := .cells #[.int .i64 0, .string (⟨#[]⟩ : ByteArray), .int .i64 0] 32 (0, 0)) (by (with_reducible repeat (first | refine blk_drewN ?_ _ | refine blk_drew ?_ | refine blk_alloc ?_ _)); exact BK131.out)) : gb132 ≠ gb131)); clear BK131; clear HB; have BK131 := n0_; have HB := n1_; have BK132 := n2_; have GW132 := n3_; have GE132 := n4_; have NB131_132 := n5_; have NB132_131 := n6_; clear n0_ n1_ n2_ n3_ n4_ n5_ n6_; clear hb hbox hg) | ((with_reducible refine gate_callee (f := 57) rfl ?_); refine goesL_ (some 16) rfl rfl Try.func57 (by kernel_rfl) rfl #[.string a0, .int .i64 a1, .int .u64 1073741824, .bool false] rfl (by (try simp only [List.map_toArray, List.map_cons, List.map_nil]); first | done | rfl | (simp only [List.length_drop, List.length_take]; rfl)) ?_; (with_reducible refine (payoffref03_number.calls k a0 a1 1073741824 false t133 t134 _ A3.out).mono ?_); rintro e w' ⟨rfl, ⟨nd, rfl⟩⟩; refine ⟨_, rfl, ?_⟩))
  (try simp only [Act.put, List.setIfInBounds_toArray, List.set_cons_zero, List.set_cons_succ])
  go_cut [32] (fun v32 wc => ∃ (kq : Nat) (x32_3 : Bool), v32 = .bool x32_3 ∧ Aside0 (payoffref03_line.j0 kq a0 a1 t133 x32_3 0 (⟨#[]⟩ : ByteArray) 0 = some (r1, r2, r3, r4, r5)) ∧ Aside0 (kq ≤ k) ∧ Aside0 (wc.heap[gb131]? = some (.cells #[.int .i64 0, .string (⟨#[]⟩ : ByteArray), .int .i64 0] 32 (0, 0))) ∧ Aside0 (wc.heap[gb132]? = some (.cells #[.int .i64 0, .string (⟨#[]⟩ : ByteArray), .int .i64 0] 32 (0, 0))) ∧ Aside0 (Below w.heap.size w wc))
  case first =>
    have H := HC4.out
    clear HC4
    by_cases c7 : t134 = true
    · subst c7
      have H1 : (if t133 ≥ (a0.size : Int) then (payoffref03_line.j0 k a0 a1 t133 true 0 (⟨#[]⟩ : ByteArray) 0) else (if 0 ≤ t133 then (if t133 < (a0.size : Int) then (payoffref03_line.j0 k a0 a1 t133 ((bt a0 t133) != 32) 0 (⟨#[]⟩ : ByteArray) 0) else (none)) else (none))) = some (r1, r2, r3, r4, r5) := by rw [if_pos rfl] at H; exact H
      clear H
      have H := H1
      clear H1
      by_cases c8 : t133 ≥ (a0.size : Int)
      · rw [if_pos c8] at H
        have c8b0 : decide ((a0.size : Int) ≤ t133) = true := decide_eq_true c8
        clear c8
        (first | rw [c8b0] | (simp only [i64_w, i32_w]; rw [c8b0]) | skip)
        have H' := Aside0.mk H
        clear H
        go_wp2
        go_meet
        case rel => exact ⟨_, (true), (by first | rfl | (simp; done) | (simp [*]; done)), H', ⟨by first | omega | exact Nat.le_refl _⟩, ⟨by (with_reducible repeat (first | refine blk_drewN ?_ _ | refine blk_drew ?_ | refine blk_alloc ?_ _)); exact BK131.out⟩, ⟨by (with_reducible repeat (first | refine blk_drewN ?_ _ | refine blk_drew ?_ | refine blk_alloc ?_ _)); exact BK132.out⟩, ⟨by repeat (first | (with_reducible first | exact HB.out | apply below_alloc | apply pw_below_drewN | apply below_drew1 | refine below_set ?_ GE131.out | refine below_set ?_ GE132.out) | exact HB.out)⟩⟩
      · rw [if_neg c8] at H
        have c8b0 : decide ((a0.size : Int) ≤ t133) = false := decide_eq_false c8
        clear c8
        (first | rw [c8b0] | (simp only [i64_w, i32_w]; rw [c8b0]) | skip)
        by_cases c9 : 0 ≤ t133
        · rw [if_pos c9] at H
          have c9b0 : decide (0 ≤ t133) = true := decide_eq_true c9
          clear c9
          by_cases c10 : t133 < (a0.size : Int)
          · rw [if_pos c10] at H
            have c10b0 : decide (t133 < (a0.size : Int)) = true := decide_eq_true c10
            clear c10
            have H' := Aside0.mk H
            clear H
            have p11 : 0 ≤ (t133 : Int) := of_decide_eq_true (by first | (with_reducible assumption) | assumption)
            have q11 : t133 < (a0.size : Int) := of_decide_eq_true (by first | (with_reducible assumption) | assumption)
            have hx11 := bt_at a0 t133
            replace p11 := eq_true p11
            replace q11 := eq_true q11
            go_wp2
            go_meet
            case rel => exact ⟨_, (((bt a0 t133) != 32)), (by first | rfl | (simp; done) | (simp [*]; done)), H', ⟨by first | omega | exact Nat.le_refl _⟩, ⟨by (with_reducible repeat (first | refine blk_drewN ?_ _ | refine blk_drew ?_ | refine blk_alloc ?_ _)); exact BK131.out⟩, ⟨by (with_reducible repeat (first | refine blk_drewN ?_ _ | refine blk_drew ?_ | refine blk_alloc ?_ _)); exact BK132.out⟩, ⟨by repeat (first | (with_reducible first | exact HB.out | apply below_alloc | apply pw_below_drewN | apply below_drew1 | refine below_set ?_ GE131.out | refine below_set ?_ GE132.out) | exact HB.out)⟩⟩
          · rw [if_neg c10] at H
            exact absurd H (by simp)
        · rw [if_neg c9] at H
          exact absurd H (by simp)
    · replace c7 := Bool.eq_false_iff.mpr c7
      subst c7
      have H1 : (payoffref03_line.j0 k a0 a1 t133 true 0 (⟨#[]⟩ : ByteArray) 0) = some (r1, r2, r3, r4, r5) := by rw [if_neg (show ¬ (false = true) by decide)] at H; exact H
      clear H
      have H := H1
      clear H1
      have H' := Aside0.mk H
      clear H
      go_wp2
      go_meet
      case rel => exact ⟨_, (true), (by first | rfl | (simp; done) | (simp [*]; done)), H', ⟨by first | omega | exact Nat.le_refl _⟩, ⟨by (with_reducible repeat (first | refine blk_drewN ?_ _ | refine blk_drew ?_ | refine blk_alloc ?_ _)); exact BK131.out⟩, ⟨by (with_reducible repeat (first | refine blk_drewN ?_ _ | refine blk_drew ?_ | refine blk_alloc ?_ _)); exact BK132.out⟩, ⟨by repeat (first | (with_reducible first | exact HB.out | apply below_alloc | apply pw_below_drewN | apply below_drew1 | refine below_set ?_ GE131.out | refine below_set ?_ GE132.out) | exact HB.out)⟩⟩
  case rest =>
    clear HC4
    try clear c1
    try clear p1
    try clear q1
    try clear hx1
    try clear p2
    try clear c3
    try clear c5
    try clear c7
    try clear c8
    try clear c8b0
    try clear c9
    try clear c9b0
    try clear c10
    try clear c10b0
    try clear p11
    try clear q11
    try clear hx11
    try clear p11
    try clear q11
    obtain ⟨kq, x32_3, rfl, HA, HJ3, BK131, BK132, HB⟩ := hcut
    cases kq with
    | zero => exact absurd HA.out (by simp [payoffref03_line.j0])
    | succ kj3 =>
      have H := HA.out
      clear HA
      simp only [payoffref03_line.j0] at H
      by_cases c12 : x32_3 = true
      · subst c12
        have H1 : (some (0, (⟨#[]⟩ : ByteArray), 0, t133, false)) = some (r1, r2, r3, r4, r5) := by rw [if_pos rfl] at H; exact H
        clear H
        have H := H1
        clear H1
        simp only [Option.some.injEq, Prod.mk.injEq] at H
        obtain ⟨rfl, rfl, rfl, rfl, rfl⟩ := H
        have hnb13 := NB132_131.out
        have hnc13 := NB131_132.out
        have hcz14_0 : wc.cell? ⟨gb132, 0, none⟩ = some (.int .i64 0) := (blk_cell BK132.out 0).trans rfl
        have hcz14_1 : wc.cell? ⟨gb132, 1, none⟩ = some (.string (⟨#[]⟩ : ByteArray)) := (blk_cell BK132.out 1).trans rfl
        have hcz14_2 : wc.cell? ⟨gb132, 2, none⟩ = some (.int .i64 0) := (blk_cell BK132.out 2).trans rfl
        have hfz14_0 := blk_frozen BK132.out 0
        have hfz14_1 := blk_frozen BK132.out 1
        have hfz14_2 := blk_frozen BK132.out 2
        have hcz15_0 : wc.cell? ⟨gb131, 0, none⟩ = some (.int .i64 0) := (blk_cell BK131.out 0).trans rfl
        have hcz15_1 : wc.cell? ⟨gb131, 1, none⟩ = some (.string (⟨#[]⟩ : ByteArray)) := (blk_cell BK131.out 1).trans rfl
        have hcz15_2 : wc.cell? ⟨gb131, 2, none⟩ = some (.int .i64 0) := (blk_cell BK131.out 2).trans rfl
        have hfz15_0 := blk_frozen BK131.out 0
        have hfz15_1 := blk_frozen BK131.out 1
        have hfz15_2 := blk_frozen BK131.out 2
        go_wp2
        refine bodyPost_ret (results_ctt rfl _ _ gb131 32 #[.int .i64 0, .string (⟨#[]⟩ : ByteArray), .int .i64 0] (0, 0) _ rfl (by (with_reducible repeat (first | refine blk_drewN ?_ _ | refine blk_drew ?_ | refine blk_alloc ?_ _)); refine blk_put (cs := #[.int .i64 0, .string (⟨#[]⟩ : ByteArray), .int .i64 0]) ?_ 2 _ rfl; (with_reducible repeat (first | refine blk_drewN ?_ _ | refine blk_drew ?_ | refine blk_alloc ?_ _)); refine blk_put (cs := #[.int .i64 0, .string (⟨#[]⟩ : ByteArray), .int .i64 0]) ?_ 1 _ rfl; (with_reducible repeat (first | refine blk_drewN ?_ _ | refine blk_drew ?_ | refine blk_alloc ?_ _)); refine blk_put (cs := #[.int .i64 0, .string (⟨#[]⟩ : ByteArray), .int .i64 0]) ?_ 0 _ rfl; (with_reducible repeat (first | refine blk_drewN ?_ _ | refine blk_drew ?_ | refine blk_alloc ?_ _)); exact BK131.out) Try.underlying32 rfl (by kernel_rfl)) rfl ?_
        exact ⟨by first | rfl | (simp [errW_none, errW_some] <;> rfl) | (simp [*, errW_none, errW_some] <;> rfl), by repeat (first | (with_reducible first | exact HB.out | apply below_alloc | apply pw_below_drewN | apply below_drew1 | refine below_set ?_ GE131.out | refine below_set ?_ GE132.out) | exact HB.out)⟩
      · replace c12 := Bool.eq_false_iff.mpr c12
        subst c12
        have H1 : (if 0 ≤ a1 then (if a1 ≤ t133 then (if t133 ≤ (a0.size : Int) then ((payoffref03_value.f kj3 (a0.extract (a1 : Int).toNat (t133 : Int).toNat)).bind fun t135 => (payoffref03_line.l0 kj3 a0 (wrap64 (t133 + 1)) 0 t135 (⟨#[]⟩ : ByteArray) 0)) else (none)) else (none)) else (none)) = some (r1, r2, r3, r4, r5) := by rw [if_neg (show ¬ (false = true) by decide)] at H; exact H
        clear H
        have H := H1
        clear H1
        by_cases c16 : 0 ≤ a1
        · rw [if_pos c16] at H
          have c16b0 := eq_true c16
          have c16b1 : decide (0 ≤ a1) = true := decide_eq_true c16
          clear c16
          by_cases c17 : a1 ≤ t133
          · rw [if_pos c17] at H
            have c17b0 := eq_true c17
            have c17b1 : decide (a1 ≤ t133) = true := decide_eq_true c17
            clear c17
            by_cases c18 : t133 ≤ (a0.size : Int)
            · rw [if_pos c18] at H
              have c18b0 := eq_true c18
              have c18b1 : decide (t133 ≤ (a0.size : Int)) = true := decide_eq_true c18
              clear c18
              replace H := Option.bind_eq_some_iff.mp H
              obtain ⟨t135, A190, H⟩ := H
              replace H : (payoffref03_line.l0 kj3 a0 (wrap64 (t133 + 1)) 0 t135 (⟨#[]⟩ : ByteArray) 0) = some (r1, r2, r3, r4, r5) := H
              have A19 := Aside0.mk A190
              clear A190
              have H' := Aside0.mk H
              clear H
              go_wp2_with (first | ((with_reducible refine gate_callee (f := 58) rfl ?_); refine goesL_ (some 39) rfl rfl Try.func58 (by kernel_rfl) rfl #[.string (a0.extract (a1 : Int).toNat (t133 : Int).toNat)] rfl (by (try simp only [List.map_toArray, List.map_cons, List.map_nil]); first | done | rfl | (simp only [List.length_drop, List.length_take]; rfl)) ?_; (with_reducible refine (payoffref03_value.calls kj3 (a0.extract (a1 : Int).toNat (t133 : Int).toNat) t135 _ A19.out).mono ?_); rintro e w' ⟨rfl, ⟨nd, rfl⟩⟩; refine ⟨_, rfl, ?_⟩; (try (rw [drewN_self wc]; generalize hq_ : World.drewN wc _ = wc; have n0_ : Aside0 (wc.heap[gb131]? = some (.cells #[.int .i64 0, .string (⟨#[]⟩ : ByteArray), .int .i64 0] 32 (0, 0))) := ⟨by rw [← hq_]; exact (by (with_reducible repeat (first | refine blk_drewN ?_ _ | refine blk_drew ?_ | refine blk_alloc ?_ _)); exact BK131.out)⟩; have n1_ : Aside0 (wc.heap[gb132]? = some (.cells #[.int .i64 0, .string (⟨#[]⟩ : ByteArray), .int .i64 0] 32 (0, 0))) := ⟨by rw [← hq_]; exact (by (with_reducible repeat (first | refine blk_drewN ?_ _ | refine blk_drew ?_ | refine blk_alloc ?_ _)); exact BK132.out)⟩; have n2_ : Aside0 (Below w.heap.size w wc) := ⟨by rw [← hq_]; exact (by repeat (first | (with_reducible first | exact HB.out | apply below_alloc | apply pw_below_drewN | apply below_drew1 | refine below_set ?_ GE131.out | refine below_set ?_ GE132.out) | exact HB.out))⟩; clear BK131 BK132 HB hq_; have BK131 := n0_; have BK132 := n1_; have HB := n2_; clear n0_ n1_ n2_)); have hnb20 := NB132_131.out; have hnc20 := NB131_132.out; have hcz21_0 : wc.cell? ⟨gb132, 0, none⟩ = some (.int .i64 0) := (blk_cell BK132.out 0).trans rfl; have hcz21_1 : wc.cell? ⟨gb132, 1, none⟩ = some (.string (⟨#[]⟩ : ByteArray)) := (blk_cell BK132.out 1).trans rfl; have hcz21_2 : wc.cell? ⟨gb132, 2, none⟩ = some (.int .i64 0) := (blk_cell BK132.out 2).trans rfl; have hfz21_0 := blk_frozen BK132.out 0; have hfz21_1 := blk_frozen BK132.out 1; have hfz21_2 := blk_frozen BK132.out 2))
              go_loopg [11] kj3 (fun kq v11 w' => ∃ (x11_2 : Int) (x132000_2 : Int) (x132001_2 : ByteArray) (x132002_2 : Int), v11 = .int .i64 x11_2 ∧ Aside0 (payoffref03_line.l0 kq a0 (wrap64 (t133 + 1)) x11_2 t135 (⟨#[]⟩ : ByteArray) 0 = some (r1, r2, r3, r4, r5)) ∧ Aside0 (kq ≤ kj3) ∧ Aside0 (w'.heap[gb131]? = some (.cells #[.int .i64 x132000_2, .string x132001_2, .int .i64 x132002_2] 32 (0, 0))) ∧ Aside0 (w'.heap[gb132]? = some (.cells #[.int .i64 t135, .string (⟨#[]⟩ : ByteArray), .int .i64 0] 32 (0, 0))) ∧ Aside0 (Below w.heap.size w w'))
              case atStart => exact ⟨(0), (0), ((⟨#[]⟩ : ByteArray)), (0), (by first | rfl | (simp; done) | (simp [*]; done)), H', ⟨Nat.le_refl _⟩, ⟨by (with_reducible repeat (first | refine blk_drewN ?_ _ | refine blk_drew ?_ | refine blk_alloc ?_ _)); refine blk_far ?_ NB131_132.out _; (with_reducible repeat (first | refine blk_drewN ?_ _ | refine blk_drew ?_ | refine blk_alloc ?_ _)); exact BK131.out⟩, ⟨by (with_reducible repeat (first | refine blk_drewN ?_ _ | refine blk_drew ?_ | refine blk_alloc ?_ _)); refine blk_put (cs := #[.int .i64 0, .string (⟨#[]⟩ : ByteArray), .int .i64 0]) ?_ 0 _ rfl; (with_reducible repeat (first | refine blk_drewN ?_ _ | refine blk_drew ?_ | refine blk_alloc ?_ _)); exact BK132.out⟩, ⟨by repeat (first | (with_reducible first | exact HB.out | apply below_alloc | apply pw_below_drewN | apply below_drew1 | refine below_set ?_ GE131.out | refine below_set ?_ GE132.out) | exact HB.out)⟩⟩
              case round =>
                clear H'
                try clear c1
                try clear p1
                try clear q1
                try clear hx1
                try clear c2
                try clear p2
                try clear c3
                try clear c5
                try clear p6
                try clear c7
                try clear c8
                try clear c8b0
                try clear c9
                try clear c9b0
                try clear c10
                try clear c10b0
                try clear p11
                try clear q11
                try clear hx11
                try clear c12
                try clear c13
                try clear c16
                try clear c16b0
                try clear c16b1
                try clear c17
                try clear c17b0
                try clear c17b1
                try clear c18
                try clear c18b0
                try clear c18b1
                try clear c20
                try clear hcz14_0
                try clear hcz14_1
                try clear hcz14_2
                try clear hcz15_0
                try clear hcz15_1
                try clear hcz15_2
                try clear hcz21_0
                try clear hcz21_1
                try clear hcz21_2
                try clear hfz14_0
                try clear hfz14_1
                try clear hfz14_2
                try clear hfz15_0
                try clear hfz15_1
                try clear hfz15_2
                try clear hfz21_0
                try clear hfz21_1
                try clear hfz21_2
                try clear p1
                try clear p11
                try clear p2
                try clear q1
                try clear q11
                obtain ⟨x11_2, x132000_2, x132001_2, x132002_2, rfl, HA, HK2, BK131, BK132, HB⟩ := hrel
                cases gk with
                | zero => exact absurd HA.out (by simp [payoffref03_line.l0])
                | succ k2 =>
                  have H := HA.out
                  clear HA
                  simp only [payoffref03_line.l0] at H
                  by_cases c22 : x11_2 < 3
                  · rw [if_pos c22] at H
                    have c22b0 : decide (x11_2 < 3) = true := decide_eq_true c22
                    clear c22
                    by_cases c23 : (wrap64 ((wrap64 (t133 + 1)) + x11_2)) ≥ (a0.size : Int)
                    · rw [if_pos c23] at H
                      have c23b0 : decide ((a0.size : Int) ≤ (wrap64 ((wrap64 (t133 + 1)) + x11_2))) = true := decide_eq_true c23
                      clear c23
                      simp only [Option.some.injEq, Prod.mk.injEq] at H
                      obtain ⟨rfl, rfl, rfl, rfl, rfl⟩ := H
                      have hnb24 := NB132_131.out
                      have hnc24 := NB131_132.out
                      have hcz25_0 : wr.cell? ⟨gb132, 0, none⟩ = some (.int .i64 t135) := (blk_cell BK132.out 0).trans rfl
                      have hcz25_1 : wr.cell? ⟨gb132, 1, none⟩ = some (.string (⟨#[]⟩ : ByteArray)) := (blk_cell BK132.out 1).trans rfl
                      have hcz25_2 : wr.cell? ⟨gb132, 2, none⟩ = some (.int .i64 0) := (blk_cell BK132.out 2).trans rfl
                      have hfz25_0 := blk_frozen BK132.out 0
                      have hfz25_1 := blk_frozen BK132.out 1
                      have hfz25_2 := blk_frozen BK132.out 2
                      have hcz26_0 : wr.cell? ⟨gb131, 0, none⟩ = some (.int .i64 x132000_2) := (blk_cell BK131.out 0).trans rfl
                      have hcz26_1 : wr.cell? ⟨gb131, 1, none⟩ = some (.string x132001_2) := (blk_cell BK131.out 1).trans rfl
                      have hcz26_2 : wr.cell? ⟨gb131, 2, none⟩ = some (.int .i64 x132002_2) := (blk_cell BK131.out 2).trans rfl
                      have hfz26_0 := blk_frozen BK131.out 0
                      have hfz26_1 := blk_frozen BK131.out 1
                      have hfz26_2 := blk_frozen BK131.out 2
                      go_wp2
                      refine bodyPost_ret (results_ctt rfl _ _ gb131 32 #[.int .i64 t135, .string (⟨#[]⟩ : ByteArray), .int .i64 0] (0, 0) _ rfl (by (with_reducible repeat (first | refine blk_drewN ?_ _ | refine blk_drew ?_ | refine blk_alloc ?_ _)); refine blk_put (cs := #[.int .i64 t135, .string (⟨#[]⟩ : ByteArray), .int .i64 x132002_2]) ?_ 2 _ rfl; (with_reducible repeat (first | refine blk_drewN ?_ _ | refine blk_drew ?_ | refine blk_alloc ?_ _)); refine blk_put (cs := #[.int .i64 t135, .string x132001_2, .int .i64 x132002_2]) ?_ 1 _ rfl; (with_reducible repeat (first | refine blk_drewN ?_ _ | refine blk_drew ?_ | refine blk_alloc ?_ _)); refine blk_put (cs := #[.int .i64 x132000_2, .string x132001_2, .int .i64 x132002_2]) ?_ 0 _ rfl; (with_reducible repeat (first | refine blk_drewN ?_ _ | refine blk_drew ?_ | refine blk_alloc ?_ _)); exact BK131.out) Try.underlying32 rfl (by kernel_rfl)) rfl ?_
                      exact ⟨by first | rfl | (simp [errW_none, errW_some] <;> rfl) | (simp [*, errW_none, errW_some] <;> rfl), by repeat (first | (with_reducible first | exact HB.out | apply below_alloc | apply pw_below_drewN | apply below_drew1 | refine below_set ?_ GE131.out | refine below_set ?_ GE132.out) | exact HB.out)⟩
                    · rw [if_neg c23] at H
                      have c23b0 : decide ((a0.size : Int) ≤ (wrap64 ((wrap64 (t133 + 1)) + x11_2))) = false := decide_eq_false c23
                      clear c23
                      obtain ⟨ji27, hji27⟩ : ∃ j_ : Int, (wrap64 ((wrap64 (t133 + 1)) + x11_2)) = j_ := ⟨_, rfl⟩
                      replace H : (if 0 ≤ (ji27) then (if (ji27) < (a0.size : Int) then (if (bt a0 (ji27)) < 65 then (some (t135, (⟨#[]⟩ : ByteArray), 0, ji27, false)) else (if (bt a0 (ji27)) > 90 then (some (t135, (⟨#[]⟩ : ByteArray), 0, ji27, false)) else (payoffref03_line.l0 k2 a0 (wrap64 (t133 + 1)) (wrap64 (x11_2 + 1)) t135 (⟨#[]⟩ : ByteArray) 0))) else (none)) else (none)) = some (r1, r2, r3, r4, r5) := by first | (rw [hji27] at H; exact H) | (simp only [hji27] at H ⊢; exact H)
                      (try rw [hji27] at c23b0)
                      have hji27w : (IntKind.i64.wrap ((wrap64 (t133 + 1)) + x11_2)) = ji27 := (i64_w _).trans hji27
                      by_cases c28 : 0 ≤ (ji27)
                      · rw [if_pos c28] at H
                        have c28b0 : decide (0 ≤ (ji27)) = true := decide_eq_true c28
                        clear c28
                        by_cases c29 : (ji27) < (a0.size : Int)
                        · rw [if_pos c29] at H
                          have c29b0 : decide ((ji27) < (a0.size : Int)) = true := decide_eq_true c29
                          clear c29
                          by_cases c31 : (bt a0 (ji27)) < 65
                          · rw [if_pos c31] at H
                            have c31b0 : decide ((bt a0 (ji27)) < 65) = true := decide_eq_true c31
                            clear c31
                            simp only [Option.some.injEq, Prod.mk.injEq] at H
                            obtain ⟨rfl, rfl, rfl, rfl, rfl⟩ := H
                            have p30 : 0 ≤ ((ji27) : Int) := of_decide_eq_true (by first | (with_reducible assumption) | assumption)
                            have q30 : (ji27) < (a0.size : Int) := of_decide_eq_true (by first | (with_reducible assumption) | assumption)
                            have hx30 := bt_at a0 (ji27)
                            replace p30 := eq_true p30
                            replace q30 := eq_true q30
                            have hnb32 := NB132_131.out
                            have hnc32 := NB131_132.out
                            have hcz33_0 : wr.cell? ⟨gb132, 0, none⟩ = some (.int .i64 t135) := (blk_cell BK132.out 0).trans rfl
                            have hcz33_1 : wr.cell? ⟨gb132, 1, none⟩ = some (.string (⟨#[]⟩ : ByteArray)) := (blk_cell BK132.out 1).trans rfl
                            have hcz33_2 : wr.cell? ⟨gb132, 2, none⟩ = some (.int .i64 0) := (blk_cell BK132.out 2).trans rfl
                            have hfz33_0 := blk_frozen BK132.out 0
                            have hfz33_1 := blk_frozen BK132.out 1
                            have hfz33_2 := blk_frozen BK132.out 2
                            have hcz34_0 : wr.cell? ⟨gb131, 0, none⟩ = some (.int .i64 x132000_2) := (blk_cell BK131.out 0).trans rfl
                            have hcz34_1 : wr.cell? ⟨gb131, 1, none⟩ = some (.string x132001_2) := (blk_cell BK131.out 1).trans rfl
                            have hcz34_2 : wr.cell? ⟨gb131, 2, none⟩ = some (.int .i64 x132002_2) := (blk_cell BK131.out 2).trans rfl
                            have hfz34_0 := blk_frozen BK131.out 0
                            have hfz34_1 := blk_frozen BK131.out 1
                            have hfz34_2 := blk_frozen BK131.out 2
                            go_wp2
                            refine bodyPost_ret (results_ctt rfl _ _ gb131 32 #[.int .i64 t135, .string (⟨#[]⟩ : ByteArray), .int .i64 0] (0, 0) _ rfl (by (with_reducible repeat (first | refine blk_drewN ?_ _ | refine blk_drew ?_ | refine blk_alloc ?_ _)); refine blk_put (cs := #[.int .i64 t135, .string (⟨#[]⟩ : ByteArray), .int .i64 x132002_2]) ?_ 2 _ rfl; (with_reducible repeat (first | refine blk_drewN ?_ _ | refine blk_drew ?_ | refine blk_alloc ?_ _)); refine blk_put (cs := #[.int .i64 t135, .string x132001_2, .int .i64 x132002_2]) ?_ 1 _ rfl; (with_reducible repeat (first | refine blk_drewN ?_ _ | refine blk_drew ?_ | refine blk_alloc ?_ _)); refine blk_put (cs := #[.int .i64 x132000_2, .string x132001_2, .int .i64 x132002_2]) ?_ 0 _ rfl; (with_reducible repeat (first | refine blk_drewN ?_ _ | refine blk_drew ?_ | refine blk_alloc ?_ _)); exact BK131.out) Try.underlying32 rfl (by kernel_rfl)) rfl ?_
                            exact ⟨by first | rfl | (simp [errW_none, errW_some] <;> rfl) | (simp only [← hji27]; first | rfl | (simp [errW_none, errW_some] <;> rfl)) | (simp [*, errW_none, errW_some] <;> rfl), by repeat (first | (with_reducible first | exact HB.out | apply below_alloc | apply pw_below_drewN | apply below_drew1 | refine below_set ?_ GE131.out | refine below_set ?_ GE132.out) | exact HB.out)⟩
                          · rw [if_neg c31] at H
                            have c31b0 : decide ((bt a0 (ji27)) < 65) = false := decide_eq_false c31
                            clear c31
                            by_cases c36 : (bt a0 (ji27)) > 90
                            · rw [if_pos c36] at H
                              have c36b0 : decide (90 < (bt a0 (ji27))) = true := decide_eq_true c36
                              clear c36
                              simp only [Option.some.injEq, Prod.mk.injEq] at H
                              obtain ⟨rfl, rfl, rfl, rfl, rfl⟩ := H
                              have p30 : 0 ≤ ((ji27) : Int) := of_decide_eq_true (by first | (with_reducible assumption) | assumption)
                              have q30 : (ji27) < (a0.size : Int) := of_decide_eq_true (by first | (with_reducible assumption) | assumption)
                              have hx30 := bt_at a0 (ji27)
                              replace p30 := eq_true p30
                              replace q30 := eq_true q30
                              have p35 : 0 ≤ ((ji27) : Int) := of_decide_eq_true (by first | (with_reducible assumption) | assumption)
                              have q35 : (ji27) < (a0.size : Int) := of_decide_eq_true (by first | (with_reducible assumption) | assumption)
                              have hx35 := bt_at a0 (ji27)
                              replace p35 := eq_true p35
                              replace q35 := eq_true q35
                              have hnb37 := NB132_131.out
                              have hnc37 := NB131_132.out
                              have hcz38_0 : wr.cell? ⟨gb132, 0, none⟩ = some (.int .i64 t135) := (blk_cell BK132.out 0).trans rfl
                              have hcz38_1 : wr.cell? ⟨gb132, 1, none⟩ = some (.string (⟨#[]⟩ : ByteArray)) := (blk_cell BK132.out 1).trans rfl
                              have hcz38_2 : wr.cell? ⟨gb132, 2, none⟩ = some (.int .i64 0) := (blk_cell BK132.out 2).trans rfl
                              have hfz38_0 := blk_frozen BK132.out 0
                              have hfz38_1 := blk_frozen BK132.out 1
                              have hfz38_2 := blk_frozen BK132.out 2
                              have hcz39_0 : wr.cell? ⟨gb131, 0, none⟩ = some (.int .i64 x132000_2) := (blk_cell BK131.out 0).trans rfl
                              have hcz39_1 : wr.cell? ⟨gb131, 1, none⟩ = some (.string x132001_2) := (blk_cell BK131.out 1).trans rfl
                              have hcz39_2 : wr.cell? ⟨gb131, 2, none⟩ = some (.int .i64 x132002_2) := (blk_cell BK131.out 2).trans rfl
                              have hfz39_0 := blk_frozen BK131.out 0
                              have hfz39_1 := blk_frozen BK131.out 1
                              have hfz39_2 := blk_frozen BK131.out 2
                              go_wp2
                              refine bodyPost_ret (results_ctt rfl _ _ gb131 32 #[.int .i64 t135, .string (⟨#[]⟩ : ByteArray), .int .i64 0] (0, 0) _ rfl (by (with_reducible repeat (first | refine blk_drewN ?_ _ | refine blk_drew ?_ | refine blk_alloc ?_ _)); refine blk_put (cs := #[.int .i64 t135, .string (⟨#[]⟩ : ByteArray), .int .i64 x132002_2]) ?_ 2 _ rfl; (with_reducible repeat (first | refine blk_drewN ?_ _ | refine blk_drew ?_ | refine blk_alloc ?_ _)); refine blk_put (cs := #[.int .i64 t135, .string x132001_2, .int .i64 x132002_2]) ?_ 1 _ rfl; (with_reducible repeat (first | refine blk_drewN ?_ _ | refine blk_drew ?_ | refine blk_alloc ?_ _)); refine blk_put (cs := #[.int .i64 x132000_2, .string x132001_2, .int .i64 x132002_2]) ?_ 0 _ rfl; (with_reducible repeat (first | refine blk_drewN ?_ _ | refine blk_drew ?_ | refine blk_alloc ?_ _)); exact BK131.out) Try.underlying32 rfl (by kernel_rfl)) rfl ?_
                              exact ⟨by first | rfl | (simp [errW_none, errW_some] <;> rfl) | (simp only [← hji27]; first | rfl | (simp [errW_none, errW_some] <;> rfl)) | (simp [*, errW_none, errW_some] <;> rfl), by repeat (first | (with_reducible first | exact HB.out | apply below_alloc | apply pw_below_drewN | apply below_drew1 | refine below_set ?_ GE131.out | refine below_set ?_ GE132.out) | exact HB.out)⟩
                            · rw [if_neg c36] at H
                              have c36b0 : decide (90 < (bt a0 (ji27))) = false := decide_eq_false c36
                              clear c36
                              have H' := Aside0.mk H
                              clear H
                              have p30 : 0 ≤ ((ji27) : Int) := of_decide_eq_true (by first | (with_reducible assumption) | assumption)
                              have q30 : (ji27) < (a0.size : Int) := of_decide_eq_true (by first | (with_reducible assumption) | assumption)
                              have hx30 := bt_at a0 (ji27)
                              replace p30 := eq_true p30
                              replace q30 := eq_true q30
                              have p35 : 0 ≤ ((ji27) : Int) := of_decide_eq_true (by first | (with_reducible assumption) | assumption)
                              have q35 : (ji27) < (a0.size : Int) := of_decide_eq_true (by first | (with_reducible assumption) | assumption)
                              have hx35 := bt_at a0 (ji27)
                              replace p35 := eq_true p35
                              replace q35 := eq_true q35
                              go_wp2
                              go_roundg k2
                              case measure => have := HJ3.out; have := HK2.out; omega
                              case rel => exact ⟨(wrap64 (x11_2 + 1)), (x132000_2), (x132001_2), (x132002_2), (by first | rfl | (simp; done) | (simp [*]; done)), H', ⟨by have := HJ3.out; have := HK2.out; omega⟩, ⟨by (with_reducible repeat (first | refine blk_drewN ?_ _ | refine blk_drew ?_ | refine blk_alloc ?_ _)); exact BK131.out⟩, ⟨by (with_reducible repeat (first | refine blk_drewN ?_ _ | refine blk_drew ?_ | refine blk_alloc ?_ _)); exact BK132.out⟩, ⟨by repeat (first | (with_reducible first | exact HB.out | apply below_alloc | apply pw_below_drewN | apply below_drew1 | refine below_set ?_ GE131.out | refine below_set ?_ GE132.out) | exact HB.out)⟩⟩
                        · rw [if_neg c29] at H
                          exact absurd H (by simp)
                      · rw [if_neg c28] at H
                        exact absurd H (by simp)
                  · rw [if_neg c22] at H
                    have c22b0 : decide (x11_2 < 3) = false := decide_eq_false c22
                    clear c22
                    obtain ⟨ji40, hji40⟩ : ∃ j_ : Int, (wrap64 (t133 + 1)) = j_ := ⟨_, rfl⟩
                    replace H : (if 0 ≤ (ji40) then (if (ji40) ≤ (wrap64 ((ji40) + 3)) then (if (wrap64 ((ji40) + 3)) ≤ (a0.size : Int) then (if (wrap64 ((ji40) + 3)) ≥ (a0.size : Int) then (payoffref03_line.j2 k2 a0 (ji40) true t135 (a0.extract ((ji40) : Int).toNat ((wrap64 ((ji40) + 3)) : Int).toNat) 0) else (if 0 ≤ (wrap64 ((ji40) + 3)) then (if (wrap64 ((ji40) + 3)) < (a0.size : Int) then (payoffref03_line.j2 k2 a0 (ji40) ((bt a0 (wrap64 ((ji40) + 3))) != 32) t135 (a0.extract ((ji40) : Int).toNat ((wrap64 ((ji40) + 3)) : Int).toNat) 0) else (none)) else (none))) else (none)) else (none)) else (none)) = some (r1, r2, r3, r4, r5) := by first | (rw [hji40] at H; exact H) | (simp only [hji40] at H ⊢; exact H)
                    have hji40w : (IntKind.i64.wrap (t133 + 1)) = ji40 := (i64_w _).trans hji40
                    by_cases c41 : 0 ≤ (ji40)
                    · rw [if_pos c41] at H
                      have c41b0 := eq_true c41
                      have c41b1 : decide (0 ≤ (ji40)) = true := decide_eq_true c41
                      clear c41
                      by_cases c42 : (ji40) ≤ (wrap64 ((ji40) + 3))
                      · rw [if_pos c42] at H
                        have c42b0 := eq_true c42
                        have c42b1 : decide ((ji40) ≤ (wrap64 ((ji40) + 3))) = true := decide_eq_true c42
                        by_cases c43 : (wrap64 ((ji40) + 3)) ≤ (a0.size : Int)
                        · rw [if_pos c43] at H
                          have c43b0 := eq_true c43
                          have c43b1 : decide ((wrap64 ((ji40) + 3)) ≤ (a0.size : Int)) = true := decide_eq_true c43
                          have HC44 := Aside0.mk H
                          clear H
                          have hnb45 := NB132_131.out
                          have hnc45 := NB131_132.out
                          have hcz46_0 : wr.cell? ⟨gb132, 0, none⟩ = some (.int .i64 t135) := (blk_cell BK132.out 0).trans rfl
                          have hcz46_1 : wr.cell? ⟨gb132, 1, none⟩ = some (.string (⟨#[]⟩ : ByteArray)) := (blk_cell BK132.out 1).trans rfl
                          have hcz46_2 : wr.cell? ⟨gb132, 2, none⟩ = some (.int .i64 0) := (blk_cell BK132.out 2).trans rfl
                          have hfz46_0 := blk_frozen BK132.out 0
                          have hfz46_1 := blk_frozen BK132.out 1
                          have hfz46_2 := blk_frozen BK132.out 2
                          go_upto_region 13 with (fail)
                          go_cut [90] (fun v90 wc => ∃ (kq : Nat) (x90_43 : Bool), v90 = .bool x90_43 ∧ Aside0 (payoffref03_line.j2 kq a0 (ji40) x90_43 t135 (a0.extract ((ji40) : Int).toNat ((wrap64 ((ji40) + 3)) : Int).toNat) 0 = some (r1, r2, r3, r4, r5)) ∧ Aside0 (kq ≤ k2) ∧ Aside0 (wc.heap[gb131]? = some (.cells #[.int .i64 x132000_2, .string x132001_2, .int .i64 x132002_2] 32 (0, 0))) ∧ Aside0 (wc.heap[gb132]? = some (.cells #[.int .i64 t135, .string (a0.extract ((ji40) : Int).toNat ((wrap64 ((ji40) + 3)) : Int).toNat), .int .i64 0] 32 (0, 0))) ∧ Aside0 (Below w.heap.size w wc))
                          case first =>
                            have H := HC44.out
                            clear HC44
                            by_cases c47 : (wrap64 ((ji40) + 3)) ≥ (a0.size : Int)
                            · rw [if_pos c47] at H
                              have c47b0 : decide ((a0.size : Int) ≤ (wrap64 ((ji40) + 3))) = true := decide_eq_true c47
                              clear c47
                              (first | rw [c47b0] | (simp only [i64_w, i32_w]; rw [c47b0]) | skip)
                              have H' := Aside0.mk H
                              clear H
                              go_wp2
                              go_meet
                              case rel => exact ⟨_, (true), (by first | rfl | (simp; done) | (simp [*]; done)), H', ⟨by have := HJ3.out; have := HK2.out; first | omega | exact Nat.le_refl _⟩, ⟨by (with_reducible repeat (first | refine blk_drewN ?_ _ | refine blk_drew ?_ | refine blk_alloc ?_ _)); refine blk_far ?_ NB131_132.out _; (with_reducible repeat (first | refine blk_drewN ?_ _ | refine blk_drew ?_ | refine blk_alloc ?_ _)); exact BK131.out⟩, ⟨by (with_reducible repeat (first | refine blk_drewN ?_ _ | refine blk_drew ?_ | refine blk_alloc ?_ _)); refine blk_put (cs := #[.int .i64 t135, .string (⟨#[]⟩ : ByteArray), .int .i64 0]) ?_ 1 _ rfl; (with_reducible repeat (first | refine blk_drewN ?_ _ | refine blk_drew ?_ | refine blk_alloc ?_ _)); exact BK132.out⟩, ⟨by repeat (first | (with_reducible first | exact HB.out | apply below_alloc | apply pw_below_drewN | apply below_drew1 | refine below_set ?_ GE131.out | refine below_set ?_ GE132.out) | exact HB.out)⟩⟩
                            · rw [if_neg c47] at H
                              have c47b0 : decide ((a0.size : Int) ≤ (wrap64 ((ji40) + 3))) = false := decide_eq_false c47
                              clear c47
                              (first | rw [c47b0] | (simp only [i64_w, i32_w]; rw [c47b0]) | skip)
                              obtain ⟨ji48, hji48⟩ : ∃ j_ : Int, (wrap64 ((ji40) + 3)) = j_ := ⟨_, rfl⟩
                              replace H : (if 0 ≤ (ji48) then (if (ji48) < (a0.size : Int) then (payoffref03_line.j2 k2 a0 (ji40) ((bt a0 (ji48)) != 32) t135 (a0.extract ((ji40) : Int).toNat ((ji48) : Int).toNat) 0) else (none)) else (none)) = some (r1, r2, r3, r4, r5) := by first | (rw [hji48] at H; exact H) | (simp only [hji48] at H ⊢; exact H)
                              (try rw [hji48] at c42b0)
                              (try rw [hji48] at c42b1)
                              (try rw [hji48] at c42)
                              (try rw [hji48] at c43b0)
                              (try rw [hji48] at c43b1)
                              (try rw [hji48] at c43)
                              (try rw [hji48] at c47b0)
                              have hji48w : (IntKind.i64.wrap ((ji40) + 3)) = ji48 := (i64_w _).trans hji48
                              by_cases c49 : 0 ≤ (ji48)
                              · rw [if_pos c49] at H
                                have c49b0 : decide (0 ≤ (ji48)) = true := decide_eq_true c49
                                clear c49
                                by_cases c50 : (ji48) < (a0.size : Int)
                                · rw [if_pos c50] at H
                                  have c50b0 : decide ((ji48) < (a0.size : Int)) = true := decide_eq_true c50
                                  clear c50
                                  have H' := Aside0.mk H
                                  clear H
                                  have p51 : 0 ≤ ((ji48) : Int) := of_decide_eq_true (by first | (with_reducible assumption) | assumption)
                                  have q51 : (ji48) < (a0.size : Int) := of_decide_eq_true (by first | (with_reducible assumption) | assumption)
                                  have hx51 := bt_at a0 (ji48)
                                  replace p51 := eq_true p51
                                  replace q51 := eq_true q51
                                  go_wp2
                                  go_meet
                                  case rel => subst hji48; exact ⟨_, _, (by first | rfl | (simp; done) | (simp only [← hji48] <;> (first | rfl | simp)) | (simp [*]; done)), H', ⟨by have := HJ3.out; have := HK2.out; first | omega | exact Nat.le_refl _⟩, ⟨by (with_reducible repeat (first | refine blk_drewN ?_ _ | refine blk_drew ?_ | refine blk_alloc ?_ _)); refine blk_far ?_ NB131_132.out _; (with_reducible repeat (first | refine blk_drewN ?_ _ | refine blk_drew ?_ | refine blk_alloc ?_ _)); exact BK131.out⟩, ⟨by (with_reducible repeat (first | refine blk_drewN ?_ _ | refine blk_drew ?_ | refine blk_alloc ?_ _)); refine blk_put (cs := #[.int .i64 t135, .string (⟨#[]⟩ : ByteArray), .int .i64 0]) ?_ 1 _ rfl; (with_reducible repeat (first | refine blk_drewN ?_ _ | refine blk_drew ?_ | refine blk_alloc ?_ _)); exact BK132.out⟩, ⟨by repeat (first | (with_reducible first | exact HB.out | apply below_alloc | apply pw_below_drewN | apply below_drew1 | refine below_set ?_ GE131.out | refine below_set ?_ GE132.out) | exact HB.out)⟩⟩
                                · rw [if_neg c50] at H
                                  exact absurd H (by simp)
                              · rw [if_neg c49] at H
                                exact absurd H (by simp)
                          case rest =>
                            clear HC44
                            try clear c1
                            try clear p1
                            try clear q1
                            try clear hx1
                            try clear c2
                            try clear p2
                            try clear c3
                            try clear p3
                            try clear q3
                            try clear hx3
                            try clear c4
                            try clear c5
                            try clear p5
                            try clear q5
                            try clear hx5
                            try clear p6
                            try clear c7
                            try clear c8
                            try clear c8b0
                            try clear c9
                            try clear c9b0
                            try clear c10
                            try clear c10b0
                            try clear p11
                            try clear q11
                            try clear hx11
                            try clear c12
                            try clear c13
                            try clear c16
                            try clear c16b0
                            try clear c16b1
                            try clear c17
                            try clear c17b0
                            try clear c17b1
                            try clear c18
                            try clear c18b0
                            try clear c18b1
                            try clear c20
                            try clear c22
                            try clear c22b0
                            try clear c23
                            try clear c23b0
                            try clear c24
                            try clear c28
                            try clear c28b0
                            try clear c29
                            try clear c29b0
                            try clear p30
                            try clear q30
                            try clear hx30
                            try clear c31
                            try clear c31b0
                            try clear c32
                            try clear p35
                            try clear q35
                            try clear hx35
                            try clear c36
                            try clear c36b0
                            try clear c37
                            try clear c39
                            try clear c41
                            try clear c41b0
                            try clear c41b1
                            try clear c42
                            try clear c42b0
                            try clear c42b1
                            try clear c43
                            try clear c43b0
                            try clear c43b1
                            try clear c45
                            try clear c47
                            try clear c47b0
                            try clear c49
                            try clear c49b0
                            try clear c50
                            try clear c50b0
                            try clear p51
                            try clear q51
                            try clear hx51
                            try clear hcz14_0
                            try clear hcz14_1
                            try clear hcz14_2
                            try clear hcz15_0
                            try clear hcz15_1
                            try clear hcz15_2
                            try clear hcz21_0
                            try clear hcz21_1
                            try clear hcz21_2
                            try clear hcz25_0
                            try clear hcz25_1
                            try clear hcz25_2
                            try clear hcz26_0
                            try clear hcz26_1
                            try clear hcz26_2
                            try clear hcz33_0
                            try clear hcz33_1
                            try clear hcz33_2
                            try clear hcz34_0
                            try clear hcz34_1
                            try clear hcz34_2
                            try clear hcz38_0
                            try clear hcz38_1
                            try clear hcz38_2
                            try clear hcz39_0
                            try clear hcz39_1
                            try clear hcz39_2
                            try clear hcz46_0
                            try clear hcz46_1
                            try clear hcz46_2
                            try clear hfz14_0
                            try clear hfz14_1
                            try clear hfz14_2
                            try clear hfz15_0
                            try clear hfz15_1
                            try clear hfz15_2
                            try clear hfz21_0
                            try clear hfz21_1
                            try clear hfz21_2
                            try clear hfz25_0
                            try clear hfz25_1
                            try clear hfz25_2
                            try clear hfz26_0
                            try clear hfz26_1
                            try clear hfz26_2
                            try clear hfz33_0
                            try clear hfz33_1
                            try clear hfz33_2
                            try clear hfz34_0
                            try clear hfz34_1
                            try clear hfz34_2
                            try clear hfz38_0
                            try clear hfz38_1
                            try clear hfz38_2
                            try clear hfz39_0
                            try clear hfz39_1
                            try clear hfz39_2
                            try clear hfz46_0
                            try clear hfz46_1
                            try clear hfz46_2
                            try clear p1
                            try clear p11
                            try clear p2
                            try clear p30
                            try clear p35
                            try clear p51
                            try clear p6
                            try clear q1
                            try clear q11
                            try clear q30
                            try clear q35
                            try clear q51
                            obtain ⟨kq, x90_43, rfl, HA, HJ43, BK131, BK132, HB⟩ := hcut
                            cases kq with
                            | zero => exact absurd HA.out (by simp [payoffref03_line.j2])
                            | succ kj43 =>
                              have H := HA.out
                              clear HA
                              simp only [payoffref03_line.j2] at H
                              by_cases c52 : x90_43 = true
                              · subst c52
                                have H1 : (some (t135, (a0.extract ((ji40) : Int).toNat ((wrap64 ((ji40) + 3)) : Int).toNat), 0, wrap64 ((ji40) + 3), false)) = some (r1, r2, r3, r4, r5) := by rw [if_pos rfl] at H; exact H
                                clear H
                                have H := H1
                                clear H1
                                simp only [Option.some.injEq, Prod.mk.injEq] at H
                                obtain ⟨rfl, rfl, rfl, rfl, rfl⟩ := H
                                have hnb53 := NB132_131.out
                                have hnc53 := NB131_132.out
                                have hcz54_0 : wc.cell? ⟨gb132, 0, none⟩ = some (.int .i64 t135) := (blk_cell BK132.out 0).trans rfl
                                have hcz54_1 : wc.cell? ⟨gb132, 1, none⟩ = some (.string (a0.extract ((ji40) : Int).toNat ((wrap64 ((ji40) + 3)) : Int).toNat)) := (blk_cell BK132.out 1).trans rfl
                                have hcz54_2 : wc.cell? ⟨gb132, 2, none⟩ = some (.int .i64 0) := (blk_cell BK132.out 2).trans rfl
                                have hfz54_0 := blk_frozen BK132.out 0
                                have hfz54_1 := blk_frozen BK132.out 1
                                have hfz54_2 := blk_frozen BK132.out 2
                                have hcz55_0 : wc.cell? ⟨gb131, 0, none⟩ = some (.int .i64 x132000_2) := (blk_cell BK131.out 0).trans rfl
                                have hcz55_1 : wc.cell? ⟨gb131, 1, none⟩ = some (.string x132001_2) := (blk_cell BK131.out 1).trans rfl
                                have hcz55_2 : wc.cell? ⟨gb131, 2, none⟩ = some (.int .i64 x132002_2) := (blk_cell BK131.out 2).trans rfl
                                have hfz55_0 := blk_frozen BK131.out 0
                                have hfz55_1 := blk_frozen BK131.out 1
                                have hfz55_2 := blk_frozen BK131.out 2
                                go_wp2
                                refine bodyPost_ret (results_ctt rfl _ _ gb131 32 #[.int .i64 t135, .string (a0.extract ((ji40) : Int).toNat ((wrap64 ((ji40) + 3)) : Int).toNat), .int .i64 0] (0, 0) _ rfl (by (with_reducible repeat (first | refine blk_drewN ?_ _ | refine blk_drew ?_ | refine blk_alloc ?_ _)); refine blk_put (cs := #[.int .i64 t135, .string (a0.extract ((ji40) : Int).toNat ((wrap64 ((ji40) + 3)) : Int).toNat), .int .i64 x132002_2]) ?_ 2 _ rfl; (with_reducible repeat (first | refine blk_drewN ?_ _ | refine blk_drew ?_ | refine blk_alloc ?_ _)); refine blk_put (cs := #[.int .i64 t135, .string x132001_2, .int .i64 x132002_2]) ?_ 1 _ rfl; (with_reducible repeat (first | refine blk_drewN ?_ _ | refine blk_drew ?_ | refine blk_alloc ?_ _)); refine blk_put (cs := #[.int .i64 x132000_2, .string x132001_2, .int .i64 x132002_2]) ?_ 0 _ rfl; (with_reducible repeat (first | refine blk_drewN ?_ _ | refine blk_drew ?_ | refine blk_alloc ?_ _)); exact BK131.out) Try.underlying32 rfl (by kernel_rfl)) rfl ?_
                                exact ⟨by first | rfl | (simp [errW_none, errW_some] <;> rfl) | (simp only [← hji40]; first | rfl | (simp [errW_none, errW_some] <;> rfl)) | (simp [*, errW_none, errW_some] <;> rfl), by repeat (first | (with_reducible first | exact HB.out | apply below_alloc | apply pw_below_drewN | apply below_drew1 | refine below_set ?_ GE131.out | refine below_set ?_ GE132.out) | exact HB.out)⟩
                              · replace c52 := Bool.eq_false_iff.mpr c52
                                subst c52
                                have H1 : ((payoffref03_number.f kj43 a0 (wrap64 ((ji40) + 4)) 9223372036854775807 true).bind fun bt136 => (if bt136.2 = true then (if bt136.1 ≥ (a0.size : Int) then (some (t135, (a0.extract ((ji40) : Int).toNat ((wrap64 ((ji40) + 3)) : Int).toNat), 0, bt136.1, false)) else (if 0 ≤ bt136.1 then (if bt136.1 < (a0.size : Int) then (if (bt a0 bt136.1) = 10 then (if 0 ≤ (wrap64 ((ji40) + 4)) then (if (wrap64 ((ji40) + 4)) ≤ bt136.1 then (if bt136.1 ≤ (a0.size : Int) then ((payoffref03_value.f kj43 (a0.extract ((wrap64 ((ji40) + 4)) : Int).toNat (bt136.1 : Int).toNat)).bind fun t138 => (some (t135, (a0.extract ((ji40) : Int).toNat ((wrap64 ((ji40) + 3)) : Int).toNat), t138, wrap64 (bt136.1 + 1), true))) else (none)) else (none)) else (none)) else (some (t135, (a0.extract ((ji40) : Int).toNat ((wrap64 ((ji40) + 3)) : Int).toNat), 0, bt136.1, false))) else (none)) else (none))) else (some (t135, (a0.extract ((ji40) : Int).toNat ((wrap64 ((ji40) + 3)) : Int).toNat), 0, bt136.1, false)))) = some (r1, r2, r3, r4, r5) := by rw [if_neg (show ¬ (false = true) by decide)] at H; exact H
                                clear H
                                have H := H1
                                clear H1
                                replace H := Option.bind_eq_some_iff.mp H
                                obtain ⟨⟨t136, t137⟩, A560, H⟩ := H
                                replace H : (if t137 = true then (if t136 ≥ (a0.size : Int) then (some (t135, (a0.extract ((ji40) : Int).toNat ((wrap64 ((ji40) + 3)) : Int).toNat), 0, t136, false)) else (if 0 ≤ t136 then (if t136 < (a0.size : Int) then (if (bt a0 t136) = 10 then (if 0 ≤ (wrap64 ((ji40) + 4)) then (if (wrap64 ((ji40) + 4)) ≤ t136 then (if t136 ≤ (a0.size : Int) then ((payoffref03_value.f kj43 (a0.extract ((wrap64 ((ji40) + 4)) : Int).toNat (t136 : Int).toNat)).bind fun t138 => (some (t135, (a0.extract ((ji40) : Int).toNat ((wrap64 ((ji40) + 3)) : Int).toNat), t138, wrap64 (t136 + 1), true))) else (none)) else (none)) else (none)) else (some (t135, (a0.extract ((ji40) : Int).toNat ((wrap64 ((ji40) + 3)) : Int).toNat), 0, t136, false))) else (none)) else (none))) else (some (t135, (a0.extract ((ji40) : Int).toNat ((wrap64 ((ji40) + 3)) : Int).toNat), 0, t136, false))) = some (r1, r2, r3, r4, r5) := H
                                have A56 := Aside0.mk A560
                                clear A560
                                by_cases c57 : t137 = true
                                · subst c57
                                  have H1 : (if t136 ≥ (a0.size : Int) then (some (t135, (a0.extract ((ji40) : Int).toNat ((wrap64 ((ji40) + 3)) : Int).toNat), 0, t136, false)) else (if 0 ≤ t136 then (if t136 < (a0.size : Int) then (if (bt a0 t136) = 10 then (if 0 ≤ (wrap64 ((ji40) + 4)) then (if (wrap64 ((ji40) + 4)) ≤ t136 then (if t136 ≤ (a0.size : Int) then ((payoffref03_value.f kj43 (a0.extract ((wrap64 ((ji40) + 4)) : Int).toNat (t136 : Int).toNat)).bind fun t138 => (some (t135, (a0.extract ((ji40) : Int).toNat ((wrap64 ((ji40) + 3)) : Int).toNat), t138, wrap64 (t136 + 1), true))) else (none)) else (none)) else (none)) else (some (t135, (a0.extract ((ji40) : Int).toNat ((wrap64 ((ji40) + 3)) : Int).toNat), 0, t136, false))) else (none)) else (none))) = some (r1, r2, r3, r4, r5) := by rw [if_pos rfl] at H; exact H
                                  clear H
                                  have H := H1
                                  clear H1
                                  by_cases c58 : t136 ≥ (a0.size : Int)
                                  · rw [if_pos c58] at H
                                    have c58b0 : decide ((a0.size : Int) ≤ t136) = true := decide_eq_true c58
                                    clear c58
                                    simp only [Option.some.injEq, Prod.mk.injEq] at H
                                    obtain ⟨rfl, rfl, rfl, rfl, rfl⟩ := H
                                    go_wp2_with (first | ((with_reducible refine gate_callee (f := 57) rfl ?_); refine goesL_ (some 98) rfl rfl Try.func57 (by kernel_rfl) rfl #[.string a0, .int .i64 (wrap64 ((ji40) + 4)), .int .u64 9223372036854775807, .bool true] rfl (by (try simp only [List.map_toArray, List.map_cons, List.map_nil]); first | done | (simp only [hji40]; rfl) | rfl | (simp only [List.length_drop, List.length_take]; rfl)) ?_; (with_reducible refine (payoffref03_number.calls kj43 a0 (wrap64 ((ji40) + 4)) 9223372036854775807 true t136 true _ A56.out).mono ?_); rintro e w' ⟨rfl, ⟨nd, rfl⟩⟩; refine ⟨_, rfl, ?_⟩; (try (rw [drewN_self wc]; generalize hq_ : World.drewN wc _ = wc; have n0_ : Aside0 (wc.heap[gb131]? = some (.cells #[.int .i64 x132000_2, .string x132001_2, .int .i64 x132002_2] 32 (0, 0))) := ⟨by rw [← hq_]; exact (by (with_reducible repeat (first | refine blk_drewN ?_ _ | refine blk_drew ?_ | refine blk_alloc ?_ _)); exact BK131.out)⟩; have n1_ : Aside0 (wc.heap[gb132]? = some (.cells #[.int .i64 t135, .string (a0.extract ((ji40) : Int).toNat ((wrap64 ((ji40) + 3)) : Int).toNat), .int .i64 0] 32 (0, 0))) := ⟨by rw [← hq_]; exact (by (with_reducible repeat (first | refine blk_drewN ?_ _ | refine blk_drew ?_ | refine blk_alloc ?_ _)); exact BK132.out)⟩; have n2_ : Aside0 (Below w.heap.size w wc) := ⟨by rw [← hq_]; exact (by repeat (first | (with_reducible first | exact HB.out | apply below_alloc | apply pw_below_drewN | apply below_drew1 | refine below_set ?_ GE131.out | refine below_set ?_ GE132.out) | exact HB.out))⟩; clear BK131 BK132 HB hq_; have BK131 := n0_; have BK132 := n1_; have HB := n2_; clear n0_ n1_ n2_)); have hnb59 := NB132_131.out; have hnc59 := NB131_132.out; have hcz60_0 : wc.cell? ⟨gb132, 0, none⟩ = some (.int .i64 t135) := (blk_cell BK132.out 0).trans rfl; have hcz60_1 : wc.cell? ⟨gb132, 1, none⟩ = some (.string (a0.extract ((ji40) : Int).toNat ((wrap64 ((ji40) + 3)) : Int).toNat)) := (blk_cell BK132.out 1).trans rfl; have hcz60_2 : wc.cell? ⟨gb132, 2, none⟩ = some (.int .i64 0) := (blk_cell BK132.out 2).trans rfl; have hfz60_0 := blk_frozen BK132.out 0; have hfz60_1 := blk_frozen BK132.out 1; have hfz60_2 := blk_frozen BK132.out 2; have hcz61_0 : wc.cell? ⟨gb131, 0, none⟩ = some (.int .i64 x132000_2) := (blk_cell BK131.out 0).trans rfl; have hcz61_1 : wc.cell? ⟨gb131, 1, none⟩ = some (.string x132001_2) := (blk_cell BK131.out 1).trans rfl; have hcz61_2 : wc.cell? ⟨gb131, 2, none⟩ = some (.int .i64 x132002_2) := (blk_cell BK131.out 2).trans rfl; have hfz61_0 := blk_frozen BK131.out 0; have hfz61_1 := blk_frozen BK131.out 1; have hfz61_2 := blk_frozen BK131.out 2))
                                    refine bodyPost_ret (results_ctt rfl _ _ gb131 32 #[.int .i64 t135, .string (a0.extract ((ji40) : Int).toNat ((wrap64 ((ji40) + 3)) : Int).toNat), .int .i64 0] (0, 0) _ rfl (by (with_reducible repeat (first | refine blk_drewN ?_ _ | refine blk_drew ?_ | refine blk_alloc ?_ _)); refine blk_put (cs := #[.int .i64 t135, .string (a0.extract ((ji40) : Int).toNat ((wrap64 ((ji40) + 3)) : Int).toNat), .int .i64 x132002_2]) ?_ 2 _ rfl; (with_reducible repeat (first | refine blk_drewN ?_ _ | refine blk_drew ?_ | refine blk_alloc ?_ _)); refine blk_put (cs := #[.int .i64 t135, .string x132001_2, .int .i64 x132002_2]) ?_ 1 _ rfl; (with_reducible repeat (first | refine blk_drewN ?_ _ | refine blk_drew ?_ | refine blk_alloc ?_ _)); refine blk_put (cs := #[.int .i64 x132000_2, .string x132001_2, .int .i64 x132002_2]) ?_ 0 _ rfl; (with_reducible repeat (first | refine blk_drewN ?_ _ | refine blk_drew ?_ | refine blk_alloc ?_ _)); exact BK131.out) Try.underlying32 rfl (by kernel_rfl)) rfl ?_
                                    exact ⟨by first | rfl | (simp [errW_none, errW_some] <;> rfl) | (simp only [← hji40]; first | rfl | (simp [errW_none, errW_some] <;> rfl)) | (simp [*, errW_none, errW_some] <;> rfl), by repeat (first | (with_reducible first | exact HB.out | apply below_alloc | apply pw_below_drewN | apply below_drew1 | refine below_set ?_ GE131.out | refine below_set ?_ GE132.out) | exact HB.out)⟩
                                  · rw [if_neg c58] at H
                                    have c58b0 : decide ((a0.size : Int) ≤ t136) = false := decide_eq_false c58
                                    clear c58
                                    by_cases c62 : 0 ≤ t136
                                    · rw [if_pos c62] at H
                                      have c62b0 : decide (0 ≤ t136) = true := decide_eq_true c62
                                      clear c62
                                      by_cases c63 : t136 < (a0.size : Int)
                                      · rw [if_pos c63] at H
                                        have c63b0 : decide (t136 < (a0.size : Int)) = true := decide_eq_true c63
                                        clear c63
                                        by_cases c65 : (bt a0 t136) = 10
                                        · rw [if_pos c65] at H
                                          have c65b0 : ((bt a0 t136) == 10) = true := beq_iff_eq.mpr c65
                                          have c65b1 : ((bt a0 t136) != 10) = false := bne_eq_false_iff_eq.mpr c65
                                          clear c65
                                          obtain ⟨ji66, hji66⟩ : ∃ j_ : Int, (wrap64 ((ji40) + 4)) = j_ := ⟨_, rfl⟩
                                          replace H : (if 0 ≤ (ji66) then (if (ji66) ≤ t136 then (if t136 ≤ (a0.size : Int) then ((payoffref03_value.f kj43 (a0.extract ((ji66) : Int).toNat (t136 : Int).toNat)).bind fun t138 => (some (t135, (a0.extract ((ji40) : Int).toNat ((wrap64 ((ji40) + 3)) : Int).toNat), t138, wrap64 (t136 + 1), true))) else (none)) else (none)) else (none)) = some (r1, r2, r3, r4, r5) := by first | (rw [hji66] at H; exact H) | (simp only [hji66] at H ⊢; exact H)
                                          (try rw [hji66] at A56)
                                          have hji66w : (IntKind.i64.wrap ((ji40) + 4)) = ji66 := (i64_w _).trans hji66
                                          by_cases c67 : 0 ≤ (ji66)
                                          · rw [if_pos c67] at H
                                            have c67b0 := eq_true c67
                                            have c67b1 : decide (0 ≤ (ji66)) = true := decide_eq_true c67
                                            clear c67
                                            by_cases c68 : (ji66) ≤ t136
                                            · rw [if_pos c68] at H
                                              have c68b0 := eq_true c68
                                              have c68b1 : decide ((ji66) ≤ t136) = true := decide_eq_true c68
                                              clear c68
                                              by_cases c69 : t136 ≤ (a0.size : Int)
                                              · rw [if_pos c69] at H
                                                have c69b0 := eq_true c69
                                                have c69b1 : decide (t136 ≤ (a0.size : Int)) = true := decide_eq_true c69
                                                clear c69
                                                replace H := Option.bind_eq_some_iff.mp H
                                                obtain ⟨t138, A700, H⟩ := H
                                                replace H : (some (t135, (a0.extract ((ji40) : Int).toNat ((wrap64 ((ji40) + 3)) : Int).toNat), t138, wrap64 (t136 + 1), true)) = some (r1, r2, r3, r4, r5) := H
                                                have A70 := Aside0.mk A700
                                                clear A700
                                                simp only [Option.some.injEq, Prod.mk.injEq] at H
                                                obtain ⟨rfl, rfl, rfl, rfl, rfl⟩ := H
                                                go_wp2_with (first | ((with_reducible refine gate_callee (f := 57) rfl ?_); refine goesL_ (some 98) rfl rfl Try.func57 (by kernel_rfl) rfl #[.string a0, .int .i64 ji66, .int .u64 9223372036854775807, .bool true] rfl (by (try simp only [List.map_toArray, List.map_cons, List.map_nil]); first | done | (simp only [hji66]; rfl) | rfl | (simp only [List.length_drop, List.length_take]; rfl)) ?_; (with_reducible refine (payoffref03_number.calls kj43 a0 ji66 9223372036854775807 true t136 true _ A56.out).mono ?_); rintro e w' ⟨rfl, ⟨nd, rfl⟩⟩; refine ⟨_, rfl, ?_⟩; (try (rw [drewN_self wc]; generalize hq_ : World.drewN wc _ = wc; have n0_ : Aside0 (wc.heap[gb131]? = some (.cells #[.int .i64 x132000_2, .string x132001_2, .int .i64 x132002_2] 32 (0, 0))) := ⟨by rw [← hq_]; exact (by (with_reducible repeat (first | refine blk_drewN ?_ _ | refine blk_drew ?_ | refine blk_alloc ?_ _)); exact BK131.out)⟩; have n1_ : Aside0 (wc.heap[gb132]? = some (.cells #[.int .i64 t135, .string (a0.extract ((ji40) : Int).toNat ((wrap64 ((ji40) + 3)) : Int).toNat), .int .i64 0] 32 (0, 0))) := ⟨by rw [← hq_]; exact (by (with_reducible repeat (first | refine blk_drewN ?_ _ | refine blk_drew ?_ | refine blk_alloc ?_ _)); exact BK132.out)⟩; have n2_ : Aside0 (Below w.heap.size w wc) := ⟨by rw [← hq_]; exact (by repeat (first | (with_reducible first | exact HB.out | apply below_alloc | apply pw_below_drewN | apply below_drew1 | refine below_set ?_ GE131.out | refine below_set ?_ GE132.out) | exact HB.out))⟩; clear BK131 BK132 HB hq_; have BK131 := n0_; have BK132 := n1_; have HB := n2_; clear n0_ n1_ n2_)); have p64 : 0 ≤ (t136 : Int) := of_decide_eq_true (by first | (with_reducible assumption) | assumption); have q64 : t136 < (a0.size : Int) := of_decide_eq_true (by first | (with_reducible assumption) | assumption); have hx64 := bt_at a0 t136; replace p64 := eq_true p64; replace q64 := eq_true q64) | ((with_reducible refine gate_callee (f := 58) rfl ?_); refine goesL_ (some 122) rfl rfl Try.func58 (by kernel_rfl) rfl #[.string (a0.extract ((ji66) : Int).toNat (t136 : Int).toNat)] rfl (by (try simp only [List.map_toArray, List.map_cons, List.map_nil]); first | done | (simp only [hji66]; rfl) | rfl | (simp only [List.length_drop, List.length_take]; rfl)) ?_; (with_reducible refine (payoffref03_value.calls kj43 (a0.extract ((ji66) : Int).toNat (t136 : Int).toNat) t138 _ A70.out).mono ?_); rintro e w' ⟨rfl, ⟨nd, rfl⟩⟩; refine ⟨_, rfl, ?_⟩; (try (rw [drewN_self wc]; generalize hq_ : World.drewN wc _ = wc; have n0_ : Aside0 (wc.heap[gb131]? = some (.cells #[.int .i64 x132000_2, .string x132001_2, .int .i64 x132002_2] 32 (0, 0))) := ⟨by rw [← hq_]; exact (by (with_reducible repeat (first | refine blk_drewN ?_ _ | refine blk_drew ?_ | refine blk_alloc ?_ _)); exact BK131.out)⟩; have n1_ : Aside0 (wc.heap[gb132]? = some (.cells #[.int .i64 t135, .string (a0.extract ((ji40) : Int).toNat ((wrap64 ((ji40) + 3)) : Int).toNat), .int .i64 0] 32 (0, 0))) := ⟨by rw [← hq_]; exact (by (with_reducible repeat (first | refine blk_drewN ?_ _ | refine blk_drew ?_ | refine blk_alloc ?_ _)); exact BK132.out)⟩; have n2_ : Aside0 (Below w.heap.size w wc) := ⟨by rw [← hq_]; exact (by repeat (first | (with_reducible first | exact HB.out | apply below_alloc | apply pw_below_drewN | apply below_drew1 | refine below_set ?_ GE131.out | refine below_set ?_ GE132.out) | exact HB.out))⟩; clear BK131 BK132 HB hq_; have BK131 := n0_; have BK132 := n1_; have HB := n2_; clear n0_ n1_ n2_)); have hnb71 := NB132_131.out; have hnc71 := NB131_132.out; have hcz72_0 : wc.cell? ⟨gb132, 0, none⟩ = some (.int .i64 t135) := (blk_cell BK132.out 0).trans rfl; have hcz72_1 : wc.cell? ⟨gb132, 1, none⟩ = some (.string (a0.extract ((ji40) : Int).toNat ((wrap64 ((ji40) + 3)) : Int).toNat)) := (blk_cell BK132.out 1).trans rfl; have hcz72_2 : wc.cell? ⟨gb132, 2, none⟩ = some (.int .i64 0) := (blk_cell BK132.out 2).trans rfl; have hfz72_0 := blk_frozen BK132.out 0; have hfz72_1 := blk_frozen BK132.out 1; have hfz72_2 := blk_frozen BK132.out 2; have hcz73_0 : wc.cell? ⟨gb131, 0, none⟩ = some (.int .i64 x132000_2) := (blk_cell BK131.out 0).trans rfl; have hcz73_1 : wc.cell? ⟨gb131, 1, none⟩ = some (.string x132001_2) := (blk_cell BK131.out 1).trans rfl; have hcz73_2 : wc.cell? ⟨gb131, 2, none⟩ = some (.int .i64 x132002_2) := (blk_cell BK131.out 2).trans rfl; have hfz73_0 := blk_frozen BK131.out 0; have hfz73_1 := blk_frozen BK131.out 1; have hfz73_2 := blk_frozen BK131.out 2))
                                                refine bodyPost_ret (results_ctt rfl _ _ gb131 32 #[.int .i64 t135, .string (a0.extract ((ji40) : Int).toNat ((wrap64 ((ji40) + 3)) : Int).toNat), .int .i64 t138] (0, 0) _ rfl (by (with_reducible repeat (first | refine blk_drewN ?_ _ | refine blk_drew ?_ | refine blk_alloc ?_ _)); refine blk_put (cs := #[.int .i64 t135, .string (a0.extract ((ji40) : Int).toNat ((wrap64 ((ji40) + 3)) : Int).toNat), .int .i64 x132002_2]) ?_ 2 _ rfl; (with_reducible repeat (first | refine blk_drewN ?_ _ | refine blk_drew ?_ | refine blk_alloc ?_ _)); refine blk_put (cs := #[.int .i64 t135, .string x132001_2, .int .i64 x132002_2]) ?_ 1 _ rfl; (with_reducible repeat (first | refine blk_drewN ?_ _ | refine blk_drew ?_ | refine blk_alloc ?_ _)); refine blk_put (cs := #[.int .i64 x132000_2, .string x132001_2, .int .i64 x132002_2]) ?_ 0 _ rfl; (with_reducible repeat (first | refine blk_drewN ?_ _ | refine blk_drew ?_ | refine blk_alloc ?_ _)); refine blk_far ?_ NB131_132.out _; (with_reducible repeat (first | refine blk_drewN ?_ _ | refine blk_drew ?_ | refine blk_alloc ?_ _)); exact BK131.out) Try.underlying32 rfl (by kernel_rfl)) rfl ?_
                                                exact ⟨by first | rfl | (simp [errW_none, errW_some] <;> rfl) | (simp only [← hji40, ← hji66]; first | rfl | (simp [errW_none, errW_some] <;> rfl)) | (simp [*, errW_none, errW_some] <;> rfl), by repeat (first | (with_reducible first | exact HB.out | apply below_alloc | apply pw_below_drewN | apply below_drew1 | refine below_set ?_ GE131.out | refine below_set ?_ GE132.out) | exact HB.out)⟩
                                              · rw [if_neg c69] at H
                                                exact absurd H (by simp)
                                            · rw [if_neg c68] at H
                                              exact absurd H (by simp)
                                          · rw [if_neg c67] at H
                                            exact absurd H (by simp)
                                        · rw [if_neg c65] at H
                                          have c65b0 : ((bt a0 t136) == 10) = false := beq_eq_false_iff_ne.mpr c65
                                          have c65b1 : ((bt a0 t136) != 10) = true := bne_iff_ne.mpr c65
                                          simp only [Option.some.injEq, Prod.mk.injEq] at H
                                          obtain ⟨rfl, rfl, rfl, rfl, rfl⟩ := H
                                          go_wp2_with (first | ((with_reducible refine gate_callee (f := 57) rfl ?_); refine goesL_ (some 98) rfl rfl Try.func57 (by kernel_rfl) rfl #[.string a0, .int .i64 (wrap64 ((ji40) + 4)), .int .u64 9223372036854775807, .bool true] rfl (by (try simp only [List.map_toArray, List.map_cons, List.map_nil]); first | done | (simp only [hji40]; rfl) | rfl | (simp only [List.length_drop, List.length_take]; rfl)) ?_; (with_reducible refine (payoffref03_number.calls kj43 a0 (wrap64 ((ji40) + 4)) 9223372036854775807 true t136 true _ A56.out).mono ?_); rintro e w' ⟨rfl, ⟨nd, rfl⟩⟩; refine ⟨_, rfl, ?_⟩; (try (rw [drewN_self wc]; generalize hq_ : World.drewN wc _ = wc; have n0_ : Aside0 (wc.heap[gb131]? = some (.cells #[.int .i64 x132000_2, .string x132001_2, .int .i64 x132002_2] 32 (0, 0))) := ⟨by rw [← hq_]; exact (by (with_reducible repeat (first | refine blk_drewN ?_ _ | refine blk_drew ?_ | refine blk_alloc ?_ _)); exact BK131.out)⟩; have n1_ : Aside0 (wc.heap[gb132]? = some (.cells #[.int .i64 t135, .string (a0.extract ((ji40) : Int).toNat ((wrap64 ((ji40) + 3)) : Int).toNat), .int .i64 0] 32 (0, 0))) := ⟨by rw [← hq_]; exact (by (with_reducible repeat (first | refine blk_drewN ?_ _ | refine blk_drew ?_ | refine blk_alloc ?_ _)); exact BK132.out)⟩; have n2_ : Aside0 (Below w.heap.size w wc) := ⟨by rw [← hq_]; exact (by repeat (first | (with_reducible first | exact HB.out | apply below_alloc | apply pw_below_drewN | apply below_drew1 | refine below_set ?_ GE131.out | refine below_set ?_ GE132.out) | exact HB.out))⟩; clear BK131 BK132 HB hq_; have BK131 := n0_; have BK132 := n1_; have HB := n2_; clear n0_ n1_ n2_)); have p64 : 0 ≤ (t136 : Int) := of_decide_eq_true (by first | (with_reducible assumption) | assumption); have q64 : t136 < (a0.size : Int) := of_decide_eq_true (by first | (with_reducible assumption) | assumption); have hx64 := bt_at a0 t136; replace p64 := eq_true p64; replace q64 := eq_true q64; have hnb74 := NB132_131.out; have hnc74 := NB131_132.out; have hcz75_0 : wc.cell? ⟨gb132, 0, none⟩ = some (.int .i64 t135) := (blk_cell BK132.out 0).trans rfl; have hcz75_1 : wc.cell? ⟨gb132, 1, none⟩ = some (.string (a0.extract ((ji40) : Int).toNat ((wrap64 ((ji40) + 3)) : Int).toNat)) := (blk_cell BK132.out 1).trans rfl; have hcz75_2 : wc.cell? ⟨gb132, 2, none⟩ = some (.int .i64 0) := (blk_cell BK132.out 2).trans rfl; have hfz75_0 := blk_frozen BK132.out 0; have hfz75_1 := blk_frozen BK132.out 1; have hfz75_2 := blk_frozen BK132.out 2; have hcz76_0 : wc.cell? ⟨gb131, 0, none⟩ = some (.int .i64 x132000_2) := (blk_cell BK131.out 0).trans rfl; have hcz76_1 : wc.cell? ⟨gb131, 1, none⟩ = some (.string x132001_2) := (blk_cell BK131.out 1).trans rfl; have hcz76_2 : wc.cell? ⟨gb131, 2, none⟩ = some (.int .i64 x132002_2) := (blk_cell BK131.out 2).trans rfl; have hfz76_0 := blk_frozen BK131.out 0; have hfz76_1 := blk_frozen BK131.out 1; have hfz76_2 := blk_frozen BK131.out 2))
                                          refine bodyPost_ret (results_ctt rfl _ _ gb131 32 #[.int .i64 t135, .string (a0.extract ((ji40) : Int).toNat ((wrap64 ((ji40) + 3)) : Int).toNat), .int .i64 0] (0, 0) _ rfl (by (with_reducible repeat (first | refine blk_drewN ?_ _ | refine blk_drew ?_ | refine blk_alloc ?_ _)); refine blk_put (cs := #[.int .i64 t135, .string (a0.extract ((ji40) : Int).toNat ((wrap64 ((ji40) + 3)) : Int).toNat), .int .i64 x132002_2]) ?_ 2 _ rfl; (with_reducible repeat (first | refine blk_drewN ?_ _ | refine blk_drew ?_ | refine blk_alloc ?_ _)); refine blk_put (cs := #[.int .i64 t135, .string x132001_2, .int .i64 x132002_2]) ?_ 1 _ rfl; (with_reducible repeat (first | refine blk_drewN ?_ _ | refine blk_drew ?_ | refine blk_alloc ?_ _)); refine blk_put (cs := #[.int .i64 x132000_2, .string x132001_2, .int .i64 x132002_2]) ?_ 0 _ rfl; (with_reducible repeat (first | refine blk_drewN ?_ _ | refine blk_drew ?_ | refine blk_alloc ?_ _)); exact BK131.out) Try.underlying32 rfl (by kernel_rfl)) rfl ?_
                                          exact ⟨by first | rfl | (simp [errW_none, errW_some] <;> rfl) | (simp only [← hji40]; first | rfl | (simp [errW_none, errW_some] <;> rfl)) | (simp [*, errW_none, errW_some] <;> rfl), by repeat (first | (with_reducible first | exact HB.out | apply below_alloc | apply pw_below_drewN | apply below_drew1 | refine below_set ?_ GE131.out | refine below_set ?_ GE132.out) | exact HB.out)⟩
                                      · rw [if_neg c63] at H
                                        exact absurd H (by simp)
                                    · rw [if_neg c62] at H
                                      exact absurd H (by simp)
                                · replace c57 := Bool.eq_false_iff.mpr c57
                                  subst c57
                                  have H1 : (some (t135, (a0.extract ((ji40) : Int).toNat ((wrap64 ((ji40) + 3)) : Int).toNat), 0, t136, false)) = some (r1, r2, r3, r4, r5) := by rw [if_neg (show ¬ (false = true) by decide)] at H; exact H
                                  clear H
                                  have H := H1
                                  clear H1
                                  simp only [Option.some.injEq, Prod.mk.injEq] at H
                                  obtain ⟨rfl, rfl, rfl, rfl, rfl⟩ := H
                                  go_wp2_with (first | ((with_reducible refine gate_callee (f := 57) rfl ?_); refine goesL_ (some 98) rfl rfl Try.func57 (by kernel_rfl) rfl #[.string a0, .int .i64 (wrap64 ((ji40) + 4)), .int .u64 9223372036854775807, .bool true] rfl (by (try simp only [List.map_toArray, List.map_cons, List.map_nil]); first | done | (simp only [hji40]; rfl) | rfl | (simp only [List.length_drop, List.length_take]; rfl)) ?_; (with_reducible refine (payoffref03_number.calls kj43 a0 (wrap64 ((ji40) + 4)) 9223372036854775807 true t136 false _ A56.out).mono ?_); rintro e w' ⟨rfl, ⟨nd, rfl⟩⟩; refine ⟨_, rfl, ?_⟩; (try (rw [drewN_self wc]; generalize hq_ : World.drewN wc _ = wc; have n0_ : Aside0 (wc.heap[gb131]? = some (.cells #[.int .i64 x132000_2, .string x132001_2, .int .i64 x132002_2] 32 (0, 0))) := ⟨by rw [← hq_]; exact (by (with_reducible repeat (first | refine blk_drewN ?_ _ | refine blk_drew ?_ | refine blk_alloc ?_ _)); exact BK131.out)⟩; have n1_ : Aside0 (wc.heap[gb132]? = some (.cells #[.int .i64 t135, .string (a0.extract ((ji40) : Int).toNat ((wrap64 ((ji40) + 3)) : Int).toNat), .int .i64 0] 32 (0, 0))) := ⟨by rw [← hq_]; exact (by (with_reducible repeat (first | refine blk_drewN ?_ _ | refine blk_drew ?_ | refine blk_alloc ?_ _)); exact BK132.out)⟩; have n2_ : Aside0 (Below w.heap.size w wc) := ⟨by rw [← hq_]; exact (by repeat (first | (with_reducible first | exact HB.out | apply below_alloc | apply pw_below_drewN | apply below_drew1 | refine below_set ?_ GE131.out | refine below_set ?_ GE132.out) | exact HB.out))⟩; clear BK131 BK132 HB hq_; have BK131 := n0_; have BK132 := n1_; have HB := n2_; clear n0_ n1_ n2_)); have hnb77 := NB132_131.out; have hnc77 := NB131_132.out; have hcz78_0 : wc.cell? ⟨gb132, 0, none⟩ = some (.int .i64 t135) := (blk_cell BK132.out 0).trans rfl; have hcz78_1 : wc.cell? ⟨gb132, 1, none⟩ = some (.string (a0.extract ((ji40) : Int).toNat ((wrap64 ((ji40) + 3)) : Int).toNat)) := (blk_cell BK132.out 1).trans rfl; have hcz78_2 : wc.cell? ⟨gb132, 2, none⟩ = some (.int .i64 0) := (blk_cell BK132.out 2).trans rfl; have hfz78_0 := blk_frozen BK132.out 0; have hfz78_1 := blk_frozen BK132.out 1; have hfz78_2 := blk_frozen BK132.out 2; have hcz79_0 : wc.cell? ⟨gb131, 0, none⟩ = some (.int .i64 x132000_2) := (blk_cell BK131.out 0).trans rfl; have hcz79_1 : wc.cell? ⟨gb131, 1, none⟩ = some (.string x132001_2) := (blk_cell BK131.out 1).trans rfl; have hcz79_2 : wc.cell? ⟨gb131, 2, none⟩ = some (.int .i64 x132002_2) := (blk_cell BK131.out 2).trans rfl; have hfz79_0 := blk_frozen BK131.out 0; have hfz79_1 := blk_frozen BK131.out 1; have hfz79_2 := blk_frozen BK131.out 2))
                                  refine bodyPost_ret (results_ctt rfl _ _ gb131 32 #[.int .i64 t135, .string (a0.extract ((ji40) : Int).toNat ((wrap64 ((ji40) + 3)) : Int).toNat), .int .i64 0] (0, 0) _ rfl (by (with_reducible repeat (first | refine blk_drewN ?_ _ | refine blk_drew ?_ | refine blk_alloc ?_ _)); refine blk_put (cs := #[.int .i64 t135, .string (a0.extract ((ji40) : Int).toNat ((wrap64 ((ji40) + 3)) : Int).toNat), .int .i64 x132002_2]) ?_ 2 _ rfl; (with_reducible repeat (first | refine blk_drewN ?_ _ | refine blk_drew ?_ | refine blk_alloc ?_ _)); refine blk_put (cs := #[.int .i64 t135, .string x132001_2, .int .i64 x132002_2]) ?_ 1 _ rfl; (with_reducible repeat (first | refine blk_drewN ?_ _ | refine blk_drew ?_ | refine blk_alloc ?_ _)); refine blk_put (cs := #[.int .i64 x132000_2, .string x132001_2, .int .i64 x132002_2]) ?_ 0 _ rfl; (with_reducible repeat (first | refine blk_drewN ?_ _ | refine blk_drew ?_ | refine blk_alloc ?_ _)); exact BK131.out) Try.underlying32 rfl (by kernel_rfl)) rfl ?_
                                  exact ⟨by first | rfl | (simp [errW_none, errW_some] <;> rfl) | (simp only [← hji40]; first | rfl | (simp [errW_none, errW_some] <;> rfl)) | (simp [*, errW_none, errW_some] <;> rfl), by repeat (first | (with_reducible first | exact HB.out | apply below_alloc | apply pw_below_drewN | apply below_drew1 | refine below_set ?_ GE131.out | refine below_set ?_ GE132.out) | exact HB.out)⟩
                        · rw [if_neg c43] at H
                          exact absurd H (by simp)
                      · rw [if_neg c42] at H
                        exact absurd H (by simp)
                    · rw [if_neg c41] at H
                      exact absurd H (by simp)
            · rw [if_neg c18] at H
              exact absurd H (by simp)
          · rw [if_neg c17] at H
            exact absurd H (by simp)
        · rw [if_neg c16] at H
          exact absurd H (by simp)

end Go.Proofs.Ytdfndbegifdejaa.GParses
