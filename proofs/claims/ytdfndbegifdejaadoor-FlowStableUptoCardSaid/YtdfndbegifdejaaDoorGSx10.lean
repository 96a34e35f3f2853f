-- By this session's own program over the kit's printer; functions named GIVEN are proved by hand. Not trusted: Lean checks it.
import Derived.Test.YtdfndbegifdejaaDoorGSx0
import Derived.Test.YtdfndbegifdejaaDoorGDx1
import Derived.Test.YtdfndbegifdejaaDoorGDx10
import Derived.Test.YtdfndbegifdejaaDoorMrgX
namespace Go.Proofs.YtdfndbegifdejaaDoor.GD
open Go.RowKit Go.Proofs.YtdfndbegifdejaaDoorW.PrintWords Go.Proofs.YtdfndbegifdejaaDoorW.PrintLast Go.Proofs.YtdfndbegifdejaaDoorW.PrintMore
attribute [local go_sem] max2_int min2_int max_two min_two max_three min_three max_four min_four   -- for this text's walks alone
set_option linter.unusedVariables false
set_option linter.unusedSimpArgs false

attribute [local go_sem high] eqA32
/-! ### payofflaw03_FlowStable: function 8 -/
mutual
noncomputable def payofflaw03_FlowStable.l0 : Nat → List (List (S32)) → Int → Int → Option (Bool)
  | 0, _, _, _ => none
  | k + 1, x0, x3, x4 => if x4 < (x0.length : Int) then (payofflaw03_FlowStable.l1 k x0 x3 x4 1) else ((flow_Merge.f x0).bind fun bt157 => (if bt157.2 = 0 then (payofflaw03_FlowStable.j2 k x0 bt157.1 ((bt157.1.length : Int) != x3)) else (payofflaw03_FlowStable.j2 k x0 bt157.1 true)))
noncomputable def payofflaw03_FlowStable.l1 : Nat → List (List (S32)) → Int → Int → Int → Option (Bool)
  | 0, _, _, _, _ => none
  | k + 1, x0, x3, x4, x5 => if 0 ≤ x4 then (if x4 < (x0.length : Int) then (if x5 < ((rd_L3 x0 x4).length : Int) then (if 0 ≤ x5 then (if 0 ≤ (wrap64 (x5 - 1)) then (if (wrap64 (x5 - 1)) < ((rd_L3 x0 x4).length : Int) then (if ((rd_T32 (rd_L3 x0 x4) x5).f0) < ((rd_T32 (rd_L3 x0 x4) (wrap64 (x5 - 1))).f0) then ((flow_Merge.f x0).bind fun bt152 => (some (bt152.2 == 1))) else (payofflaw03_FlowStable.l1 k x0 x3 x4 (wrap64 (x5 + 1)))) else (none)) else (none)) else (none)) else (payofflaw03_FlowStable.l0 k x0 (wrap64 (x3 + ((rd_L3 x0 x4).length : Int))) (wrap64 (x4 + 1)))) else (none)) else (none)
noncomputable def payofflaw03_FlowStable.j2 : Nat → List (List (S32)) → List (S32) → Bool → Option (Bool)
  | 0, _, _, _ => none
  | k + 1, x0, x8, x76 => if x76 = true then (some false) else (payofflaw03_FlowStable.l2 k x0 x8 0)
noncomputable def payofflaw03_FlowStable.l2 : Nat → List (List (S32)) → List (S32) → Int → Option (Bool)
  | 0, _, _, _ => none
  | k + 1, x0, x8, x10 => if x10 < (x8.length : Int) then (if 0 ≤ x10 then (if x10 > 0 then (if 0 ≤ (wrap64 (x10 - 1)) then (if (wrap64 (x10 - 1)) < (x8.length : Int) then (payofflaw03_FlowStable.j4 k x0 x8 x10 x10 ((rd_T32 x8 x10).f0) (decide (((rd_T32 x8 (wrap64 (x10 - 1))).f0) ≥ ((rd_T32 x8 x10).f0)))) else (none)) else (none)) else (payofflaw03_FlowStable.j4 k x0 x8 x10 x10 ((rd_T32 x8 x10).f0) false)) else (none)) else (some true)
noncomputable def payofflaw03_FlowStable.j4 : Nat → List (List (S32)) → List (S32) → Int → Int → Int → Bool → Option (Bool)
  | 0, _, _, _, _, _, _ => none
  | k + 1, x0, x8, x10, x11, x12, x98 => if x98 = true then (some false) else (payofflaw03_FlowStable.l3 k x0 x8 x10 x11 x12 0)
noncomputable def payofflaw03_FlowStable.l3 : Nat → List (List (S32)) → List (S32) → Int → Int → Int → Int → Option (Bool)
  | 0, _, _, _, _, _, _ => none
  | k + 1, x0, x8, x10, x11, x12, x13 => if x13 < (x0.length : Int) then (payofflaw03_FlowStable.l4 k x0 x8 x10 x11 x12 x13 0) else (if x10 = x11 then (some false) else (payofflaw03_FlowStable.l2 k x0 x8 x10))
noncomputable def payofflaw03_FlowStable.l4 : Nat → List (List (S32)) → List (S32) → Int → Int → Int → Int → Int → Option (Bool)
  | 0, _, _, _, _, _, _, _ => none
  | k + 1, x0, x8, x10, x11, x12, x13, x14 => if 0 ≤ x13 then (if x13 < (x0.length : Int) then (if x14 < ((rd_L3 x0 x13).length : Int) then (if 0 ≤ x14 then (if ((rd_T32 (rd_L3 x0 x13) x14).f0) = x12 then (if x10 ≥ (x8.length : Int) then (some false) else (if 0 ≤ x10 then (if x10 < (x8.length : Int) then (if (!(((rd_T32 x8 x10).f0) == ((rd_T32 (rd_L3 x0 x13) x14).f0)) || (!((((rd_T32 x8 x10).f1).toList) == (((rd_T32 (rd_L3 x0 x13) x14).f1).toList)) || (!(((rd_T32 x8 x10).f2) == ((rd_T32 (rd_L3 x0 x13) x14).f2))))) = true then (some false) else (payofflaw03_FlowStable.l4 k x0 x8 (wrap64 (x10 + 1)) x11 x12 x13 (wrap64 (x14 + 1)))) else (none)) else (none))) else (payofflaw03_FlowStable.l4 k x0 x8 x10 x11 x12 x13 (wrap64 (x14 + 1)))) else (none)) else (payofflaw03_FlowStable.l3 k x0 x8 x10 x11 x12 (wrap64 (x13 + 1)))) else (none)) else (none)
end
noncomputable def payofflaw03_FlowStable.f (k : Nat) (l0 : List (List (S32))) : Option (Bool) := (payofflaw03_heads.f k).bind fun t146 => (if t146 = true then (payofflaw03_FlowStable.l0 k l0 0 0) else (some false))
theorem payofflaw03_FlowStable.mono_l : ∀ k, (∀ y0 y1 y2, LeO (payofflaw03_FlowStable.l0 k y0 y1 y2) (payofflaw03_FlowStable.l0 (k + 1) y0 y1 y2)) ∧ (∀ y0 y1 y2 y3, LeO (payofflaw03_FlowStable.l1 k y0 y1 y2 y3) (payofflaw03_FlowStable.l1 (k + 1) y0 y1 y2 y3)) ∧ (∀ y0 y1 y2, LeO (payofflaw03_FlowStable.j2 k y0 y1 y2) (payofflaw03_FlowStable.j2 (k + 1) y0 y1 y2)) ∧ (∀ y0 y1 y2, LeO (payofflaw03_FlowStable.l2 k y0 y1 y2) (payofflaw03_FlowStable.l2 (k + 1) y0 y1 y2)) ∧ (∀ y0 y1 y2 y3 y4 y5, LeO (payofflaw03_FlowStable.j4 k y0 y1 y2 y3 y4 y5) (payofflaw03_FlowStable.j4 (k + 1) y0 y1 y2 y3 y4 y5)) ∧ (∀ y0 y1 y2 y3 y4 y5, LeO (payofflaw03_FlowStable.l3 k y0 y1 y2 y3 y4 y5) (payofflaw03_FlowStable.l3 (k + 1) y0 y1 y2 y3 y4 y5)) ∧ (∀ y0 y1 y2 y3 y4 y5 y6, LeO (payofflaw03_FlowStable.l4 k y0 y1 y2 y3 y4 y5 y6) (payofflaw03_FlowStable.l4 (k + 1) y0 y1 y2 y3 y4 y5 y6))
  | 0 => ⟨fun _ _ _ r h => by simp [payofflaw03_FlowStable.l0] at h, fun _ _ _ _ r h => by simp [payofflaw03_FlowStable.l1] at h, fun _ _ _ r h => by simp [payofflaw03_FlowStable.j2] at h, fun _ _ _ r h => by simp [payofflaw03_FlowStable.l2] at h, fun _ _ _ _ _ _ r h => by simp [payofflaw03_FlowStable.j4] at h, fun _ _ _ _ _ _ r h => by simp [payofflaw03_FlowStable.l3] at h, fun _ _ _ _ _ _ _ r h => by simp [payofflaw03_FlowStable.l4] at h⟩
  | k + 1 => by
    obtain ⟨ih0, ih1, ih2, ih3, ih4, ih5, ih6⟩ := payofflaw03_FlowStable.mono_l k
    refine ⟨?_, ?_, ?_, ?_, ?_, ?_, ?_⟩
    · intro y0 y1 y2
      unfold payofflaw03_FlowStable.l0
      repeat' first
      | (with_reducible exact ih0 _ _ _)
      | (with_reducible exact ih1 _ _ _ _)
      | (with_reducible exact ih2 _ _ _)
      | (with_reducible exact ih3 _ _ _)
      | (with_reducible exact ih4 _ _ _ _ _ _)
      | (with_reducible exact ih5 _ _ _ _ _ _)
      | (with_reducible exact ih6 _ _ _ _ _ _ _)
      | (with_reducible exact payofflaw03_heads.mono _)
      | (with_reducible exact LeO.refl _)
      | (with_reducible exact LeO.none _)
      | (with_reducible refine LeO.ite ?_ ?_)
      | (with_reducible refine LeO.bind ?_ (fun _ => ?_))
      | exact ih0 _ _ _
      | exact ih1 _ _ _ _
      | exact ih2 _ _ _
      | exact ih3 _ _ _
      | exact ih4 _ _ _ _ _ _
      | exact ih5 _ _ _ _ _ _
      | exact ih6 _ _ _ _ _ _ _
      | exact payofflaw03_heads.mono _
      | exact LeO.none _
      | refine LeO.ite ?_ ?_
      | refine LeO.bind ?_ (fun _ => ?_)
    · intro y0 y1 y2 y3
      unfold payofflaw03_FlowStable.l1
      repeat' first
      | (with_reducible exact ih0 _ _ _)
      | (with_reducible exact ih1 _ _ _ _)
      | (with_reducible exact ih2 _ _ _)
      | (with_reducible exact ih3 _ _ _)
      | (with_reducible exact ih4 _ _ _ _ _ _)
      | (with_reducible exact ih5 _ _ _ _ _ _)
      | (with_reducible exact ih6 _ _ _ _ _ _ _)
      | (with_reducible exact payofflaw03_heads.mono _)
      | (with_reducible exact LeO.refl _)
      | (with_reducible exact LeO.none _)
      | (with_reducible refine LeO.ite ?_ ?_)
      | (with_reducible refine LeO.bind ?_ (fun _ => ?_))
      | exact ih0 _ _ _
      | exact ih1 _ _ _ _
      | exact ih2 _ _ _
      | exact ih3 _ _ _
      | exact ih4 _ _ _ _ _ _
      | exact ih5 _ _ _ _ _ _
      | exact ih6 _ _ _ _ _ _ _
      | exact payofflaw03_heads.mono _
      | exact LeO.none _
      | refine LeO.ite ?_ ?_
      | refine LeO.bind ?_ (fun _ => ?_)
    · intro y0 y1 y2
      unfold payofflaw03_FlowStable.j2
      repeat' first
      | (with_reducible exact ih0 _ _ _)
      | (with_reducible exact ih1 _ _ _ _)
      | (with_reducible exact ih2 _ _ _)
      | (with_reducible exact ih3 _ _ _)
      | (with_reducible exact ih4 _ _ _ _ _ _)
      | (with_reducible exact ih5 _ _ _ _ _ _)
      | (with_reducible exact ih6 _ _ _ _ _ _ _)
      | (with_reducible exact payofflaw03_heads.mono _)
      | (with_reducible exact LeO.refl _)
      | (with_reducible exact LeO.none _)
      | (with_reducible refine LeO.ite ?_ ?_)
      | (with_reducible refine LeO.bind ?_ (fun _ => ?_))
      | exact ih0 _ _ _
      | exact ih1 _ _ _ _
      | exact ih2 _ _ _
      | exact ih3 _ _ _
      | exact ih4 _ _ _ _ _ _
      | exact ih5 _ _ _ _ _ _
      | exact ih6 _ _ _ _ _ _ _
      | exact payofflaw03_heads.mono _
      | exact LeO.none _
      | refine LeO.ite ?_ ?_
      | refine LeO.bind ?_ (fun _ => ?_)
    · intro y0 y1 y2
      unfold payofflaw03_FlowStable.l2
      repeat' first
      | (with_reducible exact ih0 _ _ _)
      | (with_reducible exact ih1 _ _ _ _)
      | (with_reducible exact ih2 _ _ _)
      | (with_reducible exact ih3 _ _ _)
      | (with_reducible exact ih4 _ _ _ _ _ _)
      | (with_reducible exact ih5 _ _ _ _ _ _)
      | (with_reducible exact ih6 _ _ _ _ _ _ _)
      | (with_reducible exact payofflaw03_heads.mono _)
      | (with_reducible exact LeO.refl _)
      | (with_reducible exact LeO.none _)
      | (with_reducible refine LeO.ite ?_ ?_)
      | (with_reducible refine LeO.bind ?_ (fun _ => ?_))
      | exact ih0 _ _ _
      | exact ih1 _ _ _ _
      | exact ih2 _ _ _
      | exact ih3 _ _ _
      | exact ih4 _ _ _ _ _ _
      | exact ih5 _ _ _ _ _ _
      | exact ih6 _ _ _ _ _ _ _
      | exact payofflaw03_heads.mono _
      | exact LeO.none _
      | refine LeO.ite ?_ ?_
      | refine LeO.bind ?_ (fun _ => ?_)
    · intro y0 y1 y2 y3 y4 y5
      unfold payofflaw03_FlowStable.j4
      repeat' first
      | (with_reducible exact ih0 _ _ _)
      | (with_reducible exact ih1 _ _ _ _)
      | (with_reducible exact ih2 _ _ _)
      | (with_reducible exact ih3 _ _ _)
      | (with_reducible exact ih4 _ _ _ _ _ _)
      | (with_reducible exact ih5 _ _ _ _ _ _)
      | (with_reducible exact ih6 _ _ _ _ _ _ _)
      | (with_reducible exact payofflaw03_heads.mono _)
      | (with_reducible exact LeO.refl _)
      | (with_reducible exact LeO.none _)
      | (with_reducible refine LeO.ite ?_ ?_)
      | (with_reducible refine LeO.bind ?_ (fun _ => ?_))
      | exact ih0 _ _ _
      | exact ih1 _ _ _ _
      | exact ih2 _ _ _
      | exact ih3 _ _ _
      | exact ih4 _ _ _ _ _ _
      | exact ih5 _ _ _ _ _ _
      | exact ih6 _ _ _ _ _ _ _
      | exact payofflaw03_heads.mono _
      | exact LeO.none _
      | refine LeO.ite ?_ ?_
      | refine LeO.bind ?_ (fun _ => ?_)
    · intro y0 y1 y2 y3 y4 y5
      unfold payofflaw03_FlowStable.l3
      repeat' first
      | (with_reducible exact ih0 _ _ _)
      | (with_reducible exact ih1 _ _ _ _)
      | (with_reducible exact ih2 _ _ _)
      | (with_reducible exact ih3 _ _ _)
      | (with_reducible exact ih4 _ _ _ _ _ _)
      | (with_reducible exact ih5 _ _ _ _ _ _)
      | (with_reducible exact ih6 _ _ _ _ _ _ _)
      | (with_reducible exact payofflaw03_heads.mono _)
      | (with_reducible exact LeO.refl _)
      | (with_reducible exact LeO.none _)
      | (with_reducible refine LeO.ite ?_ ?_)
      | (with_reducible refine LeO.bind ?_ (fun _ => ?_))
      | exact ih0 _ _ _
      | exact ih1 _ _ _ _
      | exact ih2 _ _ _
      | exact ih3 _ _ _
      | exact ih4 _ _ _ _ _ _
      | exact ih5 _ _ _ _ _ _
      | exact ih6 _ _ _ _ _ _ _
      | exact payofflaw03_heads.mono _
      | exact LeO.none _
      | refine LeO.ite ?_ ?_
      | refine LeO.bind ?_ (fun _ => ?_)
    · intro y0 y1 y2 y3 y4 y5 y6
      unfold payofflaw03_FlowStable.l4
      repeat' first
      | (with_reducible exact ih0 _ _ _)
      | (with_reducible exact ih1 _ _ _ _)
      | (with_reducible exact ih2 _ _ _)
      | (with_reducible exact ih3 _ _ _)
      | (with_reducible exact ih4 _ _ _ _ _ _)
      | (with_reducible exact ih5 _ _ _ _ _ _)
      | (with_reducible exact ih6 _ _ _ _ _ _ _)
      | (with_reducible exact payofflaw03_heads.mono _)
      | (with_reducible exact LeO.refl _)
      | (with_reducible exact LeO.none _)
      | (with_reducible refine LeO.ite ?_ ?_)
      | (with_reducible refine LeO.bind ?_ (fun _ => ?_))
      | exact ih0 _ _ _
      | exact ih1 _ _ _ _
      | exact ih2 _ _ _
      | exact ih3 _ _ _
      | exact ih4 _ _ _ _ _ _
      | exact ih5 _ _ _ _ _ _
      | exact ih6 _ _ _ _ _ _ _
      | exact payofflaw03_heads.mono _
      | exact LeO.none _
      | refine LeO.ite ?_ ?_
      | refine LeO.bind ?_ (fun _ => ?_)
theorem payofflaw03_FlowStable.mono : ∀ a0 k, LeO (payofflaw03_FlowStable.f k a0) (payofflaw03_FlowStable.f (k + 1) a0) := by
  intro a0 k
  obtain ⟨ih0, ih1, ih2, ih3, ih4, ih5, ih6⟩ := payofflaw03_FlowStable.mono_l k
  unfold payofflaw03_FlowStable.f
  repeat' first
      | (with_reducible exact ih0 _ _ _)
      | (with_reducible exact ih1 _ _ _ _)
      | (with_reducible exact ih2 _ _ _)
      | (with_reducible exact ih3 _ _ _)
      | (with_reducible exact ih4 _ _ _ _ _ _)
      | (with_reducible exact ih5 _ _ _ _ _ _)
      | (with_reducible exact ih6 _ _ _ _ _ _ _)
      | (with_reducible exact payofflaw03_heads.mono _)
      | (with_reducible exact LeO.refl _)
      | (with_reducible exact LeO.none _)
      | (with_reducible refine LeO.ite ?_ ?_)
      | (with_reducible refine LeO.bind ?_ (fun _ => ?_))
      | exact ih0 _ _ _
      | exact ih1 _ _ _ _
      | exact ih2 _ _ _
      | exact ih3 _ _ _
      | exact ih4 _ _ _ _ _ _
      | exact ih5 _ _ _ _ _ _
      | exact ih6 _ _ _ _ _ _ _
      | exact payofflaw03_heads.mono _
      | exact LeO.none _
      | refine LeO.ite ?_ ?_
      | refine LeO.bind ?_ (fun _ => ?_)
set_option maxHeartbeats 8000000 in
set_option maxRecDepth 100000 in
theorem payofflaw03_FlowStable.calls (k : Nat) (A0 : Option Addr) (c0 : Nat) (l0 : List (List (S32))) (r : Bool) (w : World) (HTAB : Aside0 (ItoaTab w)) (hr0 : Kd.C (Kd.slice 32 k32) w A0 l0.length l0) (hc0 : l0.length ≤ c0) (h : payofflaw03_FlowStable.f k l0 = some r) :
    Calls Tryd.prog 8 #[.slice A0 l0.length c0] w fun e w' => e = .returned (.bool r) ∧ Below w.heap.size w w' := by
  have hu32 := Tryd.underlying32
  have HR0 := Aside0.mk hr0
  have HC0 := Aside0.mk hc0
  clear hr0 hc0
  have HB := Aside0.mk (Below.refl w.heap.size w)
  have H : ((payofflaw03_heads.f k).bind fun t146 => (if t146 = true then (payofflaw03_FlowStable.l0 k l0 0 0) else (some false))) = some r := h
  clear h
  replace H := Option.bind_eq_some_iff.mp H
  obtain ⟨t146, A20, H⟩ := H
  replace H : (if t146 = true then (payofflaw03_FlowStable.l0 k l0 0 0) else (some false)) = some r := H
  have A2 := Aside0.mk A20
  clear A20
  by_cases c3 : t146 = true
  · subst c3
    have H1 : (payofflaw03_FlowStable.l0 k l0 0 0) = some r := by rw [if_pos rfl] at H; exact H
    clear H
    have H := H1
    clear H1
    have H' := Aside0.mk H
    clear H
    go_enter Tryd.func8, Tryd.ntmps8
    go_wp2_with (first | (go_at_call 13; (with_reducible refine (payofflaw03_heads.calls k  true _ ⟨tab_below HTAB.out (by repeat (first | (with_reducible first | exact HB.out | apply below_alloc | apply pw_below_drewN | apply below_drew1) | exact HB.out))⟩ A2.out).mono ?_); rintro e w4 ⟨rfl, hb⟩; have n0_ := Aside0.mk (below_step (by repeat (first | (with_reducible first | exact HB.out | apply below_alloc | apply pw_below_drewN | apply below_drew1) | exact HB.out)) hb); clear HB; have HB := n0_; clear n0_; (try clear hb); (try clear hb2); (try clear hk); (try clear hi)))
    repeat (go_quiet (first | (go_at_call 13; (with_reducible refine (payofflaw03_heads.calls k  true _ ⟨tab_below HTAB.out (by repeat (first | (with_reducible first | exact HB.out | apply below_alloc | apply pw_below_drewN | apply below_drew1) | exact HB.out))⟩ A2.out).mono ?_); rintro e w4 ⟨rfl, hb⟩; have n0_ := Aside0.mk (below_step (by repeat (first | (with_reducible first | exact HB.out | apply below_alloc | apply pw_below_drewN | apply below_drew1) | exact HB.out)) hb); clear HB; have HB := n0_; clear n0_; (try clear hb); (try clear hb2); (try clear hk); (try clear hi))); try go_wp2_with (first | (go_at_call 13; (with_reducible refine (payofflaw03_heads.calls k  true _ ⟨tab_below HTAB.out (by repeat (first | (with_reducible first | exact HB.out | apply below_alloc | apply pw_below_drewN | apply below_drew1) | exact HB.out))⟩ A2.out).mono ?_); rintro e w4 ⟨rfl, hb⟩; have n0_ := Aside0.mk (below_step (by repeat (first | (with_reducible first | exact HB.out | apply below_alloc | apply pw_below_drewN | apply below_drew1) | exact HB.out)) hb); clear HB; have HB := n0_; clear n0_; (try clear hb); (try clear hb2); (try clear hk); (try clear hi))))
    go_loopg [3, 4] k (fun kq v3 v4 w' => ∃ (x3_1 : Int) (x4_1 : Int), v3 = .int .i64 x3_1 ∧ v4 = .int .i64 x4_1 ∧ Aside0 (payofflaw03_FlowStable.l0 kq l0 x3_1 x4_1 = some r) ∧ Aside0 (kq ≤ k) ∧ Aside0 (Below w.heap.size w w'))
    case atStart => exact ⟨(0), (0), (by first | rfl | (simp; done) | (simp [*]; done)), (by first | rfl | (simp; done) | (simp [*]; done)), H', ⟨Nat.le_refl _⟩, ⟨by repeat (first | (with_reducible first | exact HB.out | apply below_alloc | apply pw_below_drewN | apply below_drew1) | exact HB.out)⟩⟩
    case round =>
      clear H'
      try clear p2
      try clear c3
      obtain ⟨x3_1, x4_1, rfl, rfl, HA, HK1, HB⟩ := hrel
      cases gk with
      | zero => exact absurd HA.out (by simp [payofflaw03_FlowStable.l0])
      | succ k1 =>
        have H := HA.out
        clear HA
        simp only [payofflaw03_FlowStable.l0] at H
        by_cases c5 : x4_1 < (l0.length : Int)
        · rw [if_pos c5] at H
          have c5b0 : decide (x4_1 < (l0.length : Int)) = true := decide_eq_true c5
          clear c5
          have H' := Aside0.mk H
          clear H
          go_wp2
          repeat (go_quiet (fail); try go_wp2)
          go_loopg [5] k1 (fun kq v5 w' => ∃ (x5_2 : Int), v5 = .int .i64 x5_2 ∧ Aside0 (payofflaw03_FlowStable.l1 kq l0 x3_1 x4_1 x5_2 = some r) ∧ Aside0 (kq ≤ k1) ∧ Aside0 (Below w.heap.size w w'))
          case atStart => exact ⟨(1), (by first | rfl | (simp; done) | (simp [*]; done)), H', ⟨Nat.le_refl _⟩, ⟨by repeat (first | (with_reducible first | exact HB.out | apply below_alloc | apply pw_below_drewN | apply below_drew1) | exact HB.out)⟩⟩
          case round =>
            clear H'
            try clear p2
            try clear c3
            try clear c5
            try clear c5b0
            try clear p2
            obtain ⟨x5_2, rfl, HA, HK2, HB⟩ := hrel
            cases gk with
            | zero => exact absurd HA.out (by simp [payofflaw03_FlowStable.l1])
            | succ k2 =>
              have H := HA.out
              clear HA
              simp only [payofflaw03_FlowStable.l1] at H
              by_cases c6 : 0 ≤ x4_1
              · rw [if_pos c6] at H
                have c6b0 : decide (0 ≤ x4_1) = true := decide_eq_true c6
                clear c6
                by_cases c7 : x4_1 < (l0.length : Int)
                · rw [if_pos c7] at H
                  have c7b0 : decide (x4_1 < (l0.length : Int)) = true := decide_eq_true c7
                  clear c7
                  by_cases c8 : x5_2 < ((rd_L3 l0 x4_1).length : Int)
                  · rw [if_pos c8] at H
                    have c8b0 : decide (x5_2 < ((rd_L3 l0 x4_1).length : Int)) = true := decide_eq_true c8
                    clear c8
                    by_cases c9 : 0 ≤ x5_2
                    · rw [if_pos c9] at H
                      have c9b0 : decide (0 ≤ x5_2) = true := decide_eq_true c9
                      clear c9
                      obtain ⟨ji10, hji10⟩ : ∃ j_ : Int, (wrap64 (x5_2 - 1)) = j_ := ⟨_, rfl⟩
                      replace H : (if 0 ≤ (ji10) then (if (ji10) < ((rd_L3 l0 x4_1).length : Int) then (if ((rd_T32 (rd_L3 l0 x4_1) x5_2).f0) < ((rd_T32 (rd_L3 l0 x4_1) (ji10)).f0) then ((flow_Merge.f l0).bind fun bt152 => (some (bt152.2 == 1))) else (payofflaw03_FlowStable.l1 k2 l0 x3_1 x4_1 (wrap64 (x5_2 + 1)))) else (none)) else (none)) = some r := by first | (rw [hji10] at H; exact H) | (simp only [hji10] at H ⊢; exact H)
                      have hji10w : (IntKind.i64.wrap (x5_2 - 1)) = ji10 := (i64_w _).trans hji10
                      by_cases c11 : 0 ≤ (ji10)
                      · rw [if_pos c11] at H
                        have c11b0 : decide (0 ≤ (ji10)) = true := decide_eq_true c11
                        clear c11
                        by_cases c12 : (ji10) < ((rd_L3 l0 x4_1).length : Int)
                        · rw [if_pos c12] at H
                          have c12b0 : decide ((ji10) < ((rd_L3 l0 x4_1).length : Int)) = true := decide_eq_true c12
                          clear c12
                          by_cases c13 : ((rd_T32 (rd_L3 l0 x4_1) x5_2).f0) < ((rd_T32 (rd_L3 l0 x4_1) (ji10)).f0)
                          · rw [if_pos c13] at H
                            have c13b0 : decide (((rd_T32 (rd_L3 l0 x4_1) x5_2).f0) < ((rd_T32 (rd_L3 l0 x4_1) (ji10)).f0)) = true := decide_eq_true c13
                            clear c13
                            replace H := Option.bind_eq_some_iff.mp H
                            obtain ⟨⟨t152, t153⟩, A140, H⟩ := H
                            replace H : (some (t153 == 1)) = some r := H
                            have A14 := Aside0.mk A140
                            clear A140
                            obtain rfl := Option.some.inj H
                            have p147 : 0 ≤ (x4_1 : Int) := of_decide_eq_true (by first | (with_reducible assumption) | assumption)
                            have q147 : x4_1 < (l0.length : Int) := of_decide_eq_true (by first | (with_reducible assumption) | assumption)
                            obtain ⟨ad147, A147_0, c147_0, e147, hx147_0, hl147_0, hi147_0⟩ := at_L3 HR0.out x4_1 p147 q147
                            cases e147
                            replace hx147_0 := (HB.out.cell (World.block_lt_of_cell? w _ hx147_0)).trans hx147_0
                            have HR147_0 := Aside0.mk hi147_0
                            have HC147_0 := Aside0.mk hl147_0
                            clear hi147_0 hl147_0
                            replace p147 := eq_true p147
                            replace q147 := eq_true q147
                            have p148 : 0 ≤ (x4_1 : Int) := of_decide_eq_true (by first | (with_reducible assumption) | assumption)
                            have q148 : x4_1 < (l0.length : Int) := of_decide_eq_true (by first | (with_reducible assumption) | assumption)
                            obtain ⟨ad148, A148_0, c148_0, e148, hx148_0, hl148_0, hi148_0⟩ := at_L3 HR0.out x4_1 p148 q148
                            obtain rfl : ad147 = ad148 := (by injection e148)
                            replace hx148_0 := (HB.out.cell (World.block_lt_of_cell? w _ hx148_0)).trans hx148_0
                            have HR148_0 := Aside0.mk hi148_0
                            have HC148_0 := Aside0.mk hl148_0
                            clear hi148_0 hl148_0
                            replace p148 := eq_true p148
                            replace q148 := eq_true q148
                            have ea_ := Option.some.inj (hx147_0.symm.trans hx148_0)
                            injection ea_ with ea_ en_ ec_
                            subst ea_
                            subst ec_
                            clear en_
                            have p149 : 0 ≤ (x5_2 : Int) := of_decide_eq_true (by first | (with_reducible assumption) | assumption)
                            have q149 : x5_2 < ((rd_L3 l0 x4_1).length : Int) := of_decide_eq_true (by first | (with_reducible assumption) | assumption)
                            obtain ⟨ad149, e149, hx149_0, hx149_1, hx149_2⟩ := at_T32 HR148_0.out x5_2 p149 q149
                            cases e149
                            replace hx149_0 := (HB.out.cell (World.block_lt_of_cell? w _ hx149_0)).trans hx149_0
                            replace hx149_1 := (HB.out.cell (World.block_lt_of_cell? w _ hx149_1)).trans hx149_1
                            replace hx149_2 := (HB.out.cell (World.block_lt_of_cell? w _ hx149_2)).trans hx149_2
                            replace p149 := eq_true p149
                            replace q149 := eq_true q149
                            have p150 : 0 ≤ (x4_1 : Int) := of_decide_eq_true (by first | (with_reducible assumption) | assumption)
                            have q150 : x4_1 < (l0.length : Int) := of_decide_eq_true (by first | (with_reducible assumption) | assumption)
                            obtain ⟨ad150, A150_0, c150_0, e150, hx150_0, hl150_0, hi150_0⟩ := at_L3 HR0.out x4_1 p150 q150
                            obtain rfl : ad147 = ad150 := (by injection e150)
                            replace hx150_0 := (HB.out.cell (World.block_lt_of_cell? w _ hx150_0)).trans hx150_0
                            have HR150_0 := Aside0.mk hi150_0
                            have HC150_0 := Aside0.mk hl150_0
                            clear hi150_0 hl150_0
                            replace p150 := eq_true p150
                            replace q150 := eq_true q150
                            have ea_ := Option.some.inj (hx147_0.symm.trans hx150_0)
                            injection ea_ with ea_ en_ ec_
                            subst ea_
                            subst ec_
                            clear en_
                            have p151 : 0 ≤ ((ji10) : Int) := of_decide_eq_true (by first | (with_reducible assumption) | assumption)
                            have q151 : (ji10) < ((rd_L3 l0 x4_1).length : Int) := of_decide_eq_true (by first | (with_reducible assumption) | assumption)
                            obtain ⟨ad151, e151, hx151_0, hx151_1, hx151_2⟩ := at_T32 HR150_0.out (ji10) p151 q151
                            cases e151
                            replace hx151_0 := (HB.out.cell (World.block_lt_of_cell? w _ hx151_0)).trans hx151_0
                            replace hx151_1 := (HB.out.cell (World.block_lt_of_cell? w _ hx151_1)).trans hx151_1
                            replace hx151_2 := (HB.out.cell (World.block_lt_of_cell? w _ hx151_2)).trans hx151_2
                            replace p151 := eq_true p151
                            replace q151 := eq_true q151
                            go_wp2_with (first | (go_at_call 24; (with_reducible refine (flow_Merge.callsF _ _ l0 t152 t153 _ ?side1 ?side2 A14.out).mono ?_); (case side1 => repeat (first | exact (Kd.C_below HR0.out HB.out) | (with_reducible refine Kd.C_alloc ?_ _) | (with_reducible refine Kd.C_drewN ?_ _) | (with_reducible refine Kd.C_drew ?_))); (case side2 => exact HC0.out); rintro e w15 ⟨v154, rfl, ho0, hb⟩; have n0_ := Aside0.mk (Kd.R_lower ho0 (below_size (by repeat (first | (with_reducible first | exact HB.out | apply below_alloc | apply pw_below_drewN | apply below_drew1) | exact HB.out)))); have n1_ := Aside0.mk (below_step (by repeat (first | (with_reducible first | exact HB.out | apply below_alloc | apply pw_below_drewN | apply below_drew1) | exact HB.out)) hb); clear HB; have HO155 := n0_; have HB := n1_; clear n0_ n1_; (try clear hb); (try clear hb2); (try clear hk); (try clear hi); (try clear ho0)))
                            repeat (go_quiet (first | (go_at_call 24; (with_reducible refine (flow_Merge.callsF _ _ l0 t152 t153 _ ?side1 ?side2 A14.out).mono ?_); (case side1 => repeat (first | exact (Kd.C_below HR0.out HB.out) | (with_reducible refine Kd.C_alloc ?_ _) | (with_reducible refine Kd.C_drewN ?_ _) | (with_reducible refine Kd.C_drew ?_))); (case side2 => exact HC0.out); rintro e w15 ⟨v154, rfl, ho0, hb⟩; have n0_ := Aside0.mk (Kd.R_lower ho0 (below_size (by repeat (first | (with_reducible first | exact HB.out | apply below_alloc | apply pw_below_drewN | apply below_drew1) | exact HB.out)))); have n1_ := Aside0.mk (below_step (by repeat (first | (with_reducible first | exact HB.out | apply below_alloc | apply pw_below_drewN | apply below_drew1) | exact HB.out)) hb); clear HB; have HO155 := n0_; have HB := n1_; clear n0_ n1_; (try clear hb); (try clear hb2); (try clear hk); (try clear hi); (try clear ho0))); try go_wp2_with (first | (go_at_call 24; (with_reducible refine (flow_Merge.callsF _ _ l0 t152 t153 _ ?side1 ?side2 A14.out).mono ?_); (case side1 => repeat (first | exact (Kd.C_below HR0.out HB.out) | (with_reducible refine Kd.C_alloc ?_ _) | (with_reducible refine Kd.C_drewN ?_ _) | (with_reducible refine Kd.C_drew ?_))); (case side2 => exact HC0.out); rintro e w15 ⟨v154, rfl, ho0, hb⟩; have n0_ := Aside0.mk (Kd.R_lower ho0 (below_size (by repeat (first | (with_reducible first | exact HB.out | apply below_alloc | apply pw_below_drewN | apply below_drew1) | exact HB.out)))); have n1_ := Aside0.mk (below_step (by repeat (first | (with_reducible first | exact HB.out | apply below_alloc | apply pw_below_drewN | apply below_drew1) | exact HB.out)) hb); clear HB; have HO155 := n0_; have HB := n1_; clear n0_ n1_; (try clear hb); (try clear hb2); (try clear hk); (try clear hi); (try clear ho0))))
                            go_ret
                            exact ⟨by first | rfl | (simp [errW_none, errW_some] <;> rfl) | (simp only [← hji10]; first | rfl | (simp [errW_none, errW_some] <;> rfl)) | (simp [*, errW_none, errW_some] <;> rfl), by repeat (first | (with_reducible first | exact HB.out | apply below_alloc | apply pw_below_drewN | apply below_drew1) | exact HB.out)⟩
                          · rw [if_neg c13] at H
                            have c13b0 : decide (((rd_T32 (rd_L3 l0 x4_1) x5_2).f0) < ((rd_T32 (rd_L3 l0 x4_1) (ji10)).f0)) = false := decide_eq_false c13
                            clear c13
                            have H' := Aside0.mk H
                            clear H
                            have p147 : 0 ≤ (x4_1 : Int) := of_decide_eq_true (by first | (with_reducible assumption) | assumption)
                            have q147 : x4_1 < (l0.length : Int) := of_decide_eq_true (by first | (with_reducible assumption) | assumption)
                            obtain ⟨ad147, A147_0, c147_0, e147, hx147_0, hl147_0, hi147_0⟩ := at_L3 HR0.out x4_1 p147 q147
                            cases e147
                            replace hx147_0 := (HB.out.cell (World.block_lt_of_cell? w _ hx147_0)).trans hx147_0
                            have HR147_0 := Aside0.mk hi147_0
                            have HC147_0 := Aside0.mk hl147_0
                            clear hi147_0 hl147_0
                            replace p147 := eq_true p147
                            replace q147 := eq_true q147
                            have p148 : 0 ≤ (x4_1 : Int) := of_decide_eq_true (by first | (with_reducible assumption) | assumption)
                            have q148 : x4_1 < (l0.length : Int) := of_decide_eq_true (by first | (with_reducible assumption) | assumption)
                            obtain ⟨ad148, A148_0, c148_0, e148, hx148_0, hl148_0, hi148_0⟩ := at_L3 HR0.out x4_1 p148 q148
                            obtain rfl : ad147 = ad148 := (by injection e148)
                            replace hx148_0 := (HB.out.cell (World.block_lt_of_cell? w _ hx148_0)).trans hx148_0
                            have HR148_0 := Aside0.mk hi148_0
                            have HC148_0 := Aside0.mk hl148_0
                            clear hi148_0 hl148_0
                            replace p148 := eq_true p148
                            replace q148 := eq_true q148
                            have ea_ := Option.some.inj (hx147_0.symm.trans hx148_0)
                            injection ea_ with ea_ en_ ec_
                            subst ea_
                            subst ec_
                            clear en_
                            have p149 : 0 ≤ (x5_2 : Int) := of_decide_eq_true (by first | (with_reducible assumption) | assumption)
                            have q149 : x5_2 < ((rd_L3 l0 x4_1).length : Int) := of_decide_eq_true (by first | (with_reducible assumption) | assumption)
                            obtain ⟨ad149, e149, hx149_0, hx149_1, hx149_2⟩ := at_T32 HR148_0.out x5_2 p149 q149
                            cases e149
                            replace hx149_0 := (HB.out.cell (World.block_lt_of_cell? w _ hx149_0)).trans hx149_0
                            replace hx149_1 := (HB.out.cell (World.block_lt_of_cell? w _ hx149_1)).trans hx149_1
                            replace hx149_2 := (HB.out.cell (World.block_lt_of_cell? w _ hx149_2)).trans hx149_2
                            replace p149 := eq_true p149
                            replace q149 := eq_true q149
                            have p150 : 0 ≤ (x4_1 : Int) := of_decide_eq_true (by first | (with_reducible assumption) | assumption)
                            have q150 : x4_1 < (l0.length : Int) := of_decide_eq_true (by first | (with_reducible assumption) | assumption)
                            obtain ⟨ad150, A150_0, c150_0, e150, hx150_0, hl150_0, hi150_0⟩ := at_L3 HR0.out x4_1 p150 q150
                            obtain rfl : ad147 = ad150 := (by injection e150)
                            replace hx150_0 := (HB.out.cell (World.block_lt_of_cell? w _ hx150_0)).trans hx150_0
                            have HR150_0 := Aside0.mk hi150_0
                            have HC150_0 := Aside0.mk hl150_0
                            clear hi150_0 hl150_0
                            replace p150 := eq_true p150
                            replace q150 := eq_true q150
                            have ea_ := Option.some.inj (hx147_0.symm.trans hx150_0)
                            injection ea_ with ea_ en_ ec_
                            subst ea_
                            subst ec_
                            clear en_
                            have p151 : 0 ≤ ((ji10) : Int) := of_decide_eq_true (by first | (with_reducible assumption) | assumption)
                            have q151 : (ji10) < ((rd_L3 l0 x4_1).length : Int) := of_decide_eq_true (by first | (with_reducible assumption) | assumption)
                            obtain ⟨ad151, e151, hx151_0, hx151_1, hx151_2⟩ := at_T32 HR150_0.out (ji10) p151 q151
                            cases e151
                            replace hx151_0 := (HB.out.cell (World.block_lt_of_cell? w _ hx151_0)).trans hx151_0
                            replace hx151_1 := (HB.out.cell (World.block_lt_of_cell? w _ hx151_1)).trans hx151_1
                            replace hx151_2 := (HB.out.cell (World.block_lt_of_cell? w _ hx151_2)).trans hx151_2
                            replace p151 := eq_true p151
                            replace q151 := eq_true q151
                            go_wp2
                            repeat (go_quiet (fail); try go_wp2)
                            go_roundg k2
                            case measure => have := HK1.out; have := HK2.out; omega
                            case rel => exact ⟨(wrap64 (x5_2 + 1)), (by first | rfl | (simp; done) | (simp [*]; done)), H', ⟨by have := HK1.out; have := HK2.out; omega⟩, ⟨by repeat (first | (with_reducible first | exact HB.out | apply below_alloc | apply pw_below_drewN | apply below_drew1) | exact HB.out)⟩⟩
                        · rw [if_neg c12] at H
                          exact absurd H (by simp)
                      · rw [if_neg c11] at H
                        exact absurd H (by simp)
                    · rw [if_neg c9] at H
                      exact absurd H (by simp)
                  · rw [if_neg c8] at H
                    have c8b0 : decide (x5_2 < ((rd_L3 l0 x4_1).length : Int)) = false := decide_eq_false c8
                    clear c8
                    have H' := Aside0.mk H
                    clear H
                    have p147 : 0 ≤ (x4_1 : Int) := of_decide_eq_true (by first | (with_reducible assumption) | assumption)
                    have q147 : x4_1 < (l0.length : Int) := of_decide_eq_true (by first | (with_reducible assumption) | assumption)
                    obtain ⟨ad147, A147_0, c147_0, e147, hx147_0, hl147_0, hi147_0⟩ := at_L3 HR0.out x4_1 p147 q147
                    cases e147
                    replace hx147_0 := (HB.out.cell (World.block_lt_of_cell? w _ hx147_0)).trans hx147_0
                    have HR147_0 := Aside0.mk hi147_0
                    have HC147_0 := Aside0.mk hl147_0
                    clear hi147_0 hl147_0
                    replace p147 := eq_true p147
                    replace q147 := eq_true q147
                    have p156 : 0 ≤ (x4_1 : Int) := of_decide_eq_true (by first | (with_reducible assumption) | assumption)
                    have q156 : x4_1 < (l0.length : Int) := of_decide_eq_true (by first | (with_reducible assumption) | assumption)
                    obtain ⟨ad156, A156_0, c156_0, e156, hx156_0, hl156_0, hi156_0⟩ := at_L3 HR0.out x4_1 p156 q156
                    obtain rfl : ad147 = ad156 := (by injection e156)
                    replace hx156_0 := (HB.out.cell (World.block_lt_of_cell? w _ hx156_0)).trans hx156_0
                    have HR156_0 := Aside0.mk hi156_0
                    have HC156_0 := Aside0.mk hl156_0
                    clear hi156_0 hl156_0
                    replace p156 := eq_true p156
                    replace q156 := eq_true q156
                    have ea_ := Option.some.inj (hx147_0.symm.trans hx156_0)
                    injection ea_ with ea_ en_ ec_
                    subst ea_
                    subst ec_
                    clear en_
                    go_wp2
                    repeat (go_quiet (fail); try go_wp2)
                    go_roundg k2
                    case measure => have := HK1.out; have := HK2.out; omega
                    case rel => exact ⟨(wrap64 (x3_1 + ((rd_L3 l0 x4_1).length : Int))), (wrap64 (x4_1 + 1)), (by first | rfl | (simp; done) | (simp [*]; done)), (by first | rfl | (simp; done) | (simp [*]; done)), H', ⟨by have := HK1.out; have := HK2.out; omega⟩, ⟨by repeat (first | (with_reducible first | exact HB.out | apply below_alloc | apply pw_below_drewN | apply below_drew1) | exact HB.out)⟩⟩
                · rw [if_neg c7] at H
                  exact absurd H (by simp)
              · rw [if_neg c6] at H
                exact absurd H (by simp)
        · rw [if_neg c5] at H
          have c5b0 : decide (x4_1 < (l0.length : Int)) = false := decide_eq_false c5
          clear c5
          replace H := Option.bind_eq_some_iff.mp H
          obtain ⟨⟨t157, t158⟩, A160, H⟩ := H
          replace H : (if t158 = 0 then (payofflaw03_FlowStable.j2 k1 l0 t157 ((t157.length : Int) != x3_1)) else (payofflaw03_FlowStable.j2 k1 l0 t157 true)) = some r := H
          have A16 := Aside0.mk A160
          clear A160
          have HC17 := Aside0.mk H
          clear H
          go_upto_region 15 with (first | (go_at_call 24; (with_reducible refine (flow_Merge.callsF _ _ l0 t157 t158 _ ?side1 ?side2 A16.out).mono ?_); (case side1 => repeat (first | exact (Kd.C_below HR0.out HB.out) | (with_reducible refine Kd.C_alloc ?_ _) | (with_reducible refine Kd.C_drewN ?_ _) | (with_reducible refine Kd.C_drew ?_))); (case side2 => exact HC0.out); rintro e w18 ⟨v159, rfl, ho0, hb⟩; have n0_ := Aside0.mk (Kd.R_lower ho0 (below_size (by repeat (first | (with_reducible first | exact HB.out | apply below_alloc | apply pw_below_drewN | apply below_drew1) | exact HB.out)))); have n1_ := Aside0.mk (below_step (by repeat (first | (with_reducible first | exact HB.out | apply below_alloc | apply pw_below_drewN | apply below_drew1) | exact HB.out)) hb); clear HB; have HO160 := n0_; have HB := n1_; clear n0_ n1_; (try clear hb); (try clear hb2); (try clear hk); (try clear hi); (try clear ho0)))
          repeat (go_quiet (first | (go_at_call 24; (with_reducible refine (flow_Merge.callsF _ _ l0 t157 t158 _ ?side1 ?side2 A16.out).mono ?_); (case side1 => repeat (first | exact (Kd.C_below HR0.out HB.out) | (with_reducible refine Kd.C_alloc ?_ _) | (with_reducible refine Kd.C_drewN ?_ _) | (with_reducible refine Kd.C_drew ?_))); (case side2 => exact HC0.out); rintro e w18 ⟨v159, rfl, ho0, hb⟩; have n0_ := Aside0.mk (Kd.R_lower ho0 (below_size (by repeat (first | (with_reducible first | exact HB.out | apply below_alloc | apply pw_below_drewN | apply below_drew1) | exact HB.out)))); have n1_ := Aside0.mk (below_step (by repeat (first | (with_reducible first | exact HB.out | apply below_alloc | apply pw_below_drewN | apply below_drew1) | exact HB.out)) hb); clear HB; have HO160 := n0_; have HB := n1_; clear n0_ n1_; (try clear hb); (try clear hb2); (try clear hk); (try clear hi); (try clear ho0))); go_upto_region 15 with (first | (go_at_call 24; (with_reducible refine (flow_Merge.callsF _ _ l0 t157 t158 _ ?side1 ?side2 A16.out).mono ?_); (case side1 => repeat (first | exact (Kd.C_below HR0.out HB.out) | (with_reducible refine Kd.C_alloc ?_ _) | (with_reducible refine Kd.C_drewN ?_ _) | (with_reducible refine Kd.C_drew ?_))); (case side2 => exact HC0.out); rintro e w18 ⟨v159, rfl, ho0, hb⟩; have n0_ := Aside0.mk (Kd.R_lower ho0 (below_size (by repeat (first | (with_reducible first | exact HB.out | apply below_alloc | apply pw_below_drewN | apply below_drew1) | exact HB.out)))); have n1_ := Aside0.mk (below_step (by repeat (first | (with_reducible first | exact HB.out | apply below_alloc | apply pw_below_drewN | apply below_drew1) | exact HB.out)) hb); clear HB; have HO160 := n0_; have HB := n1_; clear n0_ n1_; (try clear hb); (try clear hb2); (try clear hk); (try clear hi); (try clear ho0))))
          (try simp only [Act.put, List.setIfInBounds_toArray, List.set_cons_zero, List.set_cons_succ])
          go_cut [76] (fun v76 wc => ∃ (kq : Nat) (x76_16 : Bool), v76 = .bool x76_16 ∧ Aside0 (payofflaw03_FlowStable.j2 kq l0 t157 x76_16 = some r) ∧ Aside0 (kq ≤ k1) ∧ Aside0 (Kd.R k32 32 wc w.heap.size (fun _ => True) v159 t157) ∧ Aside0 (Below w.heap.size w wc))
          case first =>
            have H := HC17.out
            clear HC17
            by_cases c19 : t158 = 0
            · rw [if_pos c19] at H
              have c19b0 : (t158 == 0) = true := beq_iff_eq.mpr c19
              have c19b1 : (t158 != 0) = false := bne_eq_false_iff_eq.mpr c19
              clear c19
              (first | rw [c19b0] | (simp only [i64_w, i32_w]; rw [c19b0]) | skip)
              have H' := Aside0.mk H
              clear H
              obtain ⟨Ao20, co20, eo20⟩ := Kd.R_slice HO160.out
              subst eo20
              go_wp2
              repeat (go_quiet (fail); try go_wp2)
              go_meet
              case rel => exact ⟨_, (((t157.length : Int) != x3_1)), (by first | rfl | (simp; done) | (simp [*]; done)), H', ⟨by have := HK1.out; first | omega | exact Nat.le_refl _⟩, ⟨by (with_reducible repeat (first | apply Kd.R_alloc | apply Kd.R_drewN | apply Kd.R_drew)); exact HO160.out⟩, ⟨by repeat (first | (with_reducible first | exact HB.out | apply below_alloc | apply pw_below_drewN | apply below_drew1) | exact HB.out)⟩⟩
            · rw [if_neg c19] at H
              have c19b0 : (t158 == 0) = false := beq_eq_false_iff_ne.mpr c19
              have c19b1 : (t158 != 0) = true := bne_iff_ne.mpr c19
              (first | rw [c19b0] | (simp only [i64_w, i32_w]; rw [c19b0]) | skip)
              have H' := Aside0.mk H
              clear H
              go_wp2
              repeat (go_quiet (fail); try go_wp2)
              go_meet
              case rel => exact ⟨_, (true), (by first | rfl | (simp; done) | (simp [*]; done)), H', ⟨by have := HK1.out; first | omega | exact Nat.le_refl _⟩, ⟨by (with_reducible repeat (first | apply Kd.R_alloc | apply Kd.R_drewN | apply Kd.R_drew)); exact HO160.out⟩, ⟨by repeat (first | (with_reducible first | exact HB.out | apply below_alloc | apply pw_below_drewN | apply below_drew1) | exact HB.out)⟩⟩
          case rest =>
            clear HC17
            try clear c1
            try clear p1
            try clear q1
            try clear hx1
            try clear p2
            try clear c3
            try clear c5
            try clear c5b0
            try clear c6
            try clear c6b0
            try clear p6
            try clear c7
            try clear c7b0
            try clear c8
            try clear c8b0
            try clear c9
            try clear c9b0
            try clear c11
            try clear c11b0
            try clear c12
            try clear c12b0
            try clear c13
            try clear c13b0
            try clear c14
            try clear p14
            try clear q14
            try clear hx14
            try clear c15
            try clear p15
            try clear q15
            try clear hx15
            try clear c19
            try clear c19b0
            try clear c19b1
            try clear hx147_0
            try clear hx148_0
            try clear hx149_0
            try clear hx149_1
            try clear hx149_2
            try clear hx150_0
            try clear hx151_0
            try clear hx151_1
            try clear hx151_2
            try clear hx156_0
            try clear p147
            try clear p148
            try clear p149
            try clear p150
            try clear p151
            try clear p156
            try clear p2
            try clear q147
            try clear q148
            try clear q149
            try clear q150
            try clear q151
            try clear q156
            obtain ⟨kq, x76_16, rfl, HA, HJ16, HO_8, HB⟩ := hcut
            cases kq with
            | zero => exact absurd HA.out (by simp [payofflaw03_FlowStable.j2])
            | succ kj16 =>
              have H := HA.out
              clear HA
              simp only [payofflaw03_FlowStable.j2] at H
              by_cases c21 : x76_16 = true
              · subst c21
                have H1 : (some false) = some r := by rw [if_pos rfl] at H; exact H
                clear H
                have H := H1
                clear H1
                obtain rfl := Option.some.inj H
                go_wp2
                repeat (go_quiet (fail); try go_wp2)
                go_ret
                exact ⟨by first | rfl | (simp [errW_none, errW_some] <;> rfl) | (simp [*, errW_none, errW_some] <;> rfl), by repeat (first | (with_reducible first | exact HB.out | apply below_alloc | apply pw_below_drewN | apply below_drew1) | exact HB.out)⟩
              · replace c21 := Bool.eq_false_iff.mpr c21
                subst c21
                have H1 : (payofflaw03_FlowStable.l2 kj16 l0 t157 0) = some r := by rw [if_neg (show ¬ (false = true) by decide)] at H; exact H
                clear H
                have H := H1
                clear H1
                have H' := Aside0.mk H
                clear H
                go_wp2
                repeat (go_quiet (fail); try go_wp2)
                go_loopg [10] kj16 (fun kq v10 w' => ∃ (x10_3 : Int), v10 = .int .i64 x10_3 ∧ Aside0 (payofflaw03_FlowStable.l2 kq l0 t157 x10_3 = some r) ∧ Aside0 (kq ≤ kj16) ∧ Aside0 (Kd.R k32 32 w' w.heap.size (fun _ => True) v159 t157) ∧ Aside0 (Below w.heap.size w w'))
                case atStart => exact ⟨(0), (by first | rfl | (simp; done) | (simp [*]; done)), H', ⟨Nat.le_refl _⟩, ⟨by (with_reducible repeat (first | apply Kd.R_alloc | apply Kd.R_drewN | apply Kd.R_drew)); exact HO_8.out⟩, ⟨by repeat (first | (with_reducible first | exact HB.out | apply below_alloc | apply pw_below_drewN | apply below_drew1) | exact HB.out)⟩⟩
                case round =>
                  clear H'
                  try clear c1
                  try clear p1
                  try clear q1
                  try clear hx1
                  try clear c2
                  try clear p2
                  try clear c3
                  try clear c5
                  try clear c5b0
                  try clear c6
                  try clear c6b0
                  try clear p6
                  try clear c7
                  try clear c7b0
                  try clear c8
                  try clear c8b0
                  try clear c9
                  try clear c9b0
                  try clear c11
                  try clear c11b0
                  try clear c12
                  try clear c12b0
                  try clear c13
                  try clear c13b0
                  try clear c14
                  try clear p14
                  try clear q14
                  try clear hx14
                  try clear c15
                  try clear p15
                  try clear q15
                  try clear hx15
                  try clear c19
                  try clear c19b0
                  try clear c19b1
                  try clear c21
                  try clear hx147_0
                  try clear hx148_0
                  try clear hx149_0
                  try clear hx149_1
                  try clear hx149_2
                  try clear hx150_0
                  try clear hx151_0
                  try clear hx151_1
                  try clear hx151_2
                  try clear hx156_0
                  try clear p1
                  try clear p14
                  try clear p147
                  try clear p148
                  try clear p149
                  try clear p15
                  try clear p150
                  try clear p151
                  try clear p156
                  try clear p2
                  try clear p6
                  try clear q1
                  try clear q14
                  try clear q147
                  try clear q148
                  try clear q149
                  try clear q15
                  try clear q150
                  try clear q151
                  try clear q156
                  obtain ⟨x10_3, rfl, HA, HK3, HO_8, HB⟩ := hrel
                  cases gk with
                  | zero => exact absurd HA.out (by simp [payofflaw03_FlowStable.l2])
                  | succ k3 =>
                    have H := HA.out
                    clear HA
                    simp only [payofflaw03_FlowStable.l2] at H
                    by_cases c22 : x10_3 < (t157.length : Int)
                    · rw [if_pos c22] at H
                      have c22b0 : decide (x10_3 < (t157.length : Int)) = true := decide_eq_true c22
                      clear c22
                      by_cases c23 : 0 ≤ x10_3
                      · rw [if_pos c23] at H
                        have c23b0 : decide (0 ≤ x10_3) = true := decide_eq_true c23
                        clear c23
                        have HC24 := Aside0.mk H
                        clear H
                        obtain ⟨Ao25, co25, eo25⟩ := Kd.R_slice HO_8.out
                        subst eo25
                        have p161 : 0 ≤ (x10_3 : Int) := of_decide_eq_true (by first | (with_reducible assumption) | assumption)
                        have q161 : x10_3 < (t157.length : Int) := of_decide_eq_true (by first | (with_reducible assumption) | assumption)
                        obtain ⟨ad161, e161, hx161_0, hx161_1, hx161_2⟩ := at_T32 (Kd.R_reads' HO_8.out).2.2 x10_3 p161 q161
                        cases e161
                        replace p161 := eq_true p161
                        replace q161 := eq_true q161
                        go_upto_region 21 with (fail)
                        repeat (go_quiet (fail); go_upto_region 21 with (fail))
                        go_cut [98] (fun v98 wc => ∃ (kq : Nat) (x98_23 : Bool), v98 = .bool x98_23 ∧ Aside0 (payofflaw03_FlowStable.j4 kq l0 t157 x10_3 x10_3 ((rd_T32 t157 x10_3).f0) x98_23 = some r) ∧ Aside0 (kq ≤ k3) ∧ Aside0 (Kd.R k32 32 wc w.heap.size (fun _ => True) (.slice (some ad161) t157.length co25) t157) ∧ Aside0 (Below w.heap.size w wc))
                        case first =>
                          have H := HC24.out
                          clear HC24
                          by_cases c26 : x10_3 > 0
                          · rw [if_pos c26] at H
                            have c26b0 : decide (0 < x10_3) = true := decide_eq_true c26
                            clear c26
                            (first | rw [c26b0] | (simp only [i64_w, i32_w]; rw [c26b0]) | skip)
                            obtain ⟨ji27, hji27⟩ : ∃ j_ : Int, (wrap64 (x10_3 - 1)) = j_ := ⟨_, rfl⟩
                            replace H : (if 0 ≤ (ji27) then (if (ji27) < (t157.length : Int) then (payofflaw03_FlowStable.j4 k3 l0 t157 x10_3 x10_3 ((rd_T32 t157 x10_3).f0) (decide (((rd_T32 t157 (ji27)).f0) ≥ ((rd_T32 t157 x10_3).f0)))) else (none)) else (none)) = some r := by first | (rw [hji27] at H; exact H) | (simp only [hji27] at H ⊢; exact H)
                            have hji27w : (IntKind.i64.wrap (x10_3 - 1)) = ji27 := (i64_w _).trans hji27
                            by_cases c28 : 0 ≤ (ji27)
                            · rw [if_pos c28] at H
                              have c28b0 : decide (0 ≤ (ji27)) = true := decide_eq_true c28
                              clear c28
                              by_cases c29 : (ji27) < (t157.length : Int)
                              · rw [if_pos c29] at H
                                have c29b0 : decide ((ji27) < (t157.length : Int)) = true := decide_eq_true c29
                                clear c29
                                have H' := Aside0.mk H
                                clear H
                                have p162 : 0 ≤ ((ji27) : Int) := of_decide_eq_true (by first | (with_reducible assumption) | assumption)
                                have q162 : (ji27) < (t157.length : Int) := of_decide_eq_true (by first | (with_reducible assumption) | assumption)
                                obtain ⟨ad162, e162, hx162_0, hx162_1, hx162_2⟩ := at_T32 (Kd.R_reads' HO_8.out).2.2 (ji27) p162 q162
                                obtain rfl : ad161 = ad162 := (by injection e162)
                                replace p162 := eq_true p162
                                replace q162 := eq_true q162
                                go_wp2
                                repeat (go_quiet (fail); try go_wp2)
                                go_meet
                                case rel => exact ⟨_, (decide (((rd_T32 t157 (ji27)).f0) ≥ ((rd_T32 t157 x10_3).f0))), (by first | rfl | (simp; done) | (simp only [← hji27] <;> (first | rfl | simp)) | (simp [*]; done)), H', ⟨by have := HK1.out; have := HJ16.out; have := HK3.out; first | omega | exact Nat.le_refl _⟩, ⟨by (with_reducible repeat (first | apply Kd.R_alloc | apply Kd.R_drewN | apply Kd.R_drew)); exact HO_8.out⟩, ⟨by repeat (first | (with_reducible first | exact HB.out | apply below_alloc | apply pw_below_drewN | apply below_drew1) | exact HB.out)⟩⟩
                              · rw [if_neg c29] at H
                                exact absurd H (by simp)
                            · rw [if_neg c28] at H
                              exact absurd H (by simp)
                          · rw [if_neg c26] at H
                            have c26b0 : decide (0 < x10_3) = false := decide_eq_false c26
                            clear c26
                            (first | rw [c26b0] | (simp only [i64_w, i32_w]; rw [c26b0]) | skip)
                            have H' := Aside0.mk H
                            clear H
                            go_wp2
                            repeat (go_quiet (fail); try go_wp2)
                            go_meet
                            case rel => exact ⟨_, (false), (by first | rfl | (simp; done) | (simp [*]; done)), H', ⟨by have := HK1.out; have := HJ16.out; have := HK3.out; first | omega | exact Nat.le_refl _⟩, ⟨by (with_reducible repeat (first | apply Kd.R_alloc | apply Kd.R_drewN | apply Kd.R_drew)); exact HO_8.out⟩, ⟨by repeat (first | (with_reducible first | exact HB.out | apply below_alloc | apply pw_below_drewN | apply below_drew1) | exact HB.out)⟩⟩
                        case rest =>
                          clear HC24
                          try clear c1
                          try clear p1
                          try clear q1
                          try clear hx1
                          try clear c2
                          try clear p2
                          try clear c3
                          try clear c5
                          try clear c5b0
                          try clear c6
                          try clear c6b0
                          try clear p6
                          try clear c7
                          try clear c7b0
                          try clear c8
                          try clear c8b0
                          try clear c9
                          try clear c9b0
                          try clear c11
                          try clear c11b0
                          try clear c12
                          try clear c12b0
                          try clear c13
                          try clear c13b0
                          try clear c14
                          try clear p14
                          try clear q14
                          try clear hx14
                          try clear c15
                          try clear p15
                          try clear q15
                          try clear hx15
                          try clear p16
                          try clear q16
                          try clear hx16
                          try clear c19
                          try clear c19b0
                          try clear c19b1
                          try clear c21
                          try clear c22
                          try clear c22b0
                          try clear c23
                          try clear c23b0
                          try clear c26
                          try clear c26b0
                          try clear c28
                          try clear c28b0
                          try clear c29
                          try clear c29b0
                          try clear hx147_0
                          try clear hx148_0
                          try clear hx149_0
                          try clear hx149_1
                          try clear hx149_2
                          try clear hx150_0
                          try clear hx151_0
                          try clear hx151_1
                          try clear hx151_2
                          try clear hx156_0
                          try clear hx161_0
                          try clear hx161_1
                          try clear hx161_2
                          try clear hx162_0
                          try clear hx162_1
                          try clear hx162_2
                          try clear p1
                          try clear p14
                          try clear p147
                          try clear p148
                          try clear p149
                          try clear p15
                          try clear p150
                          try clear p151
                          try clear p156
                          try clear p161
                          try clear p162
                          try clear p2
                          try clear p6
                          try clear q1
                          try clear q14
                          try clear q147
                          try clear q148
                          try clear q149
                          try clear q15
                          try clear q150
                          try clear q151
                          try clear q156
                          try clear q161
                          try clear q162
                          obtain ⟨kq, x98_23, rfl, HA, HJ23, HO_8, HB⟩ := hcut
                          cases kq with
                          | zero => exact absurd HA.out (by simp [payofflaw03_FlowStable.j4])
                          | succ kj23 =>
                            have H := HA.out
                            clear HA
                            simp only [payofflaw03_FlowStable.j4] at H
                            by_cases c30 : x98_23 = true
                            · subst c30
                              have H1 : (some false) = some r := by rw [if_pos rfl] at H; exact H
                              clear H
                              have H := H1
                              clear H1
                              obtain rfl := Option.some.inj H
                              go_wp2
                              repeat (go_quiet (fail); try go_wp2)
                              go_ret
                              exact ⟨by first | rfl | (simp [errW_none, errW_some] <;> rfl) | (simp [*, errW_none, errW_some] <;> rfl), by repeat (first | (with_reducible first | exact HB.out | apply below_alloc | apply pw_below_drewN | apply below_drew1) | exact HB.out)⟩
                            · replace c30 := Bool.eq_false_iff.mpr c30
                              subst c30
                              have H1 : (payofflaw03_FlowStable.l3 kj23 l0 t157 x10_3 x10_3 ((rd_T32 t157 x10_3).f0) 0) = some r := by rw [if_neg (show ¬ (false = true) by decide)] at H; exact H
                              clear H
                              have H := H1
                              clear H1
                              have H' := Aside0.mk H
                              clear H
                              go_wp2
                              repeat (go_quiet (fail); try go_wp2)
                              go_loopg [10, 13] kj23 (fun kq v10 v13 w' => ∃ (x10_5 : Int) (x13_5 : Int), v10 = .int .i64 x10_5 ∧ v13 = .int .i64 x13_5 ∧ Aside0 (payofflaw03_FlowStable.l3 kq l0 t157 x10_5 x10_3 ((rd_T32 t157 x10_3).f0) x13_5 = some r) ∧ Aside0 (kq ≤ kj23) ∧ Aside0 (Kd.R k32 32 w' w.heap.size (fun _ => True) (.slice (some ad161) t157.length co25) t157) ∧ Aside0 (Below w.heap.size w w'))
                              case atStart => exact ⟨(x10_3), (0), (by first | rfl | (simp; done) | (simp [*]; done)), (by first | rfl | (simp; done) | (simp [*]; done)), H', ⟨Nat.le_refl _⟩, ⟨by (with_reducible repeat (first | apply Kd.R_alloc | apply Kd.R_drewN | apply Kd.R_drew)); exact HO_8.out⟩, ⟨by repeat (first | (with_reducible first | exact HB.out | apply below_alloc | apply pw_below_drewN | apply below_drew1) | exact HB.out)⟩⟩
                              case round =>
                                clear H'
                                try clear c1
                                try clear p1
                                try clear q1
                                try clear hx1
                                try clear c2
                                try clear p2
                                try clear c3
                                try clear c5
                                try clear c5b0
                                try clear c6
                                try clear c6b0
                                try clear p6
                                try clear c7
                                try clear c7b0
                                try clear c8
                                try clear c8b0
                                try clear c9
                                try clear c9b0
                                try clear c11
                                try clear c11b0
                                try clear c12
                                try clear c12b0
                                try clear c13
                                try clear c13b0
                                try clear c14
                                try clear p14
                                try clear q14
                                try clear hx14
                                try clear c15
                                try clear p15
                                try clear q15
                                try clear hx15
                                try clear p16
                                try clear q16
                                try clear hx16
                                try clear c19
                                try clear c19b0
                                try clear c19b1
                                try clear c21
                                try clear c22
                                try clear c22b0
                                try clear c23
                                try clear c23b0
                                try clear c26
                                try clear c26b0
                                try clear c28
                                try clear c28b0
                                try clear c29
                                try clear c29b0
                                try clear c30
                                try clear hx147_0
                                try clear hx148_0
                                try clear hx149_0
                                try clear hx149_1
                                try clear hx149_2
                                try clear hx150_0
                                try clear hx151_0
                                try clear hx151_1
                                try clear hx151_2
                                try clear hx156_0
                                try clear hx161_0
                                try clear hx161_1
                                try clear hx161_2
                                try clear hx162_0
                                try clear hx162_1
                                try clear hx162_2
                                try clear p1
                                try clear p14
                                try clear p147
                                try clear p148
                                try clear p149
                                try clear p15
                                try clear p150
                                try clear p151
                                try clear p156
                                try clear p16
                                try clear p161
                                try clear p162
                                try clear p2
                                try clear p6
                                try clear q1
                                try clear q14
                                try clear q147
                                try clear q148
                                try clear q149
                                try clear q15
                                try clear q150
                                try clear q151
                                try clear q156
                                try clear q16
                                try clear q161
                                try clear q162
                                obtain ⟨x10_5, x13_5, rfl, rfl, HA, HK5, HO_8, HB⟩ := hrel
                                cases gk with
                                | zero => exact absurd HA.out (by simp [payofflaw03_FlowStable.l3])
                                | succ k5 =>
                                  have H := HA.out
                                  clear HA
                                  simp only [payofflaw03_FlowStable.l3] at H
                                  by_cases c31 : x13_5 < (l0.length : Int)
                                  · rw [if_pos c31] at H
                                    have c31b0 : decide (x13_5 < (l0.length : Int)) = true := decide_eq_true c31
                                    clear c31
                                    have H' := Aside0.mk H
                                    clear H
                                    go_wp2
                                    repeat (go_quiet (fail); try go_wp2)
                                    go_loopg [10, 14] k5 (fun kq v10 v14 w' => ∃ (x10_6 : Int) (x14_6 : Int), v10 = .int .i64 x10_6 ∧ v14 = .int .i64 x14_6 ∧ Aside0 (payofflaw03_FlowStable.l4 kq l0 t157 x10_6 x10_3 ((rd_T32 t157 x10_3).f0) x13_5 x14_6 = some r) ∧ Aside0 (kq ≤ k5) ∧ Aside0 (Kd.R k32 32 w' w.heap.size (fun _ => True) (.slice (some ad161) t157.length co25) t157) ∧ Aside0 (Below w.heap.size w w'))
                                    case atStart => exact ⟨(x10_5), (0), (by first | rfl | (simp; done) | (simp [*]; done)), (by first | rfl | (simp; done) | (simp [*]; done)), H', ⟨Nat.le_refl _⟩, ⟨by (with_reducible repeat (first | apply Kd.R_alloc | apply Kd.R_drewN | apply Kd.R_drew)); exact HO_8.out⟩, ⟨by repeat (first | (with_reducible first | exact HB.out | apply below_alloc | apply pw_below_drewN | apply below_drew1) | exact HB.out)⟩⟩
                                    case round =>
                                      clear H'
                                      try clear c1
                                      try clear p1
                                      try clear q1
                                      try clear hx1
                                      try clear c2
                                      try clear p2
                                      try clear c3
                                      try clear c5
                                      try clear c5b0
                                      try clear c6
                                      try clear c6b0
                                      try clear p6
                                      try clear c7
                                      try clear c7b0
                                      try clear c8
                                      try clear c8b0
                                      try clear c9
                                      try clear c9b0
                                      try clear c11
                                      try clear c11b0
                                      try clear c12
                                      try clear c12b0
                                      try clear c13
                                      try clear c13b0
                                      try clear c14
                                      try clear p14
                                      try clear q14
                                      try clear hx14
                                      try clear c15
                                      try clear p15
                                      try clear q15
                                      try clear hx15
                                      try clear p16
                                      try clear q16
                                      try clear hx16
                                      try clear c19
                                      try clear c19b0
                                      try clear c19b1
                                      try clear c21
                                      try clear c22
                                      try clear c22b0
                                      try clear c23
                                      try clear c23b0
                                      try clear c26
                                      try clear c26b0
                                      try clear c28
                                      try clear c28b0
                                      try clear c29
                                      try clear c29b0
                                      try clear c30
                                      try clear c31
                                      try clear c31b0
                                      try clear hx147_0
                                      try clear hx148_0
                                      try clear hx149_0
                                      try clear hx149_1
                                      try clear hx149_2
                                      try clear hx150_0
                                      try clear hx151_0
                                      try clear hx151_1
                                      try clear hx151_2
                                      try clear hx156_0
                                      try clear hx161_0
                                      try clear hx161_1
                                      try clear hx161_2
                                      try clear hx162_0
                                      try clear hx162_1
                                      try clear hx162_2
                                      try clear p1
                                      try clear p14
                                      try clear p147
                                      try clear p148
                                      try clear p149
                                      try clear p15
                                      try clear p150
                                      try clear p151
                                      try clear p156
                                      try clear p16
                                      try clear p161
                                      try clear p162
                                      try clear p2
                                      try clear p6
                                      try clear q1
                                      try clear q14
                                      try clear q147
                                      try clear q148
                                      try clear q149
                                      try clear q15
                                      try clear q150
                                      try clear q151
                                      try clear q156
                                      try clear q16
                                      try clear q161
                                      try clear q162
                                      obtain ⟨x10_6, x14_6, rfl, rfl, HA, HK6, HO_8, HB⟩ := hrel
                                      cases gk with
                                      | zero => exact absurd HA.out (by simp [payofflaw03_FlowStable.l4])
                                      | succ k6 =>
                                        have H := HA.out
                                        clear HA
                                        simp only [payofflaw03_FlowStable.l4] at H
                                        by_cases c32 : 0 ≤ x13_5
                                        · rw [if_pos c32] at H
                                          have c32b0 : decide (0 ≤ x13_5) = true := decide_eq_true c32
                                          clear c32
                                          by_cases c33 : x13_5 < (l0.length : Int)
                                          · rw [if_pos c33] at H
                                            have c33b0 : decide (x13_5 < (l0.length : Int)) = true := decide_eq_true c33
                                            clear c33
                                            by_cases c34 : x14_6 < ((rd_L3 l0 x13_5).length : Int)
                                            · rw [if_pos c34] at H
                                              have c34b0 : decide (x14_6 < ((rd_L3 l0 x13_5).length : Int)) = true := decide_eq_true c34
                                              clear c34
                                              by_cases c35 : 0 ≤ x14_6
                                              · rw [if_pos c35] at H
                                                have c35b0 : decide (0 ≤ x14_6) = true := decide_eq_true c35
                                                clear c35
                                                by_cases c36 : ((rd_T32 (rd_L3 l0 x13_5) x14_6).f0) = ((rd_T32 t157 x10_3).f0)
                                                · rw [if_pos c36] at H
                                                  have c36b0 : (((rd_T32 (rd_L3 l0 x13_5) x14_6).f0) == ((rd_T32 t157 x10_3).f0)) = true := beq_iff_eq.mpr c36
                                                  have c36b1 : (((rd_T32 (rd_L3 l0 x13_5) x14_6).f0) != ((rd_T32 t157 x10_3).f0)) = false := bne_eq_false_iff_eq.mpr c36
                                                  clear c36
                                                  by_cases c37 : x10_6 ≥ (t157.length : Int)
                                                  · rw [if_pos c37] at H
                                                    have c37b0 : decide ((t157.length : Int) ≤ x10_6) = true := decide_eq_true c37
                                                    clear c37
                                                    obtain rfl := Option.some.inj H
                                                    have p163 : 0 ≤ (x13_5 : Int) := of_decide_eq_true (by first | (with_reducible assumption) | assumption)
                                                    have q163 : x13_5 < (l0.length : Int) := of_decide_eq_true (by first | (with_reducible assumption) | assumption)
                                                    obtain ⟨ad163, A163_0, c163_0, e163, hx163_0, hl163_0, hi163_0⟩ := at_L3 HR0.out x13_5 p163 q163
                                                    cases e163
                                                    replace hx163_0 := (HB.out.cell (World.block_lt_of_cell? w _ hx163_0)).trans hx163_0
                                                    have HR163_0 := Aside0.mk hi163_0
                                                    have HC163_0 := Aside0.mk hl163_0
                                                    clear hi163_0 hl163_0
                                                    replace p163 := eq_true p163
                                                    replace q163 := eq_true q163
                                                    have p164 : 0 ≤ (x13_5 : Int) := of_decide_eq_true (by first | (with_reducible assumption) | assumption)
                                                    have q164 : x13_5 < (l0.length : Int) := of_decide_eq_true (by first | (with_reducible assumption) | assumption)
                                                    obtain ⟨ad164, A164_0, c164_0, e164, hx164_0, hl164_0, hi164_0⟩ := at_L3 HR0.out x13_5 p164 q164
                                                    obtain rfl : ad163 = ad164 := (by injection e164)
                                                    replace hx164_0 := (HB.out.cell (World.block_lt_of_cell? w _ hx164_0)).trans hx164_0
                                                    have HR164_0 := Aside0.mk hi164_0
                                                    have HC164_0 := Aside0.mk hl164_0
                                                    clear hi164_0 hl164_0
                                                    replace p164 := eq_true p164
                                                    replace q164 := eq_true q164
                                                    have ea_ := Option.some.inj (hx163_0.symm.trans hx164_0)
                                                    injection ea_ with ea_ en_ ec_
                                                    subst ea_
                                                    subst ec_
                                                    clear en_
                                                    have p165 : 0 ≤ (x14_6 : Int) := of_decide_eq_true (by first | (with_reducible assumption) | assumption)
                                                    have q165 : x14_6 < ((rd_L3 l0 x13_5).length : Int) := of_decide_eq_true (by first | (with_reducible assumption) | assumption)
                                                    obtain ⟨ad165, e165, hx165_0, hx165_1, hx165_2⟩ := at_T32 HR164_0.out x14_6 p165 q165
                                                    cases e165
                                                    replace hx165_0 := (HB.out.cell (World.block_lt_of_cell? w _ hx165_0)).trans hx165_0
                                                    replace hx165_1 := (HB.out.cell (World.block_lt_of_cell? w _ hx165_1)).trans hx165_1
                                                    replace hx165_2 := (HB.out.cell (World.block_lt_of_cell? w _ hx165_2)).trans hx165_2
                                                    replace p165 := eq_true p165
                                                    replace q165 := eq_true q165
                                                    go_wp2
                                                    repeat (go_quiet (fail); try go_wp2)
                                                    go_ret
                                                    exact ⟨by first | rfl | (simp [errW_none, errW_some] <;> rfl) | (simp [*, errW_none, errW_some] <;> rfl), by repeat (first | (with_reducible first | exact HB.out | apply below_alloc | apply pw_below_drewN | apply below_drew1) | exact HB.out)⟩
                                                  · rw [if_neg c37] at H
                                                    have c37b0 : decide ((t157.length : Int) ≤ x10_6) = false := decide_eq_false c37
                                                    clear c37
                                                    by_cases c38 : 0 ≤ x10_6
                                                    · rw [if_pos c38] at H
                                                      have c38b0 : decide (0 ≤ x10_6) = true := decide_eq_true c38
                                                      clear c38
                                                      by_cases c39 : x10_6 < (t157.length : Int)
                                                      · rw [if_pos c39] at H
                                                        have c39b0 : decide (x10_6 < (t157.length : Int)) = true := decide_eq_true c39
                                                        clear c39
                                                        by_cases c40 : (!(((rd_T32 t157 x10_6).f0) == ((rd_T32 (rd_L3 l0 x13_5) x14_6).f0)) || (!((((rd_T32 t157 x10_6).f1).toList) == (((rd_T32 (rd_L3 l0 x13_5) x14_6).f1).toList)) || (!(((rd_T32 t157 x10_6).f2) == ((rd_T32 (rd_L3 l0 x13_5) x14_6).f2))))) = true
                                                        · rw [if_pos c40] at H
                                                          have c40b0 : (!(((rd_T32 t157 x10_6).f0) == ((rd_T32 (rd_L3 l0 x13_5) x14_6).f0)) || (!((((rd_T32 t157 x10_6).f1).toList) == (((rd_T32 (rd_L3 l0 x13_5) x14_6).f1).toList)) || (!(((rd_T32 t157 x10_6).f2) == ((rd_T32 (rd_L3 l0 x13_5) x14_6).f2))))) = true := c40
                                                          clear c40
                                                          obtain rfl := Option.some.inj H
                                                          have p163 : 0 ≤ (x13_5 : Int) := of_decide_eq_true (by first | (with_reducible assumption) | assumption)
                                                          have q163 : x13_5 < (l0.length : Int) := of_decide_eq_true (by first | (with_reducible assumption) | assumption)
                                                          obtain ⟨ad163, A163_0, c163_0, e163, hx163_0, hl163_0, hi163_0⟩ := at_L3 HR0.out x13_5 p163 q163
                                                          cases e163
                                                          replace hx163_0 := (HB.out.cell (World.block_lt_of_cell? w _ hx163_0)).trans hx163_0
                                                          have HR163_0 := Aside0.mk hi163_0
                                                          have HC163_0 := Aside0.mk hl163_0
                                                          clear hi163_0 hl163_0
                                                          replace p163 := eq_true p163
                                                          replace q163 := eq_true q163
                                                          have p164 : 0 ≤ (x13_5 : Int) := of_decide_eq_true (by first | (with_reducible assumption) | assumption)
                                                          have q164 : x13_5 < (l0.length : Int) := of_decide_eq_true (by first | (with_reducible assumption) | assumption)
                                                          obtain ⟨ad164, A164_0, c164_0, e164, hx164_0, hl164_0, hi164_0⟩ := at_L3 HR0.out x13_5 p164 q164
                                                          obtain rfl : ad163 = ad164 := (by injection e164)
                                                          replace hx164_0 := (HB.out.cell (World.block_lt_of_cell? w _ hx164_0)).trans hx164_0
                                                          have HR164_0 := Aside0.mk hi164_0
                                                          have HC164_0 := Aside0.mk hl164_0
                                                          clear hi164_0 hl164_0
                                                          replace p164 := eq_true p164
                                                          replace q164 := eq_true q164
                                                          have ea_ := Option.some.inj (hx163_0.symm.trans hx164_0)
                                                          injection ea_ with ea_ en_ ec_
                                                          subst ea_
                                                          subst ec_
                                                          clear en_
                                                          have p165 : 0 ≤ (x14_6 : Int) := of_decide_eq_true (by first | (with_reducible assumption) | assumption)
                                                          have q165 : x14_6 < ((rd_L3 l0 x13_5).length : Int) := of_decide_eq_true (by first | (with_reducible assumption) | assumption)
                                                          obtain ⟨ad165, e165, hx165_0, hx165_1, hx165_2⟩ := at_T32 HR164_0.out x14_6 p165 q165
                                                          cases e165
                                                          replace hx165_0 := (HB.out.cell (World.block_lt_of_cell? w _ hx165_0)).trans hx165_0
                                                          replace hx165_1 := (HB.out.cell (World.block_lt_of_cell? w _ hx165_1)).trans hx165_1
                                                          replace hx165_2 := (HB.out.cell (World.block_lt_of_cell? w _ hx165_2)).trans hx165_2
                                                          replace p165 := eq_true p165
                                                          replace q165 := eq_true q165
                                                          have p166 : 0 ≤ (x10_6 : Int) := of_decide_eq_true (by first | (with_reducible assumption) | assumption)
                                                          have q166 : x10_6 < (t157.length : Int) := of_decide_eq_true (by first | (with_reducible assumption) | assumption)
                                                          obtain ⟨ad166, e166, hx166_0, hx166_1, hx166_2⟩ := at_T32 (Kd.R_reads' HO_8.out).2.2 x10_6 p166 q166
                                                          obtain rfl : ad161 = ad166 := (by injection e166)
                                                          replace p166 := eq_true p166
                                                          replace q166 := eq_true q166
                                                          have p167 : 0 ≤ (x13_5 : Int) := of_decide_eq_true (by first | (with_reducible assumption) | assumption)
                                                          have q167 : x13_5 < (l0.length : Int) := of_decide_eq_true (by first | (with_reducible assumption) | assumption)
                                                          obtain ⟨ad167, A167_0, c167_0, e167, hx167_0, hl167_0, hi167_0⟩ := at_L3 HR0.out x13_5 p167 q167
                                                          obtain rfl : ad163 = ad167 := (by injection e167)
                                                          replace hx167_0 := (HB.out.cell (World.block_lt_of_cell? w _ hx167_0)).trans hx167_0
                                                          have HR167_0 := Aside0.mk hi167_0
                                                          have HC167_0 := Aside0.mk hl167_0
                                                          clear hi167_0 hl167_0
                                                          replace p167 := eq_true p167
                                                          replace q167 := eq_true q167
                                                          have ea_ := Option.some.inj (hx163_0.symm.trans hx167_0)
                                                          injection ea_ with ea_ en_ ec_
                                                          subst ea_
                                                          subst ec_
                                                          clear en_
                                                          have p168 : 0 ≤ (x14_6 : Int) := of_decide_eq_true (by first | (with_reducible assumption) | assumption)
                                                          have q168 : x14_6 < ((rd_L3 l0 x13_5).length : Int) := of_decide_eq_true (by first | (with_reducible assumption) | assumption)
                                                          obtain ⟨ad168, e168, hx168_0, hx168_1, hx168_2⟩ := at_T32 HR167_0.out x14_6 p168 q168
                                                          cases e168
                                                          replace hx168_0 := (HB.out.cell (World.block_lt_of_cell? w _ hx168_0)).trans hx168_0
                                                          replace hx168_1 := (HB.out.cell (World.block_lt_of_cell? w _ hx168_1)).trans hx168_1
                                                          replace hx168_2 := (HB.out.cell (World.block_lt_of_cell? w _ hx168_2)).trans hx168_2
                                                          replace p168 := eq_true p168
                                                          replace q168 := eq_true q168
                                                          go_wp2
                                                          repeat (go_quiet (fail); try go_wp2)
                                                          go_ret
                                                          exact ⟨by first | rfl | (simp [errW_none, errW_some] <;> rfl) | (simp [*, errW_none, errW_some] <;> rfl), by repeat (first | (with_reducible first | exact HB.out | apply below_alloc | apply pw_below_drewN | apply below_drew1) | exact HB.out)⟩
                                                        · rw [if_neg c40] at H
                                                          have c40b0 : (!(((rd_T32 t157 x10_6).f0) == ((rd_T32 (rd_L3 l0 x13_5) x14_6).f0)) || (!((((rd_T32 t157 x10_6).f1).toList) == (((rd_T32 (rd_L3 l0 x13_5) x14_6).f1).toList)) || (!(((rd_T32 t157 x10_6).f2) == ((rd_T32 (rd_L3 l0 x13_5) x14_6).f2))))) = false := by simpa using c40
                                                          clear c40
                                                          have H' := Aside0.mk H
                                                          clear H
                                                          have p163 : 0 ≤ (x13_5 : Int) := of_decide_eq_true (by first | (with_reducible assumption) | assumption)
                                                          have q163 : x13_5 < (l0.length : Int) := of_decide_eq_true (by first | (with_reducible assumption) | assumption)
                                                          obtain ⟨ad163, A163_0, c163_0, e163, hx163_0, hl163_0, hi163_0⟩ := at_L3 HR0.out x13_5 p163 q163
                                                          cases e163
                                                          replace hx163_0 := (HB.out.cell (World.block_lt_of_cell? w _ hx163_0)).trans hx163_0
                                                          have HR163_0 := Aside0.mk hi163_0
                                                          have HC163_0 := Aside0.mk hl163_0
                                                          clear hi163_0 hl163_0
                                                          replace p163 := eq_true p163
                                                          replace q163 := eq_true q163
                                                          have p164 : 0 ≤ (x13_5 : Int) := of_decide_eq_true (by first | (with_reducible assumption) | assumption)
                                                          have q164 : x13_5 < (l0.length : Int) := of_decide_eq_true (by first | (with_reducible assumption) | assumption)
                                                          obtain ⟨ad164, A164_0, c164_0, e164, hx164_0, hl164_0, hi164_0⟩ := at_L3 HR0.out x13_5 p164 q164
                                                          obtain rfl : ad163 = ad164 := (by injection e164)
                                                          replace hx164_0 := (HB.out.cell (World.block_lt_of_cell? w _ hx164_0)).trans hx164_0
                                                          have HR164_0 := Aside0.mk hi164_0
                                                          have HC164_0 := Aside0.mk hl164_0
                                                          clear hi164_0 hl164_0
                                                          replace p164 := eq_true p164
                                                          replace q164 := eq_true q164
                                                          have ea_ := Option.some.inj (hx163_0.symm.trans hx164_0)
                                                          injection ea_ with ea_ en_ ec_
                                                          subst ea_
                                                          subst ec_
                                                          clear en_
                                                          have p165 : 0 ≤ (x14_6 : Int) := of_decide_eq_true (by first | (with_reducible assumption) | assumption)
                                                          have q165 : x14_6 < ((rd_L3 l0 x13_5).length : Int) := of_decide_eq_true (by first | (with_reducible assumption) | assumption)
                                                          obtain ⟨ad165, e165, hx165_0, hx165_1, hx165_2⟩ := at_T32 HR164_0.out x14_6 p165 q165
                                                          cases e165
                                                          replace hx165_0 := (HB.out.cell (World.block_lt_of_cell? w _ hx165_0)).trans hx165_0
                                                          replace hx165_1 := (HB.out.cell (World.block_lt_of_cell? w _ hx165_1)).trans hx165_1
                                                          replace hx165_2 := (HB.out.cell (World.block_lt_of_cell? w _ hx165_2)).trans hx165_2
                                                          replace p165 := eq_true p165
                                                          replace q165 := eq_true q165
                                                          have p166 : 0 ≤ (x10_6 : Int) := of_decide_eq_true (by first | (with_reducible assumption) | assumption)
                                                          have q166 : x10_6 < (t157.length : Int) := of_decide_eq_true (by first | (with_reducible assumption) | assumption)
                                                          obtain ⟨ad166, e166, hx166_0, hx166_1, hx166_2⟩ := at_T32 (Kd.R_reads' HO_8.out).2.2 x10_6 p166 q166
                                                          obtain rfl : ad161 = ad166 := (by injection e166)
                                                          replace p166 := eq_true p166
                                                          replace q166 := eq_true q166
                                                          have p167 : 0 ≤ (x13_5 : Int) := of_decide_eq_true (by first | (with_reducible assumption) | assumption)
                                                          have q167 : x13_5 < (l0.length : Int) := of_decide_eq_true (by first | (with_reducible assumption) | assumption)
                                                          obtain ⟨ad167, A167_0, c167_0, e167, hx167_0, hl167_0, hi167_0⟩ := at_L3 HR0.out x13_5 p167 q167
                                                          obtain rfl : ad163 = ad167 := (by injection e167)
                                                          replace hx167_0 := (HB.out.cell (World.block_lt_of_cell? w _ hx167_0)).trans hx167_0
                                                          have HR167_0 := Aside0.mk hi167_0
                                                          have HC167_0 := Aside0.mk hl167_0
                                                          clear hi167_0 hl167_0
                                                          replace p167 := eq_true p167
                                                          replace q167 := eq_true q167
                                                          have ea_ := Option.some.inj (hx163_0.symm.trans hx167_0)
                                                          injection ea_ with ea_ en_ ec_
                                                          subst ea_
                                                          subst ec_
                                                          clear en_
                                                          have p168 : 0 ≤ (x14_6 : Int) := of_decide_eq_true (by first | (with_reducible assumption) | assumption)
                                                          have q168 : x14_6 < ((rd_L3 l0 x13_5).length : Int) := of_decide_eq_true (by first | (with_reducible assumption) | assumption)
                                                          obtain ⟨ad168, e168, hx168_0, hx168_1, hx168_2⟩ := at_T32 HR167_0.out x14_6 p168 q168
                                                          cases e168
                                                          replace hx168_0 := (HB.out.cell (World.block_lt_of_cell? w _ hx168_0)).trans hx168_0
                                                          replace hx168_1 := (HB.out.cell (World.block_lt_of_cell? w _ hx168_1)).trans hx168_1
                                                          replace hx168_2 := (HB.out.cell (World.block_lt_of_cell? w _ hx168_2)).trans hx168_2
                                                          replace p168 := eq_true p168
                                                          replace q168 := eq_true q168
                                                          go_wp2
                                                          repeat (go_quiet (fail); try go_wp2)
                                                          go_roundg k6
                                                          case measure => have := HK1.out; have := HJ16.out; have := HK3.out; have := HJ23.out; have := HK5.out; have := HK6.out; omega
                                                          case rel => exact ⟨(wrap64 (x10_6 + 1)), (wrap64 (x14_6 + 1)), (by first | rfl | (simp; done) | (simp [*]; done)), (by first | rfl | (simp; done) | (simp [*]; done)), H', ⟨by have := HK1.out; have := HJ16.out; have := HK3.out; have := HJ23.out; have := HK5.out; have := HK6.out; omega⟩, ⟨by (with_reducible repeat (first | apply Kd.R_alloc | apply Kd.R_drewN | apply Kd.R_drew)); exact HO_8.out⟩, ⟨by repeat (first | (with_reducible first | exact HB.out | apply below_alloc | apply pw_below_drewN | apply below_drew1) | exact HB.out)⟩⟩
                                                      · rw [if_neg c39] at H
                                                        exact absurd H (by simp)
                                                    · rw [if_neg c38] at H
                                                      exact absurd H (by simp)
                                                · rw [if_neg c36] at H
                                                  have c36b0 : (((rd_T32 (rd_L3 l0 x13_5) x14_6).f0) == ((rd_T32 t157 x10_3).f0)) = false := beq_eq_false_iff_ne.mpr c36
                                                  have c36b1 : (((rd_T32 (rd_L3 l0 x13_5) x14_6).f0) != ((rd_T32 t157 x10_3).f0)) = true := bne_iff_ne.mpr c36
                                                  have H' := Aside0.mk H
                                                  clear H
                                                  have p163 : 0 ≤ (x13_5 : Int) := of_decide_eq_true (by first | (with_reducible assumption) | assumption)
                                                  have q163 : x13_5 < (l0.length : Int) := of_decide_eq_true (by first | (with_reducible assumption) | assumption)
                                                  obtain ⟨ad163, A163_0, c163_0, e163, hx163_0, hl163_0, hi163_0⟩ := at_L3 HR0.out x13_5 p163 q163
                                                  cases e163
                                                  replace hx163_0 := (HB.out.cell (World.block_lt_of_cell? w _ hx163_0)).trans hx163_0
                                                  have HR163_0 := Aside0.mk hi163_0
                                                  have HC163_0 := Aside0.mk hl163_0
                                                  clear hi163_0 hl163_0
                                                  replace p163 := eq_true p163
                                                  replace q163 := eq_true q163
                                                  have p164 : 0 ≤ (x13_5 : Int) := of_decide_eq_true (by first | (with_reducible assumption) | assumption)
                                                  have q164 : x13_5 < (l0.length : Int) := of_decide_eq_true (by first | (with_reducible assumption) | assumption)
                                                  obtain ⟨ad164, A164_0, c164_0, e164, hx164_0, hl164_0, hi164_0⟩ := at_L3 HR0.out x13_5 p164 q164
                                                  obtain rfl : ad163 = ad164 := (by injection e164)
                                                  replace hx164_0 := (HB.out.cell (World.block_lt_of_cell? w _ hx164_0)).trans hx164_0
                                                  have HR164_0 := Aside0.mk hi164_0
                                                  have HC164_0 := Aside0.mk hl164_0
                                                  clear hi164_0 hl164_0
                                                  replace p164 := eq_true p164
                                                  replace q164 := eq_true q164
                                                  have ea_ := Option.some.inj (hx163_0.symm.trans hx164_0)
                                                  injection ea_ with ea_ en_ ec_
                                                  subst ea_
                                                  subst ec_
                                                  clear en_
                                                  have p165 : 0 ≤ (x14_6 : Int) := of_decide_eq_true (by first | (with_reducible assumption) | assumption)
                                                  have q165 : x14_6 < ((rd_L3 l0 x13_5).length : Int) := of_decide_eq_true (by first | (with_reducible assumption) | assumption)
                                                  obtain ⟨ad165, e165, hx165_0, hx165_1, hx165_2⟩ := at_T32 HR164_0.out x14_6 p165 q165
                                                  cases e165
                                                  replace hx165_0 := (HB.out.cell (World.block_lt_of_cell? w _ hx165_0)).trans hx165_0
                                                  replace hx165_1 := (HB.out.cell (World.block_lt_of_cell? w _ hx165_1)).trans hx165_1
                                                  replace hx165_2 := (HB.out.cell (World.block_lt_of_cell? w _ hx165_2)).trans hx165_2
                                                  replace p165 := eq_true p165
                                                  replace q165 := eq_true q165
                                                  go_wp2
                                                  repeat (go_quiet (fail); try go_wp2)
                                                  go_roundg k6
                                                  case measure => have := HK1.out; have := HJ16.out; have := HK3.out; have := HJ23.out; have := HK5.out; have := HK6.out; omega
                                                  case rel => exact ⟨(x10_6), (wrap64 (x14_6 + 1)), (by first | rfl | (simp; done) | (simp [*]; done)), (by first | rfl | (simp; done) | (simp [*]; done)), H', ⟨by have := HK1.out; have := HJ16.out; have := HK3.out; have := HJ23.out; have := HK5.out; have := HK6.out; omega⟩, ⟨by (with_reducible repeat (first | apply Kd.R_alloc | apply Kd.R_drewN | apply Kd.R_drew)); exact HO_8.out⟩, ⟨by repeat (first | (with_reducible first | exact HB.out | apply below_alloc | apply pw_below_drewN | apply below_drew1) | exact HB.out)⟩⟩
                                              · rw [if_neg c35] at H
                                                exact absurd H (by simp)
                                            · rw [if_neg c34] at H
                                              have c34b0 : decide (x14_6 < ((rd_L3 l0 x13_5).length : Int)) = false := decide_eq_false c34
                                              clear c34
                                              have H' := Aside0.mk H
                                              clear H
                                              have p163 : 0 ≤ (x13_5 : Int) := of_decide_eq_true (by first | (with_reducible assumption) | assumption)
                                              have q163 : x13_5 < (l0.length : Int) := of_decide_eq_true (by first | (with_reducible assumption) | assumption)
                                              obtain ⟨ad163, A163_0, c163_0, e163, hx163_0, hl163_0, hi163_0⟩ := at_L3 HR0.out x13_5 p163 q163
                                              cases e163
                                              replace hx163_0 := (HB.out.cell (World.block_lt_of_cell? w _ hx163_0)).trans hx163_0
                                              have HR163_0 := Aside0.mk hi163_0
                                              have HC163_0 := Aside0.mk hl163_0
                                              clear hi163_0 hl163_0
                                              replace p163 := eq_true p163
                                              replace q163 := eq_true q163
                                              go_wp2
                                              repeat (go_quiet (fail); try go_wp2)
                                              go_roundg k6
                                              case measure => have := HK1.out; have := HJ16.out; have := HK3.out; have := HJ23.out; have := HK5.out; have := HK6.out; omega
                                              case rel => exact ⟨(x10_6), (wrap64 (x13_5 + 1)), (by first | rfl | (simp; done) | (simp [*]; done)), (by first | rfl | (simp; done) | (simp [*]; done)), H', ⟨by have := HK1.out; have := HJ16.out; have := HK3.out; have := HJ23.out; have := HK5.out; have := HK6.out; omega⟩, ⟨by (with_reducible repeat (first | apply Kd.R_alloc | apply Kd.R_drewN | apply Kd.R_drew)); exact HO_8.out⟩, ⟨by repeat (first | (with_reducible first | exact HB.out | apply below_alloc | apply pw_below_drewN | apply below_drew1) | exact HB.out)⟩⟩
                                          · rw [if_neg c33] at H
                                            exact absurd H (by simp)
                                        · rw [if_neg c32] at H
                                          exact absurd H (by simp)
                                  · rw [if_neg c31] at H
                                    have c31b0 : decide (x13_5 < (l0.length : Int)) = false := decide_eq_false c31
                                    clear c31
                                    by_cases c41 : x10_5 = x10_3
                                    · rw [if_pos c41] at H
                                      have c41b0 : (x10_5 == x10_3) = true := beq_iff_eq.mpr c41
                                      have c41b1 : (x10_5 != x10_3) = false := bne_eq_false_iff_eq.mpr c41
                                      clear c41
                                      obtain rfl := Option.some.inj H
                                      go_wp2
                                      repeat (go_quiet (fail); try go_wp2)
                                      go_ret
                                      exact ⟨by first | rfl | (simp [errW_none, errW_some] <;> rfl) | (simp [*, errW_none, errW_some] <;> rfl), by repeat (first | (with_reducible first | exact HB.out | apply below_alloc | apply pw_below_drewN | apply below_drew1) | exact HB.out)⟩
                                    · rw [if_neg c41] at H
                                      have c41b0 : (x10_5 == x10_3) = false := beq_eq_false_iff_ne.mpr c41
                                      have c41b1 : (x10_5 != x10_3) = true := bne_iff_ne.mpr c41
                                      have H' := Aside0.mk H
                                      clear H
                                      go_wp2
                                      repeat (go_quiet (fail); try go_wp2)
                                      go_roundg k5
                                      case measure => have := HK1.out; have := HJ16.out; have := HK3.out; have := HJ23.out; have := HK5.out; omega
                                      case rel => exact ⟨(x10_5), (by first | rfl | (simp; done) | (simp [*]; done)), H', ⟨by have := HK1.out; have := HJ16.out; have := HK3.out; have := HJ23.out; have := HK5.out; omega⟩, ⟨by (with_reducible repeat (first | apply Kd.R_alloc | apply Kd.R_drewN | apply Kd.R_drew)); exact HO_8.out⟩, ⟨by repeat (first | (with_reducible first | exact HB.out | apply below_alloc | apply pw_below_drewN | apply below_drew1) | exact HB.out)⟩⟩
                      · rw [if_neg c23] at H
                        exact absurd H (by simp)
                    · rw [if_neg c22] at H
                      have c22b0 : decide (x10_3 < (t157.length : Int)) = false := decide_eq_false c22
                      clear c22
                      obtain rfl := Option.some.inj H
                      obtain ⟨Ao42, co42, eo42⟩ := Kd.R_slice HO_8.out
                      subst eo42
                      go_wp2
                      repeat (go_quiet (fail); try go_wp2)
                      go_ret
                      exact ⟨by first | rfl | (simp [errW_none, errW_some] <;> rfl) | (simp [*, errW_none, errW_some] <;> rfl), by repeat (first | (with_reducible first | exact HB.out | apply below_alloc | apply pw_below_drewN | apply below_drew1) | exact HB.out)⟩
  · replace c3 := Bool.eq_false_iff.mpr c3
    subst c3
    have H1 : (some false) = some r := by rw [if_neg (show ¬ (false = true) by decide)] at H; exact H
    clear H
    have H := H1
    clear H1
    obtain rfl := Option.some.inj H
    go_enter Tryd.func8, Tryd.ntmps8
    go_wp2_with (first | (go_at_call 13; (with_reducible refine (payofflaw03_heads.calls k  false _ ⟨tab_below HTAB.out (by repeat (first | (with_reducible first | exact HB.out | apply below_alloc | apply pw_below_drewN | apply below_drew1) | exact HB.out))⟩ A2.out).mono ?_); rintro e w43 ⟨rfl, hb⟩; have n0_ := Aside0.mk (below_step (by repeat (first | (with_reducible first | exact HB.out | apply below_alloc | apply pw_below_drewN | apply below_drew1) | exact HB.out)) hb); clear HB; have HB := n0_; clear n0_; (try clear hb); (try clear hb2); (try clear hk); (try clear hi)))
    repeat (go_quiet (first | (go_at_call 13; (with_reducible refine (payofflaw03_heads.calls k  false _ ⟨tab_below HTAB.out (by repeat (first | (with_reducible first | exact HB.out | apply below_alloc | apply pw_below_drewN | apply below_drew1) | exact HB.out))⟩ A2.out).mono ?_); rintro e w43 ⟨rfl, hb⟩; have n0_ := Aside0.mk (below_step (by repeat (first | (with_reducible first | exact HB.out | apply below_alloc | apply pw_below_drewN | apply below_drew1) | exact HB.out)) hb); clear HB; have HB := n0_; clear n0_; (try clear hb); (try clear hb2); (try clear hk); (try clear hi))); try go_wp2_with (first | (go_at_call 13; (with_reducible refine (payofflaw03_heads.calls k  false _ ⟨tab_below HTAB.out (by repeat (first | (with_reducible first | exact HB.out | apply below_alloc | apply pw_below_drewN | apply below_drew1) | exact HB.out))⟩ A2.out).mono ?_); rintro e w43 ⟨rfl, hb⟩; have n0_ := Aside0.mk (below_step (by repeat (first | (with_reducible first | exact HB.out | apply below_alloc | apply pw_below_drewN | apply below_drew1) | exact HB.out)) hb); clear HB; have HB := n0_; clear n0_; (try clear hb); (try clear hb2); (try clear hk); (try clear hi))))
    go_ret
    exact ⟨by first | rfl | (simp [errW_none, errW_some] <;> rfl) | (simp [*, errW_none, errW_some] <;> rfl), by repeat (first | (with_reducible first | exact HB.out | apply below_alloc | apply pw_below_drewN | apply below_drew1) | exact HB.out)⟩

end Go.Proofs.YtdfndbegifdejaaDoor.GD
